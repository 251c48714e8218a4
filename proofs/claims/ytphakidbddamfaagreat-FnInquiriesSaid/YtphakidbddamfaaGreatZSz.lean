/-
  Components and deductions: the program's functions and the reference's, in the abstract machine.
-/
import Derived.Test.YtphakidbddamfaaGreatZSx
set_option linter.unusedSimpArgs false
set_option linter.unusedVariables false
set_option maxHeartbeats 2000000
set_option maxRecDepth 100000
namespace Go.Proofs.YtphakidbddamfaaGreat
open Go.RowKit
theorem l8 (m:MarksD) (top:Int):(dB m top).length = m.components.length:=by simp [dB]
theorem jG {m:MarksD} {top:Int} {k:Nat} {g:List Int} (hg:m.components[k]? = some g):(dB m top)[k]? = some (min (eh g) top):=by unfold dB;rw [ap,hg];rfl
theorem pE {g:List Int} (h:jc g):-11000≤cH g∧cH g≤11000:=by
 have:=iI (A:=1000) (by omega) h.1 h.2.1 h.2.2
 omega
theorem k4 (g:List Int) (hg:jc g):FnEq Tryz.prog 230 [.d (.lst 1 (g.map aa))] [.d (.int .i64 (eh g))]:=by
 have h1:=pE hg
 have h2:=iv hg.1 hg.2.1
 have ht:=jW g 1000 (by omega) (by omega) hg.1 hg.2.1 hg.2.2
 have hr:=gz (cH g) (dX g) (by omega) (by omega) (by omega) (by omega)
 have e:eh g = dT (cH g) (dX g):=rfl
 rw [e]
 refine aN ae Tryz.func230 rfl rfl ?_;simp only [Tryz.ntmps230,aP,aK,Nat.reduceAdd,Nat.reduceSub,aV]
 repeat' (first|((with_reducible first|(apply hK;clear hK K)|refine ah fun U O=>?_|apply ag|(apply Z<;>(intro hc;try simp at hc;try omega)))<;>try simp only [go_sem])|(with_reducible first|apply aj|(apply O;clear O U)|refine kN xV fun K hK=>?_|refine kO fun K hK=>?_|refine aI ?_)|((with_reducible apply CallK.eq);(· with_reducible first|exact ht|exact hr);(· simp [RV.flat,D.sc,aa]);try simp only [go_sem])|fail)
 all_goals first
  |(exfalso;omega)
  |(refine ak rfl rfl (by simp [am,lk]) ?_;rfl)
def jT (m:MarksD):List Int:=m.components.map eh
theorem r_ (m:MarksD):(jT m).length = m.components.length:=by simp [jT]
theorem kJ {m:MarksD} {k:Nat} {g:List Int} (hg:m.components[k]? = some g):(jT m)[k]? = some (eh g):=by unfold jT;rw [ap,hg];rfl
theorem kb (m:MarksD) (hm:MarksOk m):FnEq Tryz.prog 219 [.agg m.cs] [.row 3 1 ((jT m).map aa)]:=by
 have h3:=hm.1
 have hsl:=r_ m
 refine aN ae Tryz.func219 rfl rfl ?_;simp only [Tryz.ntmps219,aP,aK,Nat.reduceAdd,Nat.reduceSub,aV]
 repeat' (first|((with_reducible first|(apply hK;clear hK K)|refine ah fun U O=>?_|apply ag|(apply Z<;>(intro hc;try simp at hc;try omega)))<;>try simp only [go_sem])|(with_reducible first|apply aj|(apply O;clear O U)|refine kN s8 fun K hK=>?_|refine kO fun K hK=>?_|refine aI ?_)|apply iB)
 refine aA [2,3,5,10,11,12,13,14,15,16,17,18,19] (fun k:Nat=>[(10,.d (.int .i64 (k:Int))),(3,.row 1 k)]) (fun k:Nat=>[(0,.box 45 [.d (.lst 1 (m.grades.map (ax 1 aa))),.d (.lst 1 (m.components.map (ax 1 aa)))]),(1,.row 3 1 (((jT m).take k).map aa))]) 2 (fun k:Nat=>k≤m.components.length) (fun k:Nat=>m.components.length - k) 0 (Nat.zero_le _) (an [] (by simp [lk,ab,List.take_zero,aG]<;>omega)) ?_
 intro k hkl
 simp only [bc,wipe,wl,bb,bx,rm,if_true,if_false,Nat.reduceEqDiff,Bool.false_eq_true,reduceCtorEq]
 by_cases hlt:k < m.components.length
 ·have hgx:=List.getElem?_eq_getElem hlt
  generalize m.components[k] = g at hgx
  have hsc:=k4 g (hm.comp hgx)
  have hgt0:=kJ hgx
  have hsn:=iJ (f:=aa) hgt0
  have htl:(List.map aa (List.take k (jT m))).length = k:=by simp;omega
  generalize eh g = sc at hsc hgt0 hsn
  repeat' (first|((with_reducible first|(apply hK;clear hK K)|refine ah fun U O=>?_|apply ag|(apply Z<;>(intro hc;try simp at hc;try omega)))<;>try simp only [go_sem,ap,hgx,ar,ax,htl])|(with_reducible first|apply aj|(apply O;clear O U)|refine kN s8 fun K hK=>?_|refine kO fun K hK=>?_|refine aI ?_)|((with_reducible apply CallK.eq);(· with_reducible first|exact hsc);(· simp [RV.flat,D.sc,aa]);try simp only [go_sem,ap,hgx,ar,ax,htl])|apply iB)
  all_goals first
   |(exfalso;omega)
   |exact ⟨k + 1,by omega,by omega,(an [] (by simp [lk,ab,hsn,aa,-List.map_take]<;>omega))⟩
 ·obtain rfl:k = m.components.length:=by omega
  have e:(jT m).take m.components.length = jT m:=List.take_of_length_le (by omega)
  rw [e]
  repeat' (first|((with_reducible first|(apply hK;clear hK K)|refine ah fun U O=>?_|apply ag|(apply Z<;>(intro hc;try simp at hc;try omega)))<;>try simp only [go_sem])|(with_reducible first|apply aj|(apply O;clear O U)|refine kN s8 fun K hK=>?_|refine kO fun K hK=>?_|refine aI ?_)|apply iB)
  all_goals first
   |(exfalso;omega)
   |(refine ak rfl (by simp only [hsl,bj,bn,ab,lk,ao,aK,List.length_append,List.length_take,if_true,if_false,Nat.reduceEqDiff,Nat.reduceBEq,Bool.false_eq_true,Option.some.injEq];rfl) (by simp [am,lk]) ?_;rfl)
theorem wJ (falls:Int) (h:0≤falls):fB falls = if falls = 1 then 950 else if 1 < falls then 900 else 1000:=by
 unfold fB
 split
 ·rw [if_neg (by omega),if_neg (by omega)]
 ·split
  ·rfl
  ·rw [if_pos (by omega)]
theorem pA (m:MarksD) (falls:Int) (hm:MarksOk m) (hf:0≤falls):FnEq Tryz.prog 193 [.agg m.cs,.d (.int .i64 falls)] [.d (.int .i64 (fS m falls))]:=by
 have h3:=hm.1
 have hsl:=r_ m
 have hcl:=l8 m (fB falls)
 have hcs:=kb m hm
 have hcb:=nM falls
 have hbd:=nH hm hcb.1 hcb.2
 have e:=wJ falls hf
 obtain ⟨top,htop⟩:∃ top,top = fB falls:=⟨_,rfl⟩
 rw [←htop] at hcl hcb hbd e
 have hfin:fS m falls = (dB m top).sum:=by rw [htop];rfl
 rw [hfin]
 have hz:((dB m top).take 0).sum = 0:=rfl
 refine aN ae Tryz.func193 rfl rfl ?_;simp only [Tryz.ntmps193,aP,aK,Nat.reduceAdd,Nat.reduceSub,aV]
 by_cases h1:falls = 1
 ·rw [if_pos h1] at e
  repeat' (first|((with_reducible first|(apply hK;clear hK K)|refine ah fun U O=>?_|apply ag|(apply Z<;>(intro hc;try simp at hc;try omega)))<;>try simp only [go_sem])|(with_reducible first|apply aj|(apply O;clear O U)|refine kN ik fun K hK=>?_|refine kO fun K hK=>?_|refine aI ?_)|((with_reducible apply CallK.eq);(· with_reducible first|exact hcs);(· simp [RV.flat,D.sc,aa]);try simp only [go_sem])|apply iB)
  all_goals first
   |(exfalso;omega)
   |skip
  refine aA [4,6,8,18,19,20,21,22,23,24,25,26,27] (fun k:Nat=>[(18,.d (.int .i64 (k:Int))),(6,.d (.int .i64 ((dB m top).take k).sum))]) (fun k:Nat=>[(1,.row 3 1 ((jT m).map aa))]) 2 (fun k:Nat=>k≤m.components.length) (fun k:Nat=>m.components.length - k) 0 (Nat.zero_le _) (an [] (by simp [lk,ab,hz,hsl]<;>omega)) ?_
  intro k hkl
  have hb1:=cO (by decide) (by decide) hbd (by omega) k
  have hb2:=cO (by decide) (by decide) hbd (by omega) (k + 1)
  simp only [bc,wipe,wl,bb,bx,rm,if_true,if_false,Nat.reduceEqDiff,Bool.false_eq_true,reduceCtorEq]
  by_cases hlt:k < m.components.length
  ·have hgx:=List.getElem?_eq_getElem hlt
   generalize m.components[k] = g at hgx
   have hg1:=kJ hgx
   have hg2:=jG (top:=top) hgx
   have hs:=gf hg2
   have hgb:=jK (hm.comp hgx)
   generalize eh g = sc at hg1 hs hgb
   rw [e] at hs
   repeat' (first|((with_reducible first|(apply hK;clear hK K)|refine ah fun U O=>?_|apply ag|(apply Z<;>(intro hc;try simp at hc;try omega)))<;>try simp only [go_sem,ap,hg1,ar,aa,hlt,hsl])|(with_reducible first|apply aj|(apply O;clear O U)|refine kN ik fun K hK=>?_|refine kO fun K hK=>?_|refine aI ?_)|apply iB)
   all_goals first
    |(exfalso;omega)
    |exact ⟨k + 1,by omega,by omega,(an [] (by simp [lk,ab,hs,e]<;>omega))⟩
  ·have e3:(dB m top).take k = dB m top:=List.take_of_length_le (by omega)
   rw [e3]
   repeat' (first|((with_reducible first|(apply hK;clear hK K)|refine ah fun U O=>?_|apply ag|(apply Z<;>(intro hc;try simp at hc;try omega)))<;>try simp only [go_sem])|(with_reducible first|apply aj|(apply O;clear O U)|refine kN ik fun K hK=>?_|refine kO fun K hK=>?_|refine aI ?_)|apply iB)
   all_goals first
    |(exfalso;omega)
    |(refine ak rfl rfl (by simp [am,lk]) ?_;rfl)
 ·rw [if_neg h1] at e
  by_cases h2:1 < falls
  ·rw [if_pos h2] at e
   repeat' (first|((with_reducible first|(apply hK;clear hK K)|refine ah fun U O=>?_|apply ag|(apply Z<;>(intro hc;try simp at hc;try omega)))<;>try simp only [go_sem])|(with_reducible first|apply aj|(apply O;clear O U)|refine kN ik fun K hK=>?_|refine kO fun K hK=>?_|refine aI ?_)|((with_reducible apply CallK.eq);(· with_reducible first|exact hcs);(· simp [RV.flat,D.sc,aa]);try simp only [go_sem])|apply iB)
   all_goals first
    |(exfalso;omega)
    |skip
   refine aA [4,6,8,18,19,20,21,22,23,24,25,26,27] (fun k:Nat=>[(18,.d (.int .i64 (k:Int))),(6,.d (.int .i64 ((dB m top).take k).sum))]) (fun k:Nat=>[(1,.row 3 1 ((jT m).map aa))]) 2 (fun k:Nat=>k≤m.components.length) (fun k:Nat=>m.components.length - k) 0 (Nat.zero_le _) (an [] (by simp [lk,ab,hz,hsl]<;>omega)) ?_
   intro k hkl
   have hb1:=cO (by decide) (by decide) hbd (by omega) k
   have hb2:=cO (by decide) (by decide) hbd (by omega) (k + 1)
   simp only [bc,wipe,wl,bb,bx,rm,if_true,if_false,Nat.reduceEqDiff,Bool.false_eq_true,reduceCtorEq]
   by_cases hlt:k < m.components.length
   ·have hgx:=List.getElem?_eq_getElem hlt
    generalize m.components[k] = g at hgx
    have hg1:=kJ hgx
    have hg2:=jG (top:=top) hgx
    have hs:=gf hg2
    have hgb:=jK (hm.comp hgx)
    generalize eh g = sc at hg1 hs hgb
    rw [e] at hs
    repeat' (first|((with_reducible first|(apply hK;clear hK K)|refine ah fun U O=>?_|apply ag|(apply Z<;>(intro hc;try simp at hc;try omega)))<;>try simp only [go_sem,ap,hg1,ar,aa,hlt,hsl])|(with_reducible first|apply aj|(apply O;clear O U)|refine kN ik fun K hK=>?_|refine kO fun K hK=>?_|refine aI ?_)|apply iB)
    all_goals first
     |(exfalso;omega)
     |exact ⟨k + 1,by omega,by omega,(an [] (by simp [lk,ab,hs,e]<;>omega))⟩
   ·have e3:(dB m top).take k = dB m top:=List.take_of_length_le (by omega)
    rw [e3]
    repeat' (first|((with_reducible first|(apply hK;clear hK K)|refine ah fun U O=>?_|apply ag|(apply Z<;>(intro hc;try simp at hc;try omega)))<;>try simp only [go_sem])|(with_reducible first|apply aj|(apply O;clear O U)|refine kN ik fun K hK=>?_|refine kO fun K hK=>?_|refine aI ?_)|apply iB)
    all_goals first
     |(exfalso;omega)
     |(refine ak rfl rfl (by simp [am,lk]) ?_;rfl)
  ·rw [if_neg h2] at e
   repeat' (first|((with_reducible first|(apply hK;clear hK K)|refine ah fun U O=>?_|apply ag|(apply Z<;>(intro hc;try simp at hc;try omega)))<;>try simp only [go_sem])|(with_reducible first|apply aj|(apply O;clear O U)|refine kN ik fun K hK=>?_|refine kO fun K hK=>?_|refine aI ?_)|((with_reducible apply CallK.eq);(· with_reducible first|exact hcs);(· simp [RV.flat,D.sc,aa]);try simp only [go_sem])|apply iB)
   all_goals first
    |(exfalso;omega)
    |skip
   refine aA [4,6,8,18,19,20,21,22,23,24,25,26,27] (fun k:Nat=>[(18,.d (.int .i64 (k:Int))),(6,.d (.int .i64 ((dB m top).take k).sum))]) (fun k:Nat=>[(1,.row 3 1 ((jT m).map aa))]) 2 (fun k:Nat=>k≤m.components.length) (fun k:Nat=>m.components.length - k) 0 (Nat.zero_le _) (an [] (by simp [lk,ab,hz,hsl]<;>omega)) ?_
   intro k hkl
   have hb1:=cO (by decide) (by decide) hbd (by omega) k
   have hb2:=cO (by decide) (by decide) hbd (by omega) (k + 1)
   simp only [bc,wipe,wl,bb,bx,rm,if_true,if_false,Nat.reduceEqDiff,Bool.false_eq_true,reduceCtorEq]
   by_cases hlt:k < m.components.length
   ·have hgx:=List.getElem?_eq_getElem hlt
    generalize m.components[k] = g at hgx
    have hg1:=kJ hgx
    have hg2:=jG (top:=top) hgx
    have hs:=gf hg2
    have hgb:=jK (hm.comp hgx)
    generalize eh g = sc at hg1 hs hgb
    rw [e] at hs
    repeat' (first|((with_reducible first|(apply hK;clear hK K)|refine ah fun U O=>?_|apply ag|(apply Z<;>(intro hc;try simp at hc;try omega)))<;>try simp only [go_sem,ap,hg1,ar,aa,hlt,hsl])|(with_reducible first|apply aj|(apply O;clear O U)|refine kN ik fun K hK=>?_|refine kO fun K hK=>?_|refine aI ?_)|apply iB)
    all_goals first
     |(exfalso;omega)
     |exact ⟨k + 1,by omega,by omega,(an [] (by simp [lk,ab,hs,e]<;>omega))⟩
   ·have e3:(dB m top).take k = dB m top:=List.take_of_length_le (by omega)
    rw [e3]
    repeat' (first|((with_reducible first|(apply hK;clear hK K)|refine ah fun U O=>?_|apply ag|(apply Z<;>(intro hc;try simp at hc;try omega)))<;>try simp only [go_sem])|(with_reducible first|apply aj|(apply O;clear O U)|refine kN ik fun K hK=>?_|refine kO fun K hK=>?_|refine aI ?_)|apply iB)
    all_goals first
     |(exfalso;omega)
     |(refine ak rfl rfl (by simp [am,lk]) ?_;rfl)
theorem nr (m:MarksD) (f falls:Int) (hm:MarksOk m) (hf:ez f) (h0:0≤falls):FnEq Tryz.prog 164 [.agg m.cs,.d (.int .i64 f),.d (.int .i64 falls)] [.d (.int .i64 (dq m f falls))]:=by
 have hcs:=pA m falls hm h0
 have hpb:=lS hm hf falls
 have hcb:=qh hm falls
 have hr:=gz (fS m falls * f) 100 (by omega) (by omega) (by omega) (by omega)
 have e:dq m f falls = dT (fS m falls * f) 100:=rfl
 rw [e]
 refine aN ae Tryz.func164 rfl rfl ?_;simp only [Tryz.ntmps164,aP,aK,Nat.reduceAdd,Nat.reduceSub,aV]
 generalize hp:fS m falls * f = p at hpb hr
 generalize fS m falls = cs at hcs hp hcb
 repeat' (first|((with_reducible first|(apply hK;clear hK K)|refine ah fun U O=>?_|apply ag|(apply Z<;>(intro hc;try simp at hc;try omega)))<;>try simp only [go_sem,hp])|(with_reducible first|apply aj|(apply O;clear O U)|refine kN x2 fun K hK=>?_|refine kO fun K hK=>?_|refine aI ?_)|((with_reducible apply CallK.eq);(· with_reducible first|exact hcs|exact hr);(· simp [RV.flat,D.sc,aa]);try simp only [go_sem,hp])|fail)
 all_goals first
  |(exfalso;omega)
  |(refine ak rfl rfl (by simp [am,lk]) ?_;rfl)
theorem ta (m:MarksD) (k:Nat) (g:List Int) (hgx:m.components[k]? = some g) (hg:jc g):FnEq Tryz.prog 227 [.agg m.cs,.d (.int .i64 (k:Int))] [.d (.int .i64 (eh g))]:=by
 have hgl:=(List.getElem?_eq_some_iff.1 hgx).1
 have h1:=pE hg
 have h2:=iv hg.1 hg.2.1
 have ht:=oz g 1000 (by omega) (by omega) hg.1 hg.2.1 hg.2.2
 have hr:=ig (cH g) (dX g) (by omega) (by omega) (by omega) (by omega)
 have e:eh g = dT (cH g) (dX g):=rfl
 rw [e]
 refine aN ae Tryz.func227 rfl rfl ?_;simp only [Tryz.ntmps227,aP,aK,Nat.reduceAdd,Nat.reduceSub,aV]
 repeat' (first|((with_reducible first|(apply hK;clear hK K)|refine ah fun U O=>?_|apply ag|(apply Z<;>(intro hc;try simp at hc;try omega)))<;>try simp only [go_sem,ap,hgx,ar,ax,hgl])|(with_reducible first|apply aj|(apply O;clear O U)|refine kN yt fun K hK=>?_|refine kO fun K hK=>?_|refine aI ?_)|((with_reducible apply CallK.eq);(· with_reducible first|exact ht|exact hr);(· simp [RV.flat,D.sc,aa]);try simp only [go_sem,ap,hgx,ar,ax,hgl])|fail)
 all_goals first
  |(exfalso;omega)
  |(refine ak rfl rfl (by simp [am,lk]) ?_;rfl)
theorem ry (m:MarksD) (top:Int) (hm:MarksOk m):FnEq Tryz.prog 216 [.agg m.cs,.d (.int .i64 top)] [.row 3 1 ((dB m top).map aa)]:=by
 have h3:=hm.1
 have hsl:=l8 m top
 refine aN ae Tryz.func216 rfl rfl ?_;simp only [Tryz.ntmps216,aP,aK,Nat.reduceAdd,Nat.reduceSub,aV]
 repeat' (first|((with_reducible first|(apply hK;clear hK K)|refine ah fun U O=>?_|apply ag|(apply Z<;>(intro hc;try simp at hc;try omega)))<;>try simp only [go_sem])|(with_reducible first|apply aj|(apply O;clear O U)|refine kN tO fun K hK=>?_|refine kO fun K hK=>?_|refine aI ?_)|apply iB)
 refine aA [4,5,6,10,11,12,13,14,15,16,17,18,19,20,21] (fun k:Nat=>[(10,.d (.int .i64 (k:Int))),(5,.row 1 k)]) (fun k:Nat=>[(0,.box 45 [.d (.lst 1 (m.grades.map (ax 1 aa))),.d (.lst 1 (m.components.map (ax 1 aa)))]),(1,.row 3 1 (((dB m top).take k).map aa))]) 2 (fun k:Nat=>k≤m.components.length) (fun k:Nat=>m.components.length - k) 0 (Nat.zero_le _) (an [] (by simp [lk,ab,List.take_zero,aG]<;>omega)) ?_
 intro k hkl
 simp only [bc,wipe,wl,bb,bx,rm,if_true,if_false,Nat.reduceEqDiff,Bool.false_eq_true,reduceCtorEq]
 by_cases hlt:k < m.components.length
 ·have hgx:=List.getElem?_eq_getElem hlt
  generalize m.components[k] = g at hgx
  have hsc:=ta m k g hgx (hm.comp hgx)
  have hgt0:=jG (top:=top) hgx
  have hsn:=iJ (f:=aa) hgt0
  have htl:(List.map aa (List.take k (dB m top))).length = k:=by simp;omega
  generalize eh g = sc at hsc hgt0 hsn
  repeat' (first|((with_reducible first|(apply hK;clear hK K)|refine ah fun U O=>?_|apply ag|(apply Z<;>(intro hc;try simp at hc;try omega)))<;>try simp only [go_sem,htl])|(with_reducible first|apply aj|(apply O;clear O U)|refine kN tO fun K hK=>?_|refine kO fun K hK=>?_|refine aI ?_)|((with_reducible apply CallK.eq);(· with_reducible first|exact hsc|exact ea _ _);(· simp [RV.flat,D.sc,aa]);try simp only [go_sem,htl])|apply iB)
  all_goals first
   |(exfalso;omega)
   |exact ⟨k + 1,by omega,by omega,(an [] (by simp [lk,ab,hsn,aa,-List.map_take]<;>omega))⟩
 ·obtain rfl:k = m.components.length:=by omega
  have e:(dB m top).take m.components.length = dB m top:=List.take_of_length_le (by omega)
  rw [e]
  repeat' (first|((with_reducible first|(apply hK;clear hK K)|refine ah fun U O=>?_|apply ag|(apply Z<;>(intro hc;try simp at hc;try omega)))<;>try simp only [go_sem])|(with_reducible first|apply aj|(apply O;clear O U)|refine kN tO fun K hK=>?_|refine kO fun K hK=>?_|refine aI ?_)|apply iB)
  all_goals first
   |(exfalso;omega)
   |(refine ak rfl (by simp only [hsl,bj,bn,ab,lk,ao,aK,List.length_append,List.length_take,if_true,if_false,Nat.reduceEqDiff,Nat.reduceBEq,Bool.false_eq_true,Option.some.injEq];rfl) (by simp [am,lk]) ?_;rfl)
theorem vQ (m:MarksD) (falls:Int) (hm:MarksOk m):FnEq Tryz.prog 188 [.agg m.cs,.d (.int .i64 falls)] [.d (.int .i64 (fS m falls))]:=by
 have h3:=hm.1
 have hcb:=nM falls
 have hbd:=nH hm hcb.1 hcb.2
 have hcl:=l8 m (fB falls)
 have hsu:=mb (dB m (fB falls)) 30000 (by omega) (by omega) hbd (by omega)
 have hcs:=ry m (fB falls) hm
 have e:fB falls = if falls = 0 then 1000 else if falls = 1 then 950 else 900:=rfl
 have e2:fS m falls = (dB m (fB falls)).sum:=rfl
 rw [e2]
 refine aN ae Tryz.func188 rfl rfl ?_;simp only [Tryz.ntmps188,aP,aK,Nat.reduceAdd,Nat.reduceSub,aV]
 generalize fB falls = top at hcl hsu hcs e
 by_cases h0:falls = 0
 ·rw [if_pos h0] at e
  subst e
  repeat' (first|((with_reducible first|(apply hK;clear hK K)|refine ah fun U O=>?_|apply ag|(apply Z<;>(intro hc;try simp at hc;try omega)))<;>try simp only [go_sem])|(with_reducible first|apply aj|(apply O;clear O U)|refine kN sC fun K hK=>?_|refine kO fun K hK=>?_|refine aI ?_)|((with_reducible apply CallK.eq);(· with_reducible first|exact hcs|exact hsu);(· simp [RV.flat,D.sc,aa]);try simp only [go_sem])|fail)
  all_goals first
   |(exfalso;omega)
   |(refine ak rfl rfl (by simp [am,lk]) ?_;rfl)
 ·rw [if_neg h0] at e
  by_cases h1:falls = 1
  ·rw [if_pos h1] at e
   subst e
   repeat' (first|((with_reducible first|(apply hK;clear hK K)|refine ah fun U O=>?_|apply ag|(apply Z<;>(intro hc;try simp at hc;try omega)))<;>try simp only [go_sem])|(with_reducible first|apply aj|(apply O;clear O U)|refine kN sC fun K hK=>?_|refine kO fun K hK=>?_|refine aI ?_)|((with_reducible apply CallK.eq);(· with_reducible first|exact hcs|exact hsu);(· simp [RV.flat,D.sc,aa]);try simp only [go_sem])|fail)
   all_goals first
    |(exfalso;omega)
    |(refine ak rfl rfl (by simp [am,lk]) ?_;rfl)
  ·rw [if_neg h1] at e
   subst e
   repeat' (first|((with_reducible first|(apply hK;clear hK K)|refine ah fun U O=>?_|apply ag|(apply Z<;>(intro hc;try simp at hc;try omega)))<;>try simp only [go_sem])|(with_reducible first|apply aj|(apply O;clear O U)|refine kN sC fun K hK=>?_|refine kO fun K hK=>?_|refine aI ?_)|((with_reducible apply CallK.eq);(· with_reducible first|exact hcs|exact hsu);(· simp [RV.flat,D.sc,aa]);try simp only [go_sem])|fail)
   all_goals first
    |(exfalso;omega)
    |(refine ak rfl rfl (by simp [am,lk]) ?_;rfl)
theorem oM (m:MarksD) (f falls:Int) (hm:MarksOk m) (hf:ez f):FnEq Tryz.prog 159 [.agg m.cs,.d (.int .i64 f),.d (.int .i64 falls)] [.d (.int .i64 (dq m f falls))]:=by
 have hcs:=vQ m falls hm
 have hpb:=lS hm hf falls
 have hcb:=qh hm falls
 have hr:=ig (fS m falls * f) 100 (by omega) (by omega) (by omega) (by omega)
 have e:dq m f falls = dT (fS m falls * f) 100:=rfl
 rw [e]
 refine aN ae Tryz.func159 rfl rfl ?_;simp only [Tryz.ntmps159,aP,aK,Nat.reduceAdd,Nat.reduceSub,aV]
 generalize hp:fS m falls * f = p at hpb hr
 generalize fS m falls = cs at hcs hp hcb
 repeat' (first|((with_reducible first|(apply hK;clear hK K)|refine ah fun U O=>?_|apply ag|(apply Z<;>(intro hc;try simp at hc;try omega)))<;>try simp only [go_sem,hp])|(with_reducible first|apply aj|(apply O;clear O U)|refine kN yI fun K hK=>?_|refine kO fun K hK=>?_|refine aI ?_)|((with_reducible apply CallK.eq);(· with_reducible first|exact hcs|exact hr);(· simp [RV.flat,D.sc,aa]);try simp only [go_sem,hp])|fail)
 all_goals first
  |(exfalso;omega)
  |(refine ak rfl rfl (by simp [am,lk]) ?_;rfl)
theorem lJ (s:Int) (h1:0≤s) (h2:s≤60):FnEq Tryz.prog 195 [.d (.int .i64 s)] [.d (.int .i64 (eN s))]:=by
 have hq:=dZ (s + 4) 5 64 (by omega) (by omega)
 have e:eN s = (s + 4).tdiv 5 * 100:=rfl
 rw [e]
 refine aN ae Tryz.func195 rfl rfl ?_;simp only [Tryz.ntmps195,aP,aK,Nat.reduceAdd,Nat.reduceSub,aV]
 generalize hq0:(s + 4).tdiv 5 = q at hq
 repeat' (first|((with_reducible first|(apply hK;clear hK K)|refine ah fun U O=>?_|apply ag|(apply Z<;>(intro hc;try simp at hc;try omega)))<;>try simp only [go_sem,hq0])|(with_reducible first|apply aj|(apply O;clear O U)|refine kN xY fun K hK=>?_|refine kO fun K hK=>?_|refine aI ?_)|fail)
 all_goals first
  |(exfalso;omega)
  |(refine ak rfl rfl (by simp [am,lk]) ?_;rfl)
theorem uD (s:Int) (h1:0≤s) (h2:s≤60):FnEq Tryz.prog 190 [.d (.int .i64 s)] [.d (.int .i64 (eN s))]:=by
 have hq:=dZ (s + 4) 5 64 (by omega) (by omega)
 have e:eN s = (s + 4).tdiv 5 * 100:=rfl
 rw [e]
 refine aN ae Tryz.func190 rfl rfl ?_;simp only [Tryz.ntmps190,aP,aK,Nat.reduceAdd,Nat.reduceSub,aV]
 generalize hq0:(s + 4).tdiv 5 = q at hq
 repeat' (first|((with_reducible first|(apply hK;clear hK K)|refine ah fun U O=>?_|apply ag|(apply Z<;>(intro hc;try simp at hc;try omega)))<;>try simp only [go_sem,hq0])|(with_reducible first|apply aj|(apply O;clear O U)|refine kN x6 fun K hK=>?_|refine kO fun K hK=>?_|refine aI ?_)|fail)
 all_goals first
  |(exfalso;omega)
  |(refine ak rfl rfl (by simp [am,lk]) ?_;rfl)
theorem l7 (fall falls:Int) (h1:0≤fall) (h2:fall≤500) (h3:0≤falls) (h4:falls≤9):FnEq Tryz.prog 194 [.d (.int .i64 fall),.d (.int .i64 falls)] [.d (.int .i64 (eE fall falls))]:=by
 have hb:=f_ h1 h2 h3 h4
 have e:eE fall falls = fall * (falls + max (falls - 2) 0 + max (falls - 4) 0):=rfl
 rw [e] at hb ⊢
 refine aN ae Tryz.func194 rfl rfl ?_;simp only [Tryz.ntmps194,aP,aK,Nat.reduceAdd,Nat.reduceSub,aV]
 generalize hp:fall * (falls + max (falls - 2) 0 + max (falls - 4) 0) = p at hb
 repeat' (first|((with_reducible first|(apply hK;clear hK K)|refine ah fun U O=>?_|apply ag|(apply Z<;>(intro hc;try simp at hc;try omega)))<;>try simp only [go_sem,hp])|(with_reducible first|apply aj|(apply O;clear O U)|refine kN xU fun K hK=>?_|refine kO fun K hK=>?_|refine aI ?_)|fail)
 all_goals first
  |(exfalso;omega)
  |(refine ak rfl rfl (by simp [am,lk]) ?_;rfl)
theorem oV (c:CodeD) (s:SlipsD) (hc:dz c) (hs:ey s):FnEq Tryz.prog 166 [.agg c.cs,.agg s.cs] [.row 3 1 ([eE c.fall s.falls,eN s.seconds,s.other].map aa)]:=by
 obtain ⟨h1,h2,h3,h4,h5,h6⟩:=hs
 have h7:=hc.2.2.2.2.2.2.2.2.2
 have hf:=l7 c.fall s.falls h7.1 h7.2 h1 h2
 have ht:=lJ s.seconds h3 h4
 refine aN ae Tryz.func166 rfl rfl ?_;simp only [Tryz.ntmps166,aP,aK,Nat.reduceAdd,Nat.reduceSub,aV]
 repeat' (first|((with_reducible first|(apply hK;clear hK K)|refine ah fun U O=>?_|apply ag|(apply Z<;>(intro hc;try simp at hc;try omega)))<;>try simp only [go_sem])|(with_reducible first|apply aj|(apply O;clear O U)|refine kN wt fun K hK=>?_|refine kO fun K hK=>?_|refine aI ?_)|((with_reducible first|apply CallK.eq|apply CallQ.eqs);(· with_reducible first|exact hf|exact ht);(· first|exact rfl|(simp [RV.flat,D.sc,aa];done));try simp only [go_sem])|(with_reducible refine dP wt ae 0 10 ay (by kernel_rfl) (fun K hK=>?_);simp only [List.take_succ_cons,List.take_zero,List.drop_succ_cons,List.drop_zero])|fail)
 all_goals first
  |(exfalso;omega)
  |(refine ak rfl (by simp only [bj,bn,ab,lk,ao,aK,List.length_append,List.length_take,if_true,if_false,Nat.reduceEqDiff,Nat.reduceBEq,Bool.false_eq_true,Option.some.injEq];rfl) (by simp [am,lk]) ?_;rfl)
theorem tC (fall:Int) (n:Nat) (h1:0≤fall) (h2:fall≤500) (h4:n≤9):FnEq Tryz.prog 189 [.d (.int .i64 fall),.d (.int .i64 (n:Int))] [.d (.int .i64 (eE fall (n:Int)))]:=by
 have hz:h_ fall 0 = 0:=rfl
 refine aN ae Tryz.func189 rfl rfl ?_;simp only [Tryz.ntmps189,aP,aK,Nat.reduceAdd,Nat.reduceSub,aV]
 repeat' (first|((with_reducible first|(apply hK;clear hK K)|refine ah fun U O=>?_|apply ag|(apply Z<;>(intro hc;try simp at hc;try omega)))<;>try simp only [go_sem])|(with_reducible first|apply aj|(apply O;clear O U)|refine kN tF fun K hK=>?_|refine kO fun K hK=>?_|refine aI ?_)|apply iB)
 refine aA [4,5,6,7,8,9,10,11,12,13,14,15,16,17,18,19] (fun k:Nat=>[(6,.d (.int .i64 (k:Int))),(5,.d (.int .i64 (h_ fall k)))]) (fun k:Nat=>[]) 0 (fun k:Nat=>k≤n) (fun k:Nat=>n - k) 0 (Nat.zero_le _) (an [] (by simp [lk,ab,hz]<;>omega)) ?_
 intro k hk
 have hb1:=pI fall k (by omega)
 have hb2:=f_ h1 h2 (falls:=(k:Int)) (by omega) (by omega)
 rw [←hb1] at hb2
 simp only [bc,wipe,wl,bb,bx,rm,if_true,if_false,Nat.reduceEqDiff,Bool.false_eq_true,reduceCtorEq]
 by_cases hlt:k < n
 ·have hs:=mU fall k
  have hb3:=pI fall (k + 1) (by omega)
  have hb4:=f_ h1 h2 (falls:=((k + 1:Nat):Int)) (by omega) (by omega)
  rw [←hb3] at hb4
  have hq:(k:Int).tdiv 2 = (k:Int) / 2:=Int.tdiv_eq_ediv_of_nonneg (by omega)
  have hmm:=fN (a:=fall) (b:=min 3 ((k:Int) / 2 + 1)) (A:=500) (B:=3) h1 h2 (by omega) (by omega)
  generalize hp:fall * min 3 ((k:Int) / 2 + 1) = p at hs hmm
  generalize h_ fall k = fs at hs hb2
  repeat' (first|((with_reducible first|(apply hK;clear hK K)|refine ah fun U O=>?_|apply ag|(apply Z<;>(intro hc;try simp at hc;try omega)))<;>try simp only [go_sem,hq,hp])|(with_reducible first|apply aj|(apply O;clear O U)|refine kN tF fun K hK=>?_|refine kO fun K hK=>?_|refine aI ?_)|((with_reducible apply CallK.eq);(· with_reducible first|exact ea _ _);(· simp [RV.flat,D.sc,aa]);try simp only [go_sem,hq,hp])|apply iB)
  all_goals first
   |(exfalso;omega)
   |exact ⟨k + 1,by omega,by omega,(an [] (by simp [lk,ab,hs]<;>omega))⟩
 ·obtain rfl:k = n:=by omega
  rw [←hb1]
  repeat' (first|((with_reducible first|(apply hK;clear hK K)|refine ah fun U O=>?_|apply ag|(apply Z<;>(intro hc;try simp at hc;try omega)))<;>try simp only [go_sem])|(with_reducible first|apply aj|(apply O;clear O U)|refine kN tF fun K hK=>?_|refine kO fun K hK=>?_|refine aI ?_)|apply iB)
  all_goals first
   |(exfalso;omega)
   |(refine ak rfl rfl (by simp [am,lk]) ?_;rfl)
theorem vu (c:CodeD) (s:SlipsD) (hc:dz c) (hs:ey s):FnEq Tryz.prog 160 [.agg c.cs,.agg s.cs] [.d (.int .i64 (dV c s))]:=by
 obtain ⟨h1,h2,h3,h4,h5,h6⟩:=hs
 have h7:=hc.2.2.2.2.2.2.2.2.2
 have hf:=tC c.fall s.falls.toNat h7.1 h7.2 (by omega)
 rw [show ((s.falls.toNat:Nat):Int) = s.falls by omega] at hf
 have ht:=uD s.seconds h3 h4
 have hfb:=f_ h7.1 h7.2 h1 h2
 have htb:=lE h3 h4
 have e:dV c s = eE c.fall s.falls + eN s.seconds + s.other:=rfl
 rw [e]
 refine aN ae Tryz.func160 rfl rfl ?_;simp only [Tryz.ntmps160,aP,aK,Nat.reduceAdd,Nat.reduceSub,aV]
 generalize eE c.fall s.falls = a at hf hfb
 generalize eN s.seconds = b at ht htb
 repeat' (first|((with_reducible first|(apply hK;clear hK K)|refine ah fun U O=>?_|apply ag|(apply Z<;>(intro hc;try simp at hc;try omega)))<;>try simp only [go_sem])|(with_reducible first|apply aj|(apply O;clear O U)|refine kN wc fun K hK=>?_|refine kO fun K hK=>?_|refine aI ?_)|((with_reducible first|apply CallK.eq|apply CallQ.eqs);(· with_reducible first|exact hf|exact ht);(· first|exact rfl|(simp [RV.flat,D.sc,aa];done));try simp only [go_sem])|(with_reducible refine az wc ae ay (by kernel_rfl) (fun K hK=>?_))|(with_reducible refine aO ae ay (by kernel_rfl) ?_)|fail)
 all_goals first
  |(exfalso;omega)
  |(refine ak rfl rfl (by simp [am,lk]) ?_;rfl)
end Go.Proofs.YtphakidbddamfaaGreat
