/-
  Components and deductions: the program's functions and the reference's, in the abstract machine.
-/
import Derived.Test.YtphakidbddamfaaGreatZSx
set_option linter.unusedSimpArgs false
set_option linter.unusedVariables false
set_option maxHeartbeats 2000000
set_option maxRecDepth 100000
namespace Go.Proofs.YtphakidbddamfaaGreat
open Go.RowKit
theorem l7 (m:MarksD) (top:Int):(dt m top).length = m.components.length:=by simp [dt]
theorem jE {m:MarksD} {top:Int} {k:Nat} {g:List Int} (hg:m.components[k]? = some g):(dt m top)[k]? = some (min (ev g) top):=by unfold dt;rw [ap,hg];rfl
theorem pY {g:List Int} (h:pv g):-11000≤cG g∧cG g≤11000:=by
 have:=g_ (A:=1000) (by omega) h.1 h.2.1 h.2.2
 omega
theorem k8 (g:List Int) (hg:pv g):FnEq Tryz.prog 230 [.d (.lst 1 (g.map ab))] [.d (.int .i64 (ev g))]:=by
 have h1:=pY hg
 have h2:=gW hg.1 hg.2.1
 have ht:=jS g 1000 (by omega) (by omega) hg.1 hg.2.1 hg.2.2
 have hr:=gp (cG g) (d5 g) (by omega) (by omega) (by omega) (by omega)
 have e:ev g = dX (cG g) (d5 g):=rfl
 rw [e]
 refine aO aa Tryz.func230 rfl rfl ?_;simp only [Tryz.ntmps230,aR,aM,Nat.reduceAdd,Nat.reduceSub,aW]
 repeat' (first|((with_reducible first|(refine hK _ ?_;clear hK K)|refine aj fun U O=>?_|apply ah|(apply Z<;>(intro hc;try simp at hc;try omega)))<;>try simp only [go_sem])|(with_reducible first|apply ag|(refine O _ ?_;clear O U)|refine kN yk fun K hK=>?_|refine kO fun K hK=>?_|refine aI ?_)|((with_reducible apply CallK.eq);(· with_reducible first|exact ht|exact hr);(· simp [RV.flat,D.sc,ab]);try simp only [go_sem])|fail)
 all_goals first
  |(exfalso;omega)
  |(refine ak rfl rfl (by simp [am,lk]) ?_;rfl)
def jQ (m:MarksD):List Int:=m.components.map ev
theorem sa (m:MarksD):(jQ m).length = m.components.length:=by simp [jQ]
theorem kK {m:MarksD} {k:Nat} {g:List Int} (hg:m.components[k]? = some g):(jQ m)[k]? = some (ev g):=by unfold jQ;rw [ap,hg];rfl
theorem km (m:MarksD) (hm:MarksOk m):FnEq Tryz.prog 219 [.agg m.cs] [.row 3 1 ((jQ m).map ab)]:=by
 have h3:=hm.1
 have hsl:=sa m
 refine aO aa Tryz.func219 rfl rfl ?_;simp only [Tryz.ntmps219,aR,aM,Nat.reduceAdd,Nat.reduceSub,aW]
 repeat' (first|((with_reducible first|(refine hK _ ?_;clear hK K)|refine aj fun U O=>?_|apply ah|(apply Z<;>(intro hc;try simp at hc;try omega)))<;>try simp only [go_sem])|(with_reducible first|apply ag|(refine O _ ?_;clear O U)|refine kN tD fun K hK=>?_|refine kO fun K hK=>?_|refine aI ?_)|apply iB)
 refine aD [2,3,5,10,11,12,13,14,15,16,17,18,19] (fun k:Nat=>[(10,.d (.int .i64 (k:Int))),(3,.row 1 k)]) (fun k:Nat=>[(0,.box 45 [.d (.lst 1 (m.grades.map (aF 1 ab))),.d (.lst 1 (m.components.map (aF 1 ab)))]),(1,.row 3 1 (((jQ m).take k).map ab))]) 2 (fun k:Nat=>k≤m.components.length) (fun k:Nat=>m.components.length - k) 0 (Nat.zero_le _) (ao [] (by simp [lk,ae,List.take_zero,aH]<;>omega)) ?_
 intro k hkl
 simp only [bi,wipe,wl,bh,bw,rm,if_true,if_false,Nat.reduceEqDiff,Bool.false_eq_true,reduceCtorEq]
 by_cases hlt:k < m.components.length
 ·have hgx:=List.getElem?_eq_getElem hlt
  generalize m.components[k] = g at hgx
  have hsc:=k8 g (hm.comp hgx)
  have hgt0:=kK hgx
  have hsn:=hZ (f:=ab) hgt0
  have htl:(List.map ab (List.take k (jQ m))).length = k:=by simp;omega
  generalize ev g = sc at hsc hgt0 hsn
  repeat' (first|((with_reducible first|(refine hK _ ?_;clear hK K)|refine aj fun U O=>?_|apply ah|(apply Z<;>(intro hc;try simp at hc;try omega)))<;>try simp only [go_sem,ap,hgx,aq,aF,htl])|(with_reducible first|apply ag|(refine O _ ?_;clear O U)|refine kN tD fun K hK=>?_|refine kO fun K hK=>?_|refine aI ?_)|((with_reducible apply CallK.eq);(· with_reducible first|exact hsc);(· simp [RV.flat,D.sc,ab]);try simp only [go_sem,ap,hgx,aq,aF,htl])|apply iB)
  all_goals first
   |(exfalso;omega)
   |exact ⟨k + 1,by omega,by omega,(ao [] (by simp [lk,ae,hsn,ab,-List.map_take]<;>omega))⟩
 ·obtain rfl:k = m.components.length:=by omega
  have e:(jQ m).take m.components.length = jQ m:=List.take_of_length_le (by omega)
  rw [e]
  repeat' (first|((with_reducible first|(refine hK _ ?_;clear hK K)|refine aj fun U O=>?_|apply ah|(apply Z<;>(intro hc;try simp at hc;try omega)))<;>try simp only [go_sem])|(with_reducible first|apply ag|(refine O _ ?_;clear O U)|refine kN tD fun K hK=>?_|refine kO fun K hK=>?_|refine aI ?_)|apply iB)
  all_goals first
   |(exfalso;omega)
   |(refine ak rfl (by simp only [hsl,bl,bn,ae,lk,an,aM,List.length_append,List.length_take,if_true,if_false,Nat.reduceEqDiff,Nat.reduceBEq,Bool.false_eq_true,Option.some.injEq];rfl) (by simp [am,lk]) ?_;rfl)
theorem wT (falls:Int) (h:0≤falls):fD falls = if falls = 1 then 950 else if 1 < falls then 900 else 1000:=by
 unfold fD
 split
 ·rw [if_neg (by omega),if_neg (by omega)]
 ·split
  ·rfl
  ·rw [if_pos (by omega)]
theorem qK (m:MarksD) (falls:Int) (hm:MarksOk m) (hf:0≤falls):FnEq Tryz.prog 193 [.agg m.cs,.d (.int .i64 falls)] [.d (.int .i64 (fU m falls))]:=by
 have h3:=hm.1
 have hsl:=sa m
 have hcl:=l7 m (fD falls)
 have hcs:=km m hm
 have hcb:=nb falls
 have hbd:=m5 hm hcb.1 hcb.2
 have e:=wT falls hf
 obtain ⟨top,htop⟩:∃ top,top = fD falls:=⟨_,rfl⟩
 rw [←htop] at hcl hcb hbd e
 have hfin:fU m falls = (dt m top).sum:=by rw [htop];rfl
 rw [hfin]
 have hz:((dt m top).take 0).sum = 0:=rfl
 refine aO aa Tryz.func193 rfl rfl ?_;simp only [Tryz.ntmps193,aR,aM,Nat.reduceAdd,Nat.reduceSub,aW]
 by_cases h1:falls = 1
 ·rw [if_pos h1] at e
  repeat' (first|((with_reducible first|(refine hK _ ?_;clear hK K)|refine aj fun U O=>?_|apply ah|(apply Z<;>(intro hc;try simp at hc;try omega)))<;>try simp only [go_sem])|(with_reducible first|apply ag|(refine O _ ?_;clear O U)|refine kN gJ fun K hK=>?_|refine kO fun K hK=>?_|refine aI ?_)|((with_reducible apply CallK.eq);(· with_reducible first|exact hcs);(· simp [RV.flat,D.sc,ab]);try simp only [go_sem])|apply iB)
  all_goals first
   |(exfalso;omega)
   |skip
  refine aD [4,6,8,18,19,20,21,22,23,24,25,26,27] (fun k:Nat=>[(18,.d (.int .i64 (k:Int))),(6,.d (.int .i64 ((dt m top).take k).sum))]) (fun k:Nat=>[(1,.row 3 1 ((jQ m).map ab))]) 2 (fun k:Nat=>k≤m.components.length) (fun k:Nat=>m.components.length - k) 0 (Nat.zero_le _) (ao [] (by simp [lk,ae,hz,hsl]<;>omega)) ?_
  intro k hkl
  have hb1:=cO (by decide) (by decide) hbd (by omega) k
  have hb2:=cO (by decide) (by decide) hbd (by omega) (k + 1)
  simp only [bi,wipe,wl,bh,bw,rm,if_true,if_false,Nat.reduceEqDiff,Bool.false_eq_true,reduceCtorEq]
  by_cases hlt:k < m.components.length
  ·have hgx:=List.getElem?_eq_getElem hlt
   generalize m.components[k] = g at hgx
   have hg1:=kK hgx
   have hg2:=jE (top:=top) hgx
   have hs:=gc hg2
   have hgb:=jt (hm.comp hgx)
   generalize ev g = sc at hg1 hs hgb
   rw [e] at hs
   repeat' (first|((with_reducible first|(refine hK _ ?_;clear hK K)|refine aj fun U O=>?_|apply ah|(apply Z<;>(intro hc;try simp at hc;try omega)))<;>try simp only [go_sem,ap,hg1,aq,ab,hlt,hsl])|(with_reducible first|apply ag|(refine O _ ?_;clear O U)|refine kN gJ fun K hK=>?_|refine kO fun K hK=>?_|refine aI ?_)|apply iB)
   all_goals first
    |(exfalso;omega)
    |exact ⟨k + 1,by omega,by omega,(ao [] (by simp [lk,ae,hs,e]<;>omega))⟩
  ·have e3:(dt m top).take k = dt m top:=List.take_of_length_le (by omega)
   rw [e3]
   repeat' (first|((with_reducible first|(refine hK _ ?_;clear hK K)|refine aj fun U O=>?_|apply ah|(apply Z<;>(intro hc;try simp at hc;try omega)))<;>try simp only [go_sem])|(with_reducible first|apply ag|(refine O _ ?_;clear O U)|refine kN gJ fun K hK=>?_|refine kO fun K hK=>?_|refine aI ?_)|apply iB)
   all_goals first
    |(exfalso;omega)
    |(refine ak rfl rfl (by simp [am,lk]) ?_;rfl)
 ·rw [if_neg h1] at e
  by_cases h2:1 < falls
  ·rw [if_pos h2] at e
   repeat' (first|((with_reducible first|(refine hK _ ?_;clear hK K)|refine aj fun U O=>?_|apply ah|(apply Z<;>(intro hc;try simp at hc;try omega)))<;>try simp only [go_sem])|(with_reducible first|apply ag|(refine O _ ?_;clear O U)|refine kN gJ fun K hK=>?_|refine kO fun K hK=>?_|refine aI ?_)|((with_reducible apply CallK.eq);(· with_reducible first|exact hcs);(· simp [RV.flat,D.sc,ab]);try simp only [go_sem])|apply iB)
   all_goals first
    |(exfalso;omega)
    |skip
   refine aD [4,6,8,18,19,20,21,22,23,24,25,26,27] (fun k:Nat=>[(18,.d (.int .i64 (k:Int))),(6,.d (.int .i64 ((dt m top).take k).sum))]) (fun k:Nat=>[(1,.row 3 1 ((jQ m).map ab))]) 2 (fun k:Nat=>k≤m.components.length) (fun k:Nat=>m.components.length - k) 0 (Nat.zero_le _) (ao [] (by simp [lk,ae,hz,hsl]<;>omega)) ?_
   intro k hkl
   have hb1:=cO (by decide) (by decide) hbd (by omega) k
   have hb2:=cO (by decide) (by decide) hbd (by omega) (k + 1)
   simp only [bi,wipe,wl,bh,bw,rm,if_true,if_false,Nat.reduceEqDiff,Bool.false_eq_true,reduceCtorEq]
   by_cases hlt:k < m.components.length
   ·have hgx:=List.getElem?_eq_getElem hlt
    generalize m.components[k] = g at hgx
    have hg1:=kK hgx
    have hg2:=jE (top:=top) hgx
    have hs:=gc hg2
    have hgb:=jt (hm.comp hgx)
    generalize ev g = sc at hg1 hs hgb
    rw [e] at hs
    repeat' (first|((with_reducible first|(refine hK _ ?_;clear hK K)|refine aj fun U O=>?_|apply ah|(apply Z<;>(intro hc;try simp at hc;try omega)))<;>try simp only [go_sem,ap,hg1,aq,ab,hlt,hsl])|(with_reducible first|apply ag|(refine O _ ?_;clear O U)|refine kN gJ fun K hK=>?_|refine kO fun K hK=>?_|refine aI ?_)|apply iB)
    all_goals first
     |(exfalso;omega)
     |exact ⟨k + 1,by omega,by omega,(ao [] (by simp [lk,ae,hs,e]<;>omega))⟩
   ·have e3:(dt m top).take k = dt m top:=List.take_of_length_le (by omega)
    rw [e3]
    repeat' (first|((with_reducible first|(refine hK _ ?_;clear hK K)|refine aj fun U O=>?_|apply ah|(apply Z<;>(intro hc;try simp at hc;try omega)))<;>try simp only [go_sem])|(with_reducible first|apply ag|(refine O _ ?_;clear O U)|refine kN gJ fun K hK=>?_|refine kO fun K hK=>?_|refine aI ?_)|apply iB)
    all_goals first
     |(exfalso;omega)
     |(refine ak rfl rfl (by simp [am,lk]) ?_;rfl)
  ·rw [if_neg h2] at e
   repeat' (first|((with_reducible first|(refine hK _ ?_;clear hK K)|refine aj fun U O=>?_|apply ah|(apply Z<;>(intro hc;try simp at hc;try omega)))<;>try simp only [go_sem])|(with_reducible first|apply ag|(refine O _ ?_;clear O U)|refine kN gJ fun K hK=>?_|refine kO fun K hK=>?_|refine aI ?_)|((with_reducible apply CallK.eq);(· with_reducible first|exact hcs);(· simp [RV.flat,D.sc,ab]);try simp only [go_sem])|apply iB)
   all_goals first
    |(exfalso;omega)
    |skip
   refine aD [4,6,8,18,19,20,21,22,23,24,25,26,27] (fun k:Nat=>[(18,.d (.int .i64 (k:Int))),(6,.d (.int .i64 ((dt m top).take k).sum))]) (fun k:Nat=>[(1,.row 3 1 ((jQ m).map ab))]) 2 (fun k:Nat=>k≤m.components.length) (fun k:Nat=>m.components.length - k) 0 (Nat.zero_le _) (ao [] (by simp [lk,ae,hz,hsl]<;>omega)) ?_
   intro k hkl
   have hb1:=cO (by decide) (by decide) hbd (by omega) k
   have hb2:=cO (by decide) (by decide) hbd (by omega) (k + 1)
   simp only [bi,wipe,wl,bh,bw,rm,if_true,if_false,Nat.reduceEqDiff,Bool.false_eq_true,reduceCtorEq]
   by_cases hlt:k < m.components.length
   ·have hgx:=List.getElem?_eq_getElem hlt
    generalize m.components[k] = g at hgx
    have hg1:=kK hgx
    have hg2:=jE (top:=top) hgx
    have hs:=gc hg2
    have hgb:=jt (hm.comp hgx)
    generalize ev g = sc at hg1 hs hgb
    rw [e] at hs
    repeat' (first|((with_reducible first|(refine hK _ ?_;clear hK K)|refine aj fun U O=>?_|apply ah|(apply Z<;>(intro hc;try simp at hc;try omega)))<;>try simp only [go_sem,ap,hg1,aq,ab,hlt,hsl])|(with_reducible first|apply ag|(refine O _ ?_;clear O U)|refine kN gJ fun K hK=>?_|refine kO fun K hK=>?_|refine aI ?_)|apply iB)
    all_goals first
     |(exfalso;omega)
     |exact ⟨k + 1,by omega,by omega,(ao [] (by simp [lk,ae,hs,e]<;>omega))⟩
   ·have e3:(dt m top).take k = dt m top:=List.take_of_length_le (by omega)
    rw [e3]
    repeat' (first|((with_reducible first|(refine hK _ ?_;clear hK K)|refine aj fun U O=>?_|apply ah|(apply Z<;>(intro hc;try simp at hc;try omega)))<;>try simp only [go_sem])|(with_reducible first|apply ag|(refine O _ ?_;clear O U)|refine kN gJ fun K hK=>?_|refine kO fun K hK=>?_|refine aI ?_)|apply iB)
    all_goals first
     |(exfalso;omega)
     |(refine ak rfl rfl (by simp [am,lk]) ?_;rfl)
theorem m6 (m:MarksD) (f falls:Int) (hm:MarksOk m) (hf:ez f) (h0:0≤falls):FnEq Tryz.prog 164 [.agg m.cs,.d (.int .i64 f),.d (.int .i64 falls)] [.d (.int .i64 (dj m f falls))]:=by
 have hcs:=qK m falls hm h0
 have hpb:=l8 hm hf falls
 have hcb:=qz hm falls
 have hr:=gp (fU m falls * f) 100 (by omega) (by omega) (by omega) (by omega)
 have e:dj m f falls = dX (fU m falls * f) 100:=rfl
 rw [e]
 refine aO aa Tryz.func164 rfl rfl ?_;simp only [Tryz.ntmps164,aR,aM,Nat.reduceAdd,Nat.reduceSub,aW]
 generalize hp:fU m falls * f = p at hpb hr
 generalize fU m falls = cs at hcs hp hcb
 repeat' (first|((with_reducible first|(refine hK _ ?_;clear hK K)|refine aj fun U O=>?_|apply ah|(apply Z<;>(intro hc;try simp at hc;try omega)))<;>try simp only [go_sem,hp])|(with_reducible first|apply ag|(refine O _ ?_;clear O U)|refine kN xR fun K hK=>?_|refine kO fun K hK=>?_|refine aI ?_)|((with_reducible apply CallK.eq);(· with_reducible first|exact hcs|exact hr);(· simp [RV.flat,D.sc,ab]);try simp only [go_sem,hp])|fail)
 all_goals first
  |(exfalso;omega)
  |(refine ak rfl rfl (by simp [am,lk]) ?_;rfl)
theorem sK (m:MarksD) (k:Nat) (g:List Int) (hgx:m.components[k]? = some g) (hg:pv g):FnEq Tryz.prog 227 [.agg m.cs,.d (.int .i64 (k:Int))] [.d (.int .i64 (ev g))]:=by
 have hgl:=(List.getElem?_eq_some_iff.1 hgx).1
 have h1:=pY hg
 have h2:=gW hg.1 hg.2.1
 have ht:=n5 g 1000 (by omega) (by omega) hg.1 hg.2.1 hg.2.2
 have hr:=gT (cG g) (d5 g) (by omega) (by omega) (by omega) (by omega)
 have e:ev g = dX (cG g) (d5 g):=rfl
 rw [e]
 refine aO aa Tryz.func227 rfl rfl ?_;simp only [Tryz.ntmps227,aR,aM,Nat.reduceAdd,Nat.reduceSub,aW]
 repeat' (first|((with_reducible first|(refine hK _ ?_;clear hK K)|refine aj fun U O=>?_|apply ah|(apply Z<;>(intro hc;try simp at hc;try omega)))<;>try simp only [go_sem,ap,hgx,aq,aF,hgl])|(with_reducible first|apply ag|(refine O _ ?_;clear O U)|refine kN yg fun K hK=>?_|refine kO fun K hK=>?_|refine aI ?_)|((with_reducible apply CallK.eq);(· with_reducible first|exact ht|exact hr);(· simp [RV.flat,D.sc,ab]);try simp only [go_sem,ap,hgx,aq,aF,hgl])|fail)
 all_goals first
  |(exfalso;omega)
  |(refine ak rfl rfl (by simp [am,lk]) ?_;rfl)
theorem rx (m:MarksD) (top:Int) (hm:MarksOk m):FnEq Tryz.prog 216 [.agg m.cs,.d (.int .i64 top)] [.row 3 1 ((dt m top).map ab)]:=by
 have h3:=hm.1
 have hsl:=l7 m top
 refine aO aa Tryz.func216 rfl rfl ?_;simp only [Tryz.ntmps216,aR,aM,Nat.reduceAdd,Nat.reduceSub,aW]
 repeat' (first|((with_reducible first|(refine hK _ ?_;clear hK K)|refine aj fun U O=>?_|apply ah|(apply Z<;>(intro hc;try simp at hc;try omega)))<;>try simp only [go_sem])|(with_reducible first|apply ag|(refine O _ ?_;clear O U)|refine kN sN fun K hK=>?_|refine kO fun K hK=>?_|refine aI ?_)|apply iB)
 refine aD [4,5,6,10,11,12,13,14,15,16,17,18,19,20,21] (fun k:Nat=>[(10,.d (.int .i64 (k:Int))),(5,.row 1 k)]) (fun k:Nat=>[(0,.box 45 [.d (.lst 1 (m.grades.map (aF 1 ab))),.d (.lst 1 (m.components.map (aF 1 ab)))]),(1,.row 3 1 (((dt m top).take k).map ab))]) 2 (fun k:Nat=>k≤m.components.length) (fun k:Nat=>m.components.length - k) 0 (Nat.zero_le _) (ao [] (by simp [lk,ae,List.take_zero,aH]<;>omega)) ?_
 intro k hkl
 simp only [bi,wipe,wl,bh,bw,rm,if_true,if_false,Nat.reduceEqDiff,Bool.false_eq_true,reduceCtorEq]
 by_cases hlt:k < m.components.length
 ·have hgx:=List.getElem?_eq_getElem hlt
  generalize m.components[k] = g at hgx
  have hsc:=sK m k g hgx (hm.comp hgx)
  have hgt0:=jE (top:=top) hgx
  have hsn:=hZ (f:=ab) hgt0
  have htl:(List.map ab (List.take k (dt m top))).length = k:=by simp;omega
  generalize ev g = sc at hsc hgt0 hsn
  repeat' (first|((with_reducible first|(refine hK _ ?_;clear hK K)|refine aj fun U O=>?_|apply ah|(apply Z<;>(intro hc;try simp at hc;try omega)))<;>try simp only [go_sem,htl])|(with_reducible first|apply ag|(refine O _ ?_;clear O U)|refine kN sN fun K hK=>?_|refine kO fun K hK=>?_|refine aI ?_)|((with_reducible apply CallK.eq);(· with_reducible first|exact hsc|exact ff _ _);(· simp [RV.flat,D.sc,ab]);try simp only [go_sem,htl])|apply iB)
  all_goals first
   |(exfalso;omega)
   |exact ⟨k + 1,by omega,by omega,(ao [] (by simp [lk,ae,hsn,ab,-List.map_take]<;>omega))⟩
 ·obtain rfl:k = m.components.length:=by omega
  have e:(dt m top).take m.components.length = dt m top:=List.take_of_length_le (by omega)
  rw [e]
  repeat' (first|((with_reducible first|(refine hK _ ?_;clear hK K)|refine aj fun U O=>?_|apply ah|(apply Z<;>(intro hc;try simp at hc;try omega)))<;>try simp only [go_sem])|(with_reducible first|apply ag|(refine O _ ?_;clear O U)|refine kN sN fun K hK=>?_|refine kO fun K hK=>?_|refine aI ?_)|apply iB)
  all_goals first
   |(exfalso;omega)
   |(refine ak rfl (by simp only [hsl,bl,bn,ae,lk,an,aM,List.length_append,List.length_take,if_true,if_false,Nat.reduceEqDiff,Nat.reduceBEq,Bool.false_eq_true,Option.some.injEq];rfl) (by simp [am,lk]) ?_;rfl)
theorem vw (m:MarksD) (falls:Int) (hm:MarksOk m):FnEq Tryz.prog 188 [.agg m.cs,.d (.int .i64 falls)] [.d (.int .i64 (fU m falls))]:=by
 have h3:=hm.1
 have hcb:=nb falls
 have hbd:=m5 hm hcb.1 hcb.2
 have hcl:=l7 m (fD falls)
 have hsu:=lJ (dt m (fD falls)) 30000 (by omega) (by omega) hbd (by omega)
 have hcs:=rx m (fD falls) hm
 have e:fD falls = if falls = 0 then 1000 else if falls = 1 then 950 else 900:=rfl
 have e2:fU m falls = (dt m (fD falls)).sum:=rfl
 rw [e2]
 refine aO aa Tryz.func188 rfl rfl ?_;simp only [Tryz.ntmps188,aR,aM,Nat.reduceAdd,Nat.reduceSub,aW]
 generalize fD falls = top at hcl hsu hcs e
 by_cases h0:falls = 0
 ·rw [if_pos h0] at e
  subst e
  repeat' (first|((with_reducible first|(refine hK _ ?_;clear hK K)|refine aj fun U O=>?_|apply ah|(apply Z<;>(intro hc;try simp at hc;try omega)))<;>try simp only [go_sem])|(with_reducible first|apply ag|(refine O _ ?_;clear O U)|refine kN s6 fun K hK=>?_|refine kO fun K hK=>?_|refine aI ?_)|((with_reducible apply CallK.eq);(· with_reducible first|exact hcs|exact hsu);(· simp [RV.flat,D.sc,ab]);try simp only [go_sem])|fail)
  all_goals first
   |(exfalso;omega)
   |(refine ak rfl rfl (by simp [am,lk]) ?_;rfl)
 ·rw [if_neg h0] at e
  by_cases h1:falls = 1
  ·rw [if_pos h1] at e
   subst e
   repeat' (first|((with_reducible first|(refine hK _ ?_;clear hK K)|refine aj fun U O=>?_|apply ah|(apply Z<;>(intro hc;try simp at hc;try omega)))<;>try simp only [go_sem])|(with_reducible first|apply ag|(refine O _ ?_;clear O U)|refine kN s6 fun K hK=>?_|refine kO fun K hK=>?_|refine aI ?_)|((with_reducible apply CallK.eq);(· with_reducible first|exact hcs|exact hsu);(· simp [RV.flat,D.sc,ab]);try simp only [go_sem])|fail)
   all_goals first
    |(exfalso;omega)
    |(refine ak rfl rfl (by simp [am,lk]) ?_;rfl)
  ·rw [if_neg h1] at e
   subst e
   repeat' (first|((with_reducible first|(refine hK _ ?_;clear hK K)|refine aj fun U O=>?_|apply ah|(apply Z<;>(intro hc;try simp at hc;try omega)))<;>try simp only [go_sem])|(with_reducible first|apply ag|(refine O _ ?_;clear O U)|refine kN s6 fun K hK=>?_|refine kO fun K hK=>?_|refine aI ?_)|((with_reducible apply CallK.eq);(· with_reducible first|exact hcs|exact hsu);(· simp [RV.flat,D.sc,ab]);try simp only [go_sem])|fail)
   all_goals first
    |(exfalso;omega)
    |(refine ak rfl rfl (by simp [am,lk]) ?_;rfl)
theorem oL (m:MarksD) (f falls:Int) (hm:MarksOk m) (hf:ez f):FnEq Tryz.prog 159 [.agg m.cs,.d (.int .i64 f),.d (.int .i64 falls)] [.d (.int .i64 (dj m f falls))]:=by
 have hcs:=vw m falls hm
 have hpb:=l8 hm hf falls
 have hcb:=qz hm falls
 have hr:=gT (fU m falls * f) 100 (by omega) (by omega) (by omega) (by omega)
 have e:dj m f falls = dX (fU m falls * f) 100:=rfl
 rw [e]
 refine aO aa Tryz.func159 rfl rfl ?_;simp only [Tryz.ntmps159,aR,aM,Nat.reduceAdd,Nat.reduceSub,aW]
 generalize hp:fU m falls * f = p at hpb hr
 generalize fU m falls = cs at hcs hp hcb
 repeat' (first|((with_reducible first|(refine hK _ ?_;clear hK K)|refine aj fun U O=>?_|apply ah|(apply Z<;>(intro hc;try simp at hc;try omega)))<;>try simp only [go_sem,hp])|(with_reducible first|apply ag|(refine O _ ?_;clear O U)|refine kN x8 fun K hK=>?_|refine kO fun K hK=>?_|refine aI ?_)|((with_reducible apply CallK.eq);(· with_reducible first|exact hcs|exact hr);(· simp [RV.flat,D.sc,ab]);try simp only [go_sem,hp])|fail)
 all_goals first
  |(exfalso;omega)
  |(refine ak rfl rfl (by simp [am,lk]) ?_;rfl)
theorem lW (s:Int) (h1:0≤s) (h2:s≤60):FnEq Tryz.prog 195 [.d (.int .i64 s)] [.d (.int .i64 (eQ s))]:=by
 have hq:=d6 (s + 4) 5 64 (by omega) (by omega)
 have e:eQ s = (s + 4).tdiv 5 * 100:=rfl
 rw [e]
 refine aO aa Tryz.func195 rfl rfl ?_;simp only [Tryz.ntmps195,aR,aM,Nat.reduceAdd,Nat.reduceSub,aW]
 generalize hq0:(s + 4).tdiv 5 = q at hq
 repeat' (first|((with_reducible first|(refine hK _ ?_;clear hK K)|refine aj fun U O=>?_|apply ah|(apply Z<;>(intro hc;try simp at hc;try omega)))<;>try simp only [go_sem,hq0])|(with_reducible first|apply ag|(refine O _ ?_;clear O U)|refine kN xB fun K hK=>?_|refine kO fun K hK=>?_|refine aI ?_)|fail)
 all_goals first
  |(exfalso;omega)
  |(refine ak rfl rfl (by simp [am,lk]) ?_;rfl)
theorem tV (s:Int) (h1:0≤s) (h2:s≤60):FnEq Tryz.prog 190 [.d (.int .i64 s)] [.d (.int .i64 (eQ s))]:=by
 have hq:=d6 (s + 4) 5 64 (by omega) (by omega)
 have e:eQ s = (s + 4).tdiv 5 * 100:=rfl
 rw [e]
 refine aO aa Tryz.func190 rfl rfl ?_;simp only [Tryz.ntmps190,aR,aM,Nat.reduceAdd,Nat.reduceSub,aW]
 generalize hq0:(s + 4).tdiv 5 = q at hq
 repeat' (first|((with_reducible first|(refine hK _ ?_;clear hK K)|refine aj fun U O=>?_|apply ah|(apply Z<;>(intro hc;try simp at hc;try omega)))<;>try simp only [go_sem,hq0])|(with_reducible first|apply ag|(refine O _ ?_;clear O U)|refine kN xG fun K hK=>?_|refine kO fun K hK=>?_|refine aI ?_)|fail)
 all_goals first
  |(exfalso;omega)
  |(refine ak rfl rfl (by simp [am,lk]) ?_;rfl)
theorem l_ (fall falls:Int) (h1:0≤fall) (h2:fall≤500) (h3:0≤falls) (h4:falls≤9):FnEq Tryz.prog 194 [.d (.int .i64 fall),.d (.int .i64 falls)] [.d (.int .i64 (eE fall falls))]:=by
 have hb:=gf h1 h2 h3 h4
 have e:eE fall falls = fall * (falls + max (falls - 2) 0 + max (falls - 4) 0):=rfl
 rw [e] at hb ⊢
 refine aO aa Tryz.func194 rfl rfl ?_;simp only [Tryz.ntmps194,aR,aM,Nat.reduceAdd,Nat.reduceSub,aW]
 generalize hp:fall * (falls + max (falls - 2) 0 + max (falls - 4) 0) = p at hb
 repeat' (first|((with_reducible first|(refine hK _ ?_;clear hK K)|refine aj fun U O=>?_|apply ah|(apply Z<;>(intro hc;try simp at hc;try omega)))<;>try simp only [go_sem,hp])|(with_reducible first|apply ag|(refine O _ ?_;clear O U)|refine kN yq fun K hK=>?_|refine kO fun K hK=>?_|refine aI ?_)|fail)
 all_goals first
  |(exfalso;omega)
  |(refine ak rfl rfl (by simp [am,lk]) ?_;rfl)
theorem oJ (c:CodeD) (s:SlipsD) (hc:dx c) (hs:ew s):FnEq Tryz.prog 166 [.agg c.cs,.agg s.cs] [.row 3 1 ([eE c.fall s.falls,eQ s.seconds,s.other].map ab)]:=by
 obtain ⟨h1,h2,h3,h4,h5,h6⟩:=hs
 have h7:=hc.2.2.2.2.2.2.2.2.2
 have hf:=l_ c.fall s.falls h7.1 h7.2 h1 h2
 have ht:=lW s.seconds h3 h4
 refine aO aa Tryz.func166 rfl rfl ?_;simp only [Tryz.ntmps166,aR,aM,Nat.reduceAdd,Nat.reduceSub,aW]
 repeat' (first|((with_reducible first|(refine hK _ ?_;clear hK K)|refine aj fun U O=>?_|apply ah|(apply Z<;>(intro hc;try simp at hc;try omega)))<;>try simp only [go_sem])|(with_reducible first|apply ag|(refine O _ ?_;clear O U)|refine kN wh fun K hK=>?_|refine kO fun K hK=>?_|refine aI ?_)|((with_reducible first|apply CallK.eq|apply CallQ.eqs);(· with_reducible first|exact hf|exact ht);(· first|exact rfl|(simp [RV.flat,D.sc,ab];done));try simp only [go_sem])|(with_reducible refine dY wh aa 0 10 ax (by kernel_rfl) (fun K hK=>?_);simp only [List.take_succ_cons,List.take_zero,List.drop_succ_cons,List.drop_zero])|fail)
 all_goals first
  |(exfalso;omega)
  |(refine ak rfl (by simp only [bl,bn,ae,lk,an,aM,List.length_append,List.length_take,if_true,if_false,Nat.reduceEqDiff,Nat.reduceBEq,Bool.false_eq_true,Option.some.injEq];rfl) (by simp [am,lk]) ?_;rfl)
theorem sx (fall:Int) (n:Nat) (h1:0≤fall) (h2:fall≤500) (h4:n≤9):FnEq Tryz.prog 189 [.d (.int .i64 fall),.d (.int .i64 (n:Int))] [.d (.int .i64 (eE fall (n:Int)))]:=by
 have hz:gE fall 0 = 0:=rfl
 refine aO aa Tryz.func189 rfl rfl ?_;simp only [Tryz.ntmps189,aR,aM,Nat.reduceAdd,Nat.reduceSub,aW]
 repeat' (first|((with_reducible first|(refine hK _ ?_;clear hK K)|refine aj fun U O=>?_|apply ah|(apply Z<;>(intro hc;try simp at hc;try omega)))<;>try simp only [go_sem])|(with_reducible first|apply ag|(refine O _ ?_;clear O U)|refine kN sR fun K hK=>?_|refine kO fun K hK=>?_|refine aI ?_)|apply iB)
 refine aD [4,5,6,7,8,9,10,11,12,13,14,15,16,17,18,19] (fun k:Nat=>[(6,.d (.int .i64 (k:Int))),(5,.d (.int .i64 (gE fall k)))]) (fun k:Nat=>[]) 0 (fun k:Nat=>k≤n) (fun k:Nat=>n - k) 0 (Nat.zero_le _) (ao [] (by simp [lk,ae,hz]<;>omega)) ?_
 intro k hk
 have hb1:=qu fall k (by omega)
 have hb2:=gf h1 h2 (falls:=(k:Int)) (by omega) (by omega)
 rw [←hb1] at hb2
 simp only [bi,wipe,wl,bh,bw,rm,if_true,if_false,Nat.reduceEqDiff,Bool.false_eq_true,reduceCtorEq]
 by_cases hlt:k < n
 ·have hs:=mv fall k
  have hb3:=qu fall (k + 1) (by omega)
  have hb4:=gf h1 h2 (falls:=((k + 1:Nat):Int)) (by omega) (by omega)
  rw [←hb3] at hb4
  have hq:(k:Int).tdiv 2 = (k:Int) / 2:=Int.tdiv_eq_ediv_of_nonneg (by omega)
  have hmm:=fY (a:=fall) (b:=min 3 ((k:Int) / 2 + 1)) (A:=500) (B:=3) h1 h2 (by omega) (by omega)
  generalize hp:fall * min 3 ((k:Int) / 2 + 1) = p at hs hmm
  generalize gE fall k = fs at hs hb2
  repeat' (first|((with_reducible first|(refine hK _ ?_;clear hK K)|refine aj fun U O=>?_|apply ah|(apply Z<;>(intro hc;try simp at hc;try omega)))<;>try simp only [go_sem,hq,hp])|(with_reducible first|apply ag|(refine O _ ?_;clear O U)|refine kN sR fun K hK=>?_|refine kO fun K hK=>?_|refine aI ?_)|((with_reducible apply CallK.eq);(· with_reducible first|exact ff _ _);(· simp [RV.flat,D.sc,ab]);try simp only [go_sem,hq,hp])|apply iB)
  all_goals first
   |(exfalso;omega)
   |exact ⟨k + 1,by omega,by omega,(ao [] (by simp [lk,ae,hs]<;>omega))⟩
 ·obtain rfl:k = n:=by omega
  rw [←hb1]
  repeat' (first|((with_reducible first|(refine hK _ ?_;clear hK K)|refine aj fun U O=>?_|apply ah|(apply Z<;>(intro hc;try simp at hc;try omega)))<;>try simp only [go_sem])|(with_reducible first|apply ag|(refine O _ ?_;clear O U)|refine kN sR fun K hK=>?_|refine kO fun K hK=>?_|refine aI ?_)|apply iB)
  all_goals first
   |(exfalso;omega)
   |(refine ak rfl rfl (by simp [am,lk]) ?_;rfl)
theorem vj (c:CodeD) (s:SlipsD) (hc:dx c) (hs:ew s):FnEq Tryz.prog 160 [.agg c.cs,.agg s.cs] [.d (.int .i64 (d4 c s))]:=by
 obtain ⟨h1,h2,h3,h4,h5,h6⟩:=hs
 have h7:=hc.2.2.2.2.2.2.2.2.2
 have hf:=sx c.fall s.falls.toNat h7.1 h7.2 (by omega)
 rw [show ((s.falls.toNat:Nat):Int) = s.falls by omega] at hf
 have ht:=tV s.seconds h3 h4
 have hfb:=gf h7.1 h7.2 h1 h2
 have htb:=l5 h3 h4
 have e:d4 c s = eE c.fall s.falls + eQ s.seconds + s.other:=rfl
 rw [e]
 refine aO aa Tryz.func160 rfl rfl ?_;simp only [Tryz.ntmps160,aR,aM,Nat.reduceAdd,Nat.reduceSub,aW]
 generalize eE c.fall s.falls = a at hf hfb
 generalize eQ s.seconds = b at ht htb
 repeat' (first|((with_reducible first|(refine hK _ ?_;clear hK K)|refine aj fun U O=>?_|apply ah|(apply Z<;>(intro hc;try simp at hc;try omega)))<;>try simp only [go_sem])|(with_reducible first|apply ag|(refine O _ ?_;clear O U)|refine kN vS fun K hK=>?_|refine kO fun K hK=>?_|refine aI ?_)|((with_reducible first|apply CallK.eq|apply CallQ.eqs);(· with_reducible first|exact hf|exact ht);(· first|exact rfl|(simp [RV.flat,D.sc,ab];done));try simp only [go_sem])|(with_reducible refine az vS aa ax (by kernel_rfl) (fun K hK=>?_))|(with_reducible refine aN aa ax (by kernel_rfl) ?_)|fail)
 all_goals first
  |(exfalso;omega)
  |(refine ak rfl rfl (by simp [am,lk]) ?_;rfl)
end Go.Proofs.YtphakidbddamfaaGreat
