/-
  Scores of items: full bases, repeats, bases: the program's functions and the reference's, in the abstract machine.
-/
import Derived.Test.YtphakidbddamfaaGreatZSb
set_option linter.unusedSimpArgs false
set_option linter.unusedVariables false
set_option maxHeartbeats 2000000
set_option maxRecDepth 100000
namespace Go.Proofs.YtphakidbddamfaaGreat
open Go.RowKit
theorem oH (c:CodeD) (it:ItemD) (hc:CodeOk c) (hi:ItOk it) (hk:cx c it):FnEq Tryz.prog 256 [.agg c.cs,.agg [.d (.lst 1 (it.names.map aX)),.d (.lst 1 (it.marks.map aa)),.d (.bool it.late)]] [.row 3 1 ((bE c it).map aa)]:=by
 have hl:=pG hc
 have hi1:=hi.2.1
 have hi2:=hi.2.2.1
 have hi3:=hi.2.2.2.1
 have hwl:=dN (c:=c) hi
 refine aN ae Tryz.func256 rfl rfl ?_;simp only [Tryz.ntmps256,aP,aK,Nat.reduceAdd,Nat.reduceSub,aV]
 repeat' (first|((with_reducible first|(apply hK;clear hK K)|refine ah fun U O=>?_|apply ag|(apply Z<;>(intro hc;try simp at hc;try omega)))<;>try simp only [go_sem])|(with_reducible first|apply aj|(apply O;clear O U)|refine kN mM fun K hK=>?_|refine kO fun K hK=>?_|refine aI ?_)|apply iB)
 refine aA [4,5,6,7,12,13,14,15,16,17,18,19,20,21,22,23,24,25,26,27,28,29,30,31,32,33,34] (fun k:Nat=>[(12,.d (.int .i64 (k:Int))),(5,.row 2 k)]) (fun k:Nat=>[(0,.box 42 [.d (.lst 4 (c.elements.map ElementD.dat)),.d (.lst 1 (c.limits.map aa)),.d (.int .i64 c.repeats),.d (.int .i64 c.bonus),.d (.int .i64 c.keeps),.d (.int .i64 c.fall)]),(1,.box 143 [.d (.lst 1 (it.names.map aX)),.d (.lst 1 (it.marks.map aa)),.d (.bool it.late)]),(2,.row 3 1 (((bE c it).take k).map aa))]) 3 (fun k:Nat=>k≤it.names.length) (fun k:Nat=>it.names.length - k) 0 (Nat.zero_le _) (an [] (by simp [lk,ab,List.take_zero,aG]<;>omega)) ?_
 intro k hkl
 simp only [bc,wipe,wl,bb,bx,rm,if_true,if_false,Nat.reduceEqDiff,Bool.false_eq_true,reduceCtorEq]
 by_cases hlt:k < it.names.length
 ·have hx:=List.getElem?_eq_getElem hlt
  generalize it.names[k] = y at hx
  have hm:=List.getElem?_eq_getElem (show k < it.marks.length by omega)
  generalize it.marks[k] = m at hm
  have hfi:0≤bS c y:=hk k y hx
  obtain ⟨x,hxe,_⟩:=gh hfi
  have hxl:=(List.getElem?_eq_some_iff.1 hxe).1
  obtain ⟨_,_,_,_,_,hb1,hb2,_⟩:=hc.1 _ x hxe
  have hg:=jf (c:=c) hx hm
  have hsn:=iJ (f:=aa) hg
  have hw:=kA (m:=m) hfi hxe
  have htl:(List.map aa (List.take k (bE c it))).length = k:=by simp;omega
  have hcf:=jp c y hl
  have hwo:=so c x m hc.2.2 hb1 hb2
  rw [hw] at hsn
  generalize bS c y = i at hfi hxe hxl hcf
  generalize fU c x m = wv at hsn hwo
  repeat' (first|((with_reducible first|(apply hK;clear hK K)|refine ah fun U O=>?_|apply ag|(apply Z<;>(intro hc;try simp at hc;try omega)))<;>try simp only [go_sem,ap,hx,ar,aX])|(with_reducible first|apply aj|(apply O;clear O U)|refine kN mM fun K hK=>?_|refine kO fun K hK=>?_|refine aI ?_)|apply iB)
  refine iC ae 1 15 ay (by decide +kernel) ?_
  simp only [List.take_succ_cons,List.take_zero,List.drop_succ_cons,List.drop_zero]
  repeat' (first|((with_reducible first|(apply hK;clear hK K)|refine ah fun U O=>?_|apply ag|(apply Z<;>(intro hc;try simp at hc;try omega)))<;>try simp only [go_sem,ap,hx,hm,hxe,ar,aX,aa,ElementD.dat,hfi,hxl,htl])|(with_reducible first|apply aj|(apply O;clear O U)|refine kN mM fun K hK=>?_|refine kO fun K hK=>?_|refine aI ?_)|((with_reducible first|apply CallK.eq|apply CallQ.eqs);(· with_reducible first|exact hcf|exact hwo);(· first|exact rfl|(simp [RV.flat,D.sc,aa];done));try simp only [go_sem,ap,hx,hm,hxe,ar,aX,aa,ElementD.dat,hfi,hxl,htl])|apply iB)
  all_goals first
   |(exfalso;omega)
   |exact ⟨k + 1,by omega,by omega,(an [] (by simp [lk,ab,hsn,aa,-List.map_take]<;>omega))⟩
 ·obtain rfl:k = it.names.length:=by omega
  have e:(bE c it).take it.names.length = bE c it:=List.take_of_length_le (by omega)
  rw [e]
  repeat' (first|((with_reducible first|(apply hK;clear hK K)|refine ah fun U O=>?_|apply ag|(apply Z<;>(intro hc;try simp at hc;try omega)))<;>try simp only [go_sem])|(with_reducible first|apply aj|(apply O;clear O U)|refine kN mM fun K hK=>?_|refine kO fun K hK=>?_|refine aI ?_)|(with_reducible refine dP mM ae 1 15 ay (by kernel_rfl) (fun K hK=>?_);simp only [List.take_succ_cons,List.take_zero,List.drop_succ_cons,List.drop_zero])|apply iB)
  all_goals first
   |(exfalso;omega)
   |(refine ak rfl (by simp only [hwl,bj,bn,ab,lk,ao,aK,List.length_append,List.length_take,if_true,if_false,Nat.reduceEqDiff,Nat.reduceBEq,Bool.false_eq_true,Option.some.injEq];rfl) (by simp [am,lk]) ?_;rfl)
theorem rx (c:CodeD) (it:ItemD) (hc:CodeOk c) (hi:ItOk it) (hk:cx c it):FnEq Tryz.prog 243 [.agg c.cs,.agg [.d (.lst 1 (it.names.map aX)),.d (.lst 1 (it.marks.map aa)),.d (.bool it.late)]] [.d (.int .i64 (du c it))]:=by
 have hws:=jS hc hi hk
 have hwl:=dN (c:=c) hi
 have hi2:=hi.2.2.1
 have hbn:=hc.2.2.2.2.2.2.2
 have hbd:∀ x ∈ bE c it,-2000≤x∧x≤2000:=fun x hx=>by have:=fT hc hk x hx;omega
 have hsi:=il (bE c it) 2000 (by omega) (by omega) hbd (by omega)
 have hwo:=oH c it hc hi hk
 have hmn:=fN (a:=(bE c it).sum) (b:=100 + c.bonus) (A:=6000) (B:=120) hws.1 hws.2 (by omega) (by omega)
 refine aN ae Tryz.func243 rfl rfl ?_;simp only [Tryz.ntmps243,aP,aK,Nat.reduceAdd,Nat.reduceSub,aV]
 cases hl:it.late
 ·rw [show du c it = (bE c it).sum by unfold du;rw [hl];rfl]
  generalize (bE c it).sum = s at hsi hws
  rw [hl] at hwo
  repeat' (first|((with_reducible first|(apply hK;clear hK K)|refine ah fun U O=>?_|apply ag|(apply Z<;>(intro hc;try simp at hc;try omega)))<;>try simp only [go_sem,hl])|(with_reducible first|apply aj|(apply O;clear O U)|refine kN wE fun K hK=>?_|refine kO fun K hK=>?_|refine aI ?_)|((with_reducible apply CallK.eq);(· with_reducible first|exact hwo|exact hsi);(· simp [RV.flat,D.sc,aa]);try simp only [go_sem,hl])|fail)
  all_goals first
   |(exfalso;omega)
   |(refine ak rfl rfl (by simp [am,lk]) ?_;rfl)
 ·rw [show du c it = dT ((bE c it).sum * (100 + c.bonus)) 100 by unfold du;rw [hl];rfl]
  have hro:=gz ((bE c it).sum * (100 + c.bonus)) 100 (by omega) (by omega) (by omega) (by omega)
  generalize hp:(bE c it).sum * (100 + c.bonus) = p at hmn hro
  generalize (bE c it).sum = s at hsi hws hp
  rw [hl] at hwo
  repeat' (first|((with_reducible first|(apply hK;clear hK K)|refine ah fun U O=>?_|apply ag|(apply Z<;>(intro hc;try simp at hc;try omega)))<;>try simp only [go_sem,hl,hp])|(with_reducible first|apply aj|(apply O;clear O U)|refine kN wE fun K hK=>?_|refine kO fun K hK=>?_|refine aI ?_)|((with_reducible apply CallK.eq);(· with_reducible first|exact hwo|exact hsi|exact hro);(· simp [RV.flat,D.sc,aa]);try simp only [go_sem,hl,hp])|fail)
  all_goals first
   |(exfalso;omega)
   |(refine ak rfl rfl (by simp [am,lk]) ?_;rfl)
theorem uO (c:CodeD) (it:ItemD) (hc:CodeOk c) (hi:ItOk it) (hk:cx c it):FnEq Tryz.prog 252 [.agg c.cs,.agg [.d (.lst 1 (it.names.map aX)),.d (.lst 1 (it.marks.map aa)),.d (.bool it.late)]] [.d (.int .i64 (du c it))]:=by
 have hws:=jS hc hi hk
 have hi1:=hi.2.1
 have hi2:=hi.2.2.1
 have hi3:=hi.2.2.2.1
 have hwl:=dN (c:=c) hi
 have hbn:=hc.2.2.2.2.2.2.2
 have hbd:∀ x ∈ bE c it,-2000≤x∧x≤2000:=fun x hx=>by have:=fT hc hk x hx;omega
 have hmn:=fN (a:=(bE c it).sum) (b:=100 + c.bonus) (A:=6000) (B:=120) hws.1 hws.2 (by omega) (by omega)
 refine aN ae Tryz.func252 rfl rfl ?_;simp only [Tryz.ntmps252,aP,aK,Nat.reduceAdd,Nat.reduceSub,aV]
 repeat' (first|((with_reducible first|(apply hK;clear hK K)|refine ah fun U O=>?_|apply ag|(apply Z<;>(intro hc;try simp at hc;try omega)))<;>try simp only [go_sem])|(with_reducible first|apply aj|(apply O;clear O U)|refine kN jL fun K hK=>?_|refine kO fun K hK=>?_|refine aI ?_)|apply iB)
 refine aA [4,5,6,7,11,12,13,14,15,16,17,18,19,20,21,22,23,24,25,26] (fun k:Nat=>[(11,.d (.int .i64 (k:Int))),(5,.d (.int .i64 ((bE c it).take k).sum))]) (fun k:Nat=>[(0,.box 42 [.d (.lst 4 (c.elements.map ElementD.dat)),.d (.lst 1 (c.limits.map aa)),.d (.int .i64 c.repeats),.d (.int .i64 c.bonus),.d (.int .i64 c.keeps),.d (.int .i64 c.fall)]),(1,.box 143 [.d (.lst 1 (it.names.map aX)),.d (.lst 1 (it.marks.map aa)),.d (.bool it.late)])]) 2 (fun k:Nat=>k≤it.names.length) (fun k:Nat=>it.names.length - k) 0 (Nat.zero_le _) (an [] (by simp [lk,ab,List.take_zero,List.sum_nil]<;>omega)) ?_
 intro k hkl
 have hb1:=cO (by decide) (by decide) hbd (by omega) k
 have hb2:=cO (by decide) (by decide) hbd (by omega) (k + 1)
 simp only [bc,wipe,wl,bb,bx,rm,if_true,if_false,Nat.reduceEqDiff,Bool.false_eq_true,reduceCtorEq]
 by_cases hlt:k < it.names.length
 ·have hx:=List.getElem?_eq_getElem hlt
  generalize it.names[k] = y at hx
  have hm:=List.getElem?_eq_getElem (show k < it.marks.length by omega)
  generalize it.marks[k] = m at hm
  have hg:=jf (c:=c) hx hm
  have hsn:=gf hg
  have hbw:=m4 c y m hc
  have hbb:=hbd _ (List.mem_of_getElem? hg)
  generalize eX c y m = wv at hsn hbw hbb
  repeat' (first|((with_reducible first|(apply hK;clear hK K)|refine ah fun U O=>?_|apply ag|(apply Z<;>(intro hc;try simp at hc;try omega)))<;>try simp only [go_sem,ap,hx,hm,ar,aX,aa])|(with_reducible first|apply aj|(apply O;clear O U)|refine kN jL fun K hK=>?_|refine kO fun K hK=>?_|refine aI ?_)|((with_reducible first|apply CallK.eq|apply CallQ.eqs);(· with_reducible first|exact hbw);(· first|exact rfl|(simp [RV.flat,D.sc,aa];done));try simp only [go_sem,ap,hx,hm,ar,aX,aa])|(with_reducible refine az jL ae ay (by kernel_rfl) (fun K hK=>?_))|(with_reducible refine aO ae ay (by kernel_rfl) ?_)|apply iB)
  all_goals first
   |(exfalso;omega)
   |exact ⟨k + 1,by omega,by omega,(an [] (by simp [lk,ab,hsn]<;>omega))⟩
 ·have e:(bE c it).take k = bE c it:=List.take_of_length_le (by omega)
  rw [e]
  cases hl:it.late
  ·rw [show du c it = (bE c it).sum by unfold du;rw [hl];rfl]
   generalize (bE c it).sum = s at hws
   repeat' (first|((with_reducible first|(apply hK;clear hK K)|refine ah fun U O=>?_|apply ag|(apply Z<;>(intro hc;try simp at hc;try omega)))<;>try simp only [go_sem,hl])|(with_reducible first|apply aj|(apply O;clear O U)|refine kN jL fun K hK=>?_|refine kO fun K hK=>?_|refine aI ?_)|(with_reducible refine az jL ae ay (by kernel_rfl) (fun K hK=>?_))|(with_reducible refine aO ae ay (by kernel_rfl) ?_)|apply iB)
   all_goals first
    |(exfalso;omega)
    |(refine ak rfl rfl (by simp [am,lk]) ?_;rfl)
  ·rw [show du c it = dT ((bE c it).sum * (100 + c.bonus)) 100 by unfold du;rw [hl];rfl]
   have hro:=ig ((bE c it).sum * (100 + c.bonus)) 100 (by omega) (by omega) (by omega) (by omega)
   generalize hp:(bE c it).sum * (100 + c.bonus) = p at hmn hro
   generalize (bE c it).sum = s at hws hp
   repeat' (first|((with_reducible first|(apply hK;clear hK K)|refine ah fun U O=>?_|apply ag|(apply Z<;>(intro hc;try simp at hc;try omega)))<;>try simp only [go_sem,hl,hp])|(with_reducible first|apply aj|(apply O;clear O U)|refine kN jL fun K hK=>?_|refine kO fun K hK=>?_|refine aI ?_)|((with_reducible first|apply CallK.eq|apply CallQ.eqs);(· with_reducible first|exact hro);(· first|exact rfl|(simp [RV.flat,D.sc,aa];done));try simp only [go_sem,hl,hp])|(with_reducible refine az jL ae ay (by kernel_rfl) (fun K hK=>?_))|(with_reducible refine aO ae ay (by kernel_rfl) ?_)|apply iB)
   all_goals first
    |(exfalso;omega)
    |(refine ak rfl rfl (by simp [am,lk]) ?_;rfl)
theorem rN (l:List ItemD) (k:Nat):f7 l k≤k:=jM _ _ _
theorem pQ (l:List ItemD) (n:Nat) (hl:ItsOk l) (hk:n < l.length):FnEq Tryz.prog 242 [.d (.lst 3 (l.map ItemD.dat)),.d (.int .i64 (n:Int))] [.d (.int .i64 (f7 l n:Nat))]:=by
 have h14:=hl.1
 have hx:=List.getElem?_eq_getElem hk
 generalize l[n] = x at hx
 have hx0:=i5 (hl.at_ hx)
 have hxn:=(hl.at_ hx).2.1
 have er:f7 l n = cn (ef (cg x)) (l.take n):=by unfold f7;rw [hx];rfl
 have htl:(List.take n (List.map ItemD.dat l)).length = n:=by simp;omega
 have hcz:cn (ef (cg x)) [] = 0:=rfl
 rw [er]
 refine aN ae Tryz.func242 rfl rfl ?_;simp only [Tryz.ntmps242,aP,aK,Nat.reduceAdd,Nat.reduceSub,aV]
 repeat' (first|((with_reducible first|(apply hK;clear hK K)|refine ah fun U O=>?_|apply ag|(apply Z<;>(intro hc;try simp at hc;try omega)))<;>try simp only [go_sem,ao,htl])|(with_reducible first|apply aj|(apply O;clear O U)|refine kN gt fun K hK=>?_|refine kO fun K hK=>?_|refine aI ?_)|(refine xS rfl fun U O=>?_;simp only [go_sem,ao,htl])|(refine qS rfl fun U O=>?_;simp only [go_sem,ao,htl])|(with_reducible refine az gt ae ay (by kernel_rfl) (fun K hK=>?_))|(with_reducible refine aO ae ay (by kernel_rfl) ?_)|apply iB)
 all_goals first
  |(exfalso;omega)
  |skip
 refine aA [4,5,7,12,13,14,15,16,17,18,19,20,21,22,23,24,25,26,27,28,29,30,31,32,33,34,35,36,37] (fun k:Nat=>[(12,.d (.int .i64 (k:Int))),(5,.d (.int .i64 (cn (ef (cg x)) (l.take k):Nat)))]) (fun k:Nat=>[]) 0 (fun k:Nat=>k≤n) (fun k:Nat=>n - k) 0 (Nat.zero_le _) (an [] (by simp [lk,ab,List.take_zero,hcz]<;>omega)) ?_
 intro j hj
 have hcb:=jM (ef (cg x)) l j
 simp only [bc,wipe,wl,bb,bx,rm,if_true,if_false,Nat.reduceEqDiff,Bool.false_eq_true,reduceCtorEq]
 by_cases hlt:j < n
 ·have hy:=List.getElem?_eq_getElem (show j < l.length by omega)
  generalize l[j] = y at hy
  have hyt:(List.take n (List.map ItemD.dat l))[j]? = some y.dat:=by rw [List.getElem?_take,if_pos hlt,ap,hy];rfl
  have hy0:=i5 (hl.at_ hy)
  have hym:=oB (hl.at_ hy)
  have hyn:=(hl.at_ hy).2.1
  have hyl:=(hl.at_ hy).2.2.2.1
  by_cases hp:ef (cg x) y = true
  ·have hcy:=u5 (p:=ef (cg x)) hy hp
   have hp2:=hp
   simp only [ef,Bool.and_eq_true,decide_eq_true_eq] at hp2
   obtain ⟨hp3,hp4⟩:=hp2
   have hd:decide (cg y = cg x) = true:=decide_eq_true hp3
   generalize jQ y = mk at hym hp4
   repeat' (first|((with_reducible first|(apply hK;clear hK K)|refine ah fun U O=>?_|apply ag|(apply Z<;>(intro hc;try simp at hc;try omega)))<;>try simp only [go_sem,ap,hyt,hx,hx0,hy0,hym,hd,ar,aX,aa,ItemD.dat,ao])|(with_reducible first|apply aj|(apply O;clear O U)|refine kN gt fun K hK=>?_|refine kO fun K hK=>?_|refine aI ?_)|(refine xS rfl fun U O=>?_;simp only [go_sem,ap,hyt,hx,hx0,hy0,hym,hd,ar,aX,aa,ItemD.dat,ao])|(refine qS rfl fun U O=>?_;simp only [go_sem,ap,hyt,hx,hx0,hy0,hym,hd,ar,aX,aa,ItemD.dat,ao])|(with_reducible refine az gt ae ay (by kernel_rfl) (fun K hK=>?_))|(with_reducible refine aO ae ay (by kernel_rfl) ?_)|apply iB)
   all_goals first
    |(exfalso;omega)
    |exact ⟨j + 1,by omega,by omega,(an [] (by simp [lk,ab,hcy]<;>omega))⟩
  ·have hp:ef (cg x) y = false:=by simpa using hp
   have hcn:=v3 (p:=ef (cg x)) hy hp
   by_cases hp3:cg y = cg x
   ·have hd:decide (cg y = cg x) = true:=decide_eq_true hp3
    have hp4:jQ y = 3:=by
     have:=hp;simp [ef,hp3] at this;exact this
    rw [hp4] at hym
    repeat' (first|((with_reducible first|(apply hK;clear hK K)|refine ah fun U O=>?_|apply ag|(apply Z<;>(intro hc;try simp at hc;try omega)))<;>try simp only [go_sem,ap,hyt,hx,hx0,hy0,hym,hd,ar,aX,aa,ItemD.dat,ao])|(with_reducible first|apply aj|(apply O;clear O U)|refine kN gt fun K hK=>?_|refine kO fun K hK=>?_|refine aI ?_)|(refine xS rfl fun U O=>?_;simp only [go_sem,ap,hyt,hx,hx0,hy0,hym,hd,ar,aX,aa,ItemD.dat,ao])|(refine qS rfl fun U O=>?_;simp only [go_sem,ap,hyt,hx,hx0,hy0,hym,hd,ar,aX,aa,ItemD.dat,ao])|(with_reducible refine az gt ae ay (by kernel_rfl) (fun K hK=>?_))|(with_reducible refine aO ae ay (by kernel_rfl) ?_)|apply iB)
    all_goals first
     |(exfalso;omega)
     |exact ⟨j + 1,by omega,by omega,(an [] (by simp [lk,ab,hcn]<;>omega))⟩
   ·have hd:decide (cg y = cg x) = false:=decide_eq_false hp3
    repeat' (first|((with_reducible first|(apply hK;clear hK K)|refine ah fun U O=>?_|apply ag|(apply Z<;>(intro hc;try simp at hc;try omega)))<;>try simp only [go_sem,ap,hyt,hx,hx0,hy0,hym,hd,ar,aX,aa,ItemD.dat,ao])|(with_reducible first|apply aj|(apply O;clear O U)|refine kN gt fun K hK=>?_|refine kO fun K hK=>?_|refine aI ?_)|(refine xS rfl fun U O=>?_;simp only [go_sem,ap,hyt,hx,hx0,hy0,hym,hd,ar,aX,aa,ItemD.dat,ao])|(refine qS rfl fun U O=>?_;simp only [go_sem,ap,hyt,hx,hx0,hy0,hym,hd,ar,aX,aa,ItemD.dat,ao])|(with_reducible refine az gt ae ay (by kernel_rfl) (fun K hK=>?_))|(with_reducible refine aO ae ay (by kernel_rfl) ?_)|apply iB)
    all_goals first
     |(exfalso;omega)
     |exact ⟨j + 1,by omega,by omega,(an [] (by simp [lk,ab,hcn]<;>omega))⟩
 ·have e:j = n:=by omega
  subst e
  repeat' (first|((with_reducible first|(apply hK;clear hK K)|refine ah fun U O=>?_|apply ag|(apply Z<;>(intro hc;try simp at hc;try omega)))<;>try simp only [go_sem])|(with_reducible first|apply aj|(apply O;clear O U)|refine kN gt fun K hK=>?_|refine kO fun K hK=>?_|refine aI ?_)|(refine xS rfl fun U O=>?_;simp only [go_sem])|(refine qS rfl fun U O=>?_;simp only [go_sem])|(with_reducible refine az gt ae ay (by kernel_rfl) (fun K hK=>?_))|(with_reducible refine aO ae ay (by kernel_rfl) ?_)|apply iB)
  all_goals first
   |(exfalso;omega)
   |(refine ak rfl rfl (by simp [am,lk]) ?_;rfl)
theorem pP (l:List ItemD) (n:Nat) (hl:ItsOk l) (hk:n < l.length):FnEq Tryz.prog 253 [.d (.lst 3 (l.map ItemD.dat)),.d (.int .i64 (n:Int))] [.d (.int .i64 (f7 l n:Nat))]:=by
 have h14:=hl.1
 have hx:=List.getElem?_eq_getElem hk
 generalize l[n] = x at hx
 have hx0:=i5 (hl.at_ hx)
 have hxn:=(hl.at_ hx).2.1
 have er:f7 l n = cn (ef (cg x)) (l.take n):=by unfold f7;rw [hx];rfl
 have htl:(List.take n (List.map ItemD.dat l)).length = n:=by simp;omega
 have hcz:cn (ef (cg x)) [] = 0:=rfl
 rw [er]
 refine aN ae Tryz.func253 rfl rfl ?_;simp only [Tryz.ntmps253,aP,aK,Nat.reduceAdd,Nat.reduceSub,aV]
 repeat' (first|((with_reducible first|(apply hK;clear hK K)|refine ah fun U O=>?_|apply ag|(apply Z<;>(intro hc;try simp at hc;try omega)))<;>try simp only [go_sem,ao,htl])|(with_reducible first|apply aj|(apply O;clear O U)|refine kN gA fun K hK=>?_|refine kO fun K hK=>?_|refine aI ?_)|(refine xS rfl fun U O=>?_;simp only [go_sem,ao,htl])|(refine qS rfl fun U O=>?_;simp only [go_sem,ao,htl])|(with_reducible refine az gA ae ay (by kernel_rfl) (fun K hK=>?_))|(with_reducible refine aO ae ay (by kernel_rfl) ?_)|apply iB)
 all_goals first
  |(exfalso;omega)
  |skip
 refine aA [4,5,7,12,13,14,15,16,17,18,19,20,21,22,23,24,25,26,27,28,29,30,31,32,33,34,35,36,37] (fun k:Nat=>[(12,.d (.int .i64 (k:Int))),(5,.d (.int .i64 (cn (ef (cg x)) (l.take k):Nat)))]) (fun k:Nat=>[]) 0 (fun k:Nat=>k≤n) (fun k:Nat=>n - k) 0 (Nat.zero_le _) (an [] (by simp [lk,ab,List.take_zero,hcz]<;>omega)) ?_
 intro j hj
 have hcb:=jM (ef (cg x)) l j
 simp only [bc,wipe,wl,bb,bx,rm,if_true,if_false,Nat.reduceEqDiff,Bool.false_eq_true,reduceCtorEq]
 by_cases hlt:j < n
 ·have hy:=List.getElem?_eq_getElem (show j < l.length by omega)
  generalize l[j] = y at hy
  have hyt:(List.take n (List.map ItemD.dat l))[j]? = some y.dat:=by rw [List.getElem?_take,if_pos hlt,ap,hy];rfl
  have hy0:=i5 (hl.at_ hy)
  have hym:=oB (hl.at_ hy)
  have hyn:=(hl.at_ hy).2.1
  have hyl:=(hl.at_ hy).2.2.2.1
  by_cases hp:ef (cg x) y = true
  ·have hcy:=u5 (p:=ef (cg x)) hy hp
   have hp2:=hp
   simp only [ef,Bool.and_eq_true,decide_eq_true_eq] at hp2
   obtain ⟨hp3,hp4⟩:=hp2
   have hd:decide (cg y = cg x) = true:=decide_eq_true hp3
   generalize jQ y = mk at hym hp4
   repeat' (first|((with_reducible first|(apply hK;clear hK K)|refine ah fun U O=>?_|apply ag|(apply Z<;>(intro hc;try simp at hc;try omega)))<;>try simp only [go_sem,ap,hyt,hx,hx0,hy0,hym,hd,ar,aX,aa,ItemD.dat,ao])|(with_reducible first|apply aj|(apply O;clear O U)|refine kN gA fun K hK=>?_|refine kO fun K hK=>?_|refine aI ?_)|(refine xS rfl fun U O=>?_;simp only [go_sem,ap,hyt,hx,hx0,hy0,hym,hd,ar,aX,aa,ItemD.dat,ao])|(refine qS rfl fun U O=>?_;simp only [go_sem,ap,hyt,hx,hx0,hy0,hym,hd,ar,aX,aa,ItemD.dat,ao])|(with_reducible refine az gA ae ay (by kernel_rfl) (fun K hK=>?_))|(with_reducible refine aO ae ay (by kernel_rfl) ?_)|apply iB)
   all_goals first
    |(exfalso;omega)
    |exact ⟨j + 1,by omega,by omega,(an [] (by simp [lk,ab,hcy]<;>omega))⟩
  ·have hp:ef (cg x) y = false:=by simpa using hp
   have hcn:=v3 (p:=ef (cg x)) hy hp
   by_cases hp3:cg y = cg x
   ·have hd:decide (cg y = cg x) = true:=decide_eq_true hp3
    have hp4:jQ y = 3:=by
     have:=hp;simp [ef,hp3] at this;exact this
    rw [hp4] at hym
    repeat' (first|((with_reducible first|(apply hK;clear hK K)|refine ah fun U O=>?_|apply ag|(apply Z<;>(intro hc;try simp at hc;try omega)))<;>try simp only [go_sem,ap,hyt,hx,hx0,hy0,hym,hd,ar,aX,aa,ItemD.dat,ao])|(with_reducible first|apply aj|(apply O;clear O U)|refine kN gA fun K hK=>?_|refine kO fun K hK=>?_|refine aI ?_)|(refine xS rfl fun U O=>?_;simp only [go_sem,ap,hyt,hx,hx0,hy0,hym,hd,ar,aX,aa,ItemD.dat,ao])|(refine qS rfl fun U O=>?_;simp only [go_sem,ap,hyt,hx,hx0,hy0,hym,hd,ar,aX,aa,ItemD.dat,ao])|(with_reducible refine az gA ae ay (by kernel_rfl) (fun K hK=>?_))|(with_reducible refine aO ae ay (by kernel_rfl) ?_)|apply iB)
    all_goals first
     |(exfalso;omega)
     |exact ⟨j + 1,by omega,by omega,(an [] (by simp [lk,ab,hcn]<;>omega))⟩
   ·have hd:decide (cg y = cg x) = false:=decide_eq_false hp3
    repeat' (first|((with_reducible first|(apply hK;clear hK K)|refine ah fun U O=>?_|apply ag|(apply Z<;>(intro hc;try simp at hc;try omega)))<;>try simp only [go_sem,ap,hyt,hx,hx0,hy0,hym,hd,ar,aX,aa,ItemD.dat,ao])|(with_reducible first|apply aj|(apply O;clear O U)|refine kN gA fun K hK=>?_|refine kO fun K hK=>?_|refine aI ?_)|(refine xS rfl fun U O=>?_;simp only [go_sem,ap,hyt,hx,hx0,hy0,hym,hd,ar,aX,aa,ItemD.dat,ao])|(refine qS rfl fun U O=>?_;simp only [go_sem,ap,hyt,hx,hx0,hy0,hym,hd,ar,aX,aa,ItemD.dat,ao])|(with_reducible refine az gA ae ay (by kernel_rfl) (fun K hK=>?_))|(with_reducible refine aO ae ay (by kernel_rfl) ?_)|apply iB)
    all_goals first
     |(exfalso;omega)
     |exact ⟨j + 1,by omega,by omega,(an [] (by simp [lk,ab,hcn]<;>omega))⟩
 ·have e:j = n:=by omega
  subst e
  repeat' (first|((with_reducible first|(apply hK;clear hK K)|refine ah fun U O=>?_|apply ag|(apply Z<;>(intro hc;try simp at hc;try omega)))<;>try simp only [go_sem])|(with_reducible first|apply aj|(apply O;clear O U)|refine kN gA fun K hK=>?_|refine kO fun K hK=>?_|refine aI ?_)|(refine xS rfl fun U O=>?_;simp only [go_sem])|(refine qS rfl fun U O=>?_;simp only [go_sem])|(with_reducible refine az gA ae ay (by kernel_rfl) (fun K hK=>?_))|(with_reducible refine aO ae ay (by kernel_rfl) ?_)|apply iB)
  all_goals first
   |(exfalso;omega)
   |(refine ak rfl rfl (by simp [am,lk]) ?_;rfl)
end Go.Proofs.YtphakidbddamfaaGreat
