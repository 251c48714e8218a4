/-
  Scores of items: full bases, repeats, bases: the program's functions and the reference's, in the abstract machine.
-/
import Derived.Test.YtphakidbddamfaaGreatZSb
set_option linter.unusedSimpArgs false
set_option linter.unusedVariables false
set_option maxHeartbeats 2000000
set_option maxRecDepth 100000
namespace Go.Proofs.YtphakidbddamfaaGreat
open Go.RowKit
theorem nG (c:CodeD) (it:ItemD) (hc:CodeOk c) (hi:ItOk it) (hk:cu c it):FnEq Tryz.prog 256 [.agg c.cs,.agg [.d (.lst 1 (it.names.map aZ)),.d (.lst 1 (it.marks.map ab)),.d (.bool it.late)]] [.row 3 1 ((bC c it).map ab)]:=by
 have hl:=qE hc
 have hi1:=hi.2.1
 have hi2:=hi.2.2.1
 have hi3:=hi.2.2.2.1
 have hwl:=dQ (c:=c) hi
 refine aO aa Tryz.func256 rfl rfl ?_;simp only [Tryz.ntmps256,aR,aM,Nat.reduceAdd,Nat.reduceSub,aW]
 repeat' (first|((with_reducible first|(refine hK _ ?_;clear hK K)|refine aj fun U O=>?_|apply ah|(apply Z<;>(intro hc;try simp at hc;try omega)))<;>try simp only [go_sem])|(with_reducible first|apply ag|(refine O _ ?_;clear O U)|refine kN mJ fun K hK=>?_|refine kO fun K hK=>?_|refine aI ?_)|apply iB)
 refine aD [4,5,6,7,12,13,14,15,16,17,18,19,20,21,22,23,24,25,26,27,28,29,30,31,32,33,34] (fun k:Nat=>[(12,.d (.int .i64 (k:Int))),(5,.row 2 k)]) (fun k:Nat=>[(0,.box 42 [.d (.lst 4 (c.elements.map ElementD.dat)),.d (.lst 1 (c.limits.map ab)),.d (.int .i64 c.repeats),.d (.int .i64 c.bonus),.d (.int .i64 c.keeps),.d (.int .i64 c.fall)]),(1,.box 143 [.d (.lst 1 (it.names.map aZ)),.d (.lst 1 (it.marks.map ab)),.d (.bool it.late)]),(2,.row 3 1 (((bC c it).take k).map ab))]) 3 (fun k:Nat=>k≤it.names.length) (fun k:Nat=>it.names.length - k) 0 (Nat.zero_le _) (ao [] (by simp [lk,ae,List.take_zero,aH]<;>omega)) ?_
 intro k hkl
 simp only [bi,wipe,wl,bh,bw,rm,if_true,if_false,Nat.reduceEqDiff,Bool.false_eq_true,reduceCtorEq]
 by_cases hlt:k < it.names.length
 ·have hx:=List.getElem?_eq_getElem hlt
  generalize it.names[k] = y at hx
  have hm:=List.getElem?_eq_getElem (show k < it.marks.length by omega)
  generalize it.marks[k] = m at hm
  have hfi:0≤bL c y:=hk k y hx
  obtain ⟨x,hxe,_⟩:=f_ hfi
  have hxl:=(List.getElem?_eq_some_iff.1 hxe).1
  obtain ⟨_,_,_,_,_,hb1,hb2,_⟩:=hc.1 _ x hxe
  have hg:=iT (c:=c) hx hm
  have hsn:=hZ (f:=ab) hg
  have hw:=kw (m:=m) hfi hxe
  have htl:(List.map ab (List.take k (bC c it))).length = k:=by simp;omega
  have hcf:=iW c y hl
  have hwo:=sL c x m hc.2.2 hb1 hb2
  rw [hw] at hsn
  generalize bL c y = i at hfi hxe hxl hcf
  generalize fP c x m = wv at hsn hwo
  repeat' (first|((with_reducible first|(refine hK _ ?_;clear hK K)|refine aj fun U O=>?_|apply ah|(apply Z<;>(intro hc;try simp at hc;try omega)))<;>try simp only [go_sem,ap,hx,aq,aZ])|(with_reducible first|apply ag|(refine O _ ?_;clear O U)|refine kN mJ fun K hK=>?_|refine kO fun K hK=>?_|refine aI ?_)|apply iB)
  refine dW aa 1 15 ax (by decide +kernel) ?_
  simp only [List.take_succ_cons,List.take_zero,List.drop_succ_cons,List.drop_zero]
  repeat' (first|((with_reducible first|(refine hK _ ?_;clear hK K)|refine aj fun U O=>?_|apply ah|(apply Z<;>(intro hc;try simp at hc;try omega)))<;>try simp only [go_sem,ap,hx,hm,hxe,aq,aZ,ab,ElementD.dat,hfi,hxl,htl])|(with_reducible first|apply ag|(refine O _ ?_;clear O U)|refine kN mJ fun K hK=>?_|refine kO fun K hK=>?_|refine aI ?_)|((with_reducible first|apply CallK.eq|apply CallQ.eqs);(· with_reducible first|exact hcf|exact hwo);(· first|exact rfl|(simp [RV.flat,D.sc,ab];done));try simp only [go_sem,ap,hx,hm,hxe,aq,aZ,ab,ElementD.dat,hfi,hxl,htl])|apply iB)
  all_goals first
   |(exfalso;omega)
   |exact ⟨k + 1,by omega,by omega,(ao [] (by simp [lk,ae,hsn,ab,-List.map_take]<;>omega))⟩
 ·obtain rfl:k = it.names.length:=by omega
  have e:(bC c it).take it.names.length = bC c it:=List.take_of_length_le (by omega)
  rw [e]
  repeat' (first|((with_reducible first|(refine hK _ ?_;clear hK K)|refine aj fun U O=>?_|apply ah|(apply Z<;>(intro hc;try simp at hc;try omega)))<;>try simp only [go_sem])|(with_reducible first|apply ag|(refine O _ ?_;clear O U)|refine kN mJ fun K hK=>?_|refine kO fun K hK=>?_|refine aI ?_)|(with_reducible refine dY mJ aa 1 15 ax (by kernel_rfl) (fun K hK=>?_);simp only [List.take_succ_cons,List.take_zero,List.drop_succ_cons,List.drop_zero])|apply iB)
  all_goals first
   |(exfalso;omega)
   |(refine ak rfl (by simp only [hwl,bl,bn,ae,lk,an,aM,List.length_append,List.length_take,if_true,if_false,Nat.reduceEqDiff,Nat.reduceBEq,Bool.false_eq_true,Option.some.injEq];rfl) (by simp [am,lk]) ?_;rfl)
theorem rt (c:CodeD) (it:ItemD) (hc:CodeOk c) (hi:ItOk it) (hk:cu c it):FnEq Tryz.prog 243 [.agg c.cs,.agg [.d (.lst 1 (it.names.map aZ)),.d (.lst 1 (it.marks.map ab)),.d (.bool it.late)]] [.d (.int .i64 (dm c it))]:=by
 have hws:=jD hc hi hk
 have hwl:=dQ (c:=c) hi
 have hi2:=hi.2.2.1
 have hbn:=hc.2.2.2.2.2.2.2
 have hbd:∀ x ∈ bC c it,-2000≤x∧x≤2000:=fun x hx=>by have:=fL hc hk x hx;omega
 have hsi:=gF (bC c it) 2000 (by omega) (by omega) hbd (by omega)
 have hwo:=nG c it hc hi hk
 have hmn:=fY (a:=(bC c it).sum) (b:=100 + c.bonus) (A:=6000) (B:=120) hws.1 hws.2 (by omega) (by omega)
 refine aO aa Tryz.func243 rfl rfl ?_;simp only [Tryz.ntmps243,aR,aM,Nat.reduceAdd,Nat.reduceSub,aW]
 cases hl:it.late
 ·rw [show dm c it = (bC c it).sum by unfold dm;rw [hl];rfl]
  generalize (bC c it).sum = s at hsi hws
  rw [hl] at hwo
  repeat' (first|((with_reducible first|(refine hK _ ?_;clear hK K)|refine aj fun U O=>?_|apply ah|(apply Z<;>(intro hc;try simp at hc;try omega)))<;>try simp only [go_sem,hl])|(with_reducible first|apply ag|(refine O _ ?_;clear O U)|refine kN v6 fun K hK=>?_|refine kO fun K hK=>?_|refine aI ?_)|((with_reducible apply CallK.eq);(· with_reducible first|exact hwo|exact hsi);(· simp [RV.flat,D.sc,ab]);try simp only [go_sem,hl])|fail)
  all_goals first
   |(exfalso;omega)
   |(refine ak rfl rfl (by simp [am,lk]) ?_;rfl)
 ·rw [show dm c it = dX ((bC c it).sum * (100 + c.bonus)) 100 by unfold dm;rw [hl];rfl]
  have hro:=gp ((bC c it).sum * (100 + c.bonus)) 100 (by omega) (by omega) (by omega) (by omega)
  generalize hp:(bC c it).sum * (100 + c.bonus) = p at hmn hro
  generalize (bC c it).sum = s at hsi hws hp
  rw [hl] at hwo
  repeat' (first|((with_reducible first|(refine hK _ ?_;clear hK K)|refine aj fun U O=>?_|apply ah|(apply Z<;>(intro hc;try simp at hc;try omega)))<;>try simp only [go_sem,hl,hp])|(with_reducible first|apply ag|(refine O _ ?_;clear O U)|refine kN v6 fun K hK=>?_|refine kO fun K hK=>?_|refine aI ?_)|((with_reducible apply CallK.eq);(· with_reducible first|exact hwo|exact hsi|exact hro);(· simp [RV.flat,D.sc,ab]);try simp only [go_sem,hl,hp])|fail)
  all_goals first
   |(exfalso;omega)
   |(refine ak rfl rfl (by simp [am,lk]) ?_;rfl)
theorem tY (c:CodeD) (it:ItemD) (hc:CodeOk c) (hi:ItOk it) (hk:cu c it):FnEq Tryz.prog 252 [.agg c.cs,.agg [.d (.lst 1 (it.names.map aZ)),.d (.lst 1 (it.marks.map ab)),.d (.bool it.late)]] [.d (.int .i64 (dm c it))]:=by
 have hws:=jD hc hi hk
 have hi1:=hi.2.1
 have hi2:=hi.2.2.1
 have hi3:=hi.2.2.2.1
 have hwl:=dQ (c:=c) hi
 have hbn:=hc.2.2.2.2.2.2.2
 have hbd:∀ x ∈ bC c it,-2000≤x∧x≤2000:=fun x hx=>by have:=fL hc hk x hx;omega
 have hmn:=fY (a:=(bC c it).sum) (b:=100 + c.bonus) (A:=6000) (B:=120) hws.1 hws.2 (by omega) (by omega)
 refine aO aa Tryz.func252 rfl rfl ?_;simp only [Tryz.ntmps252,aR,aM,Nat.reduceAdd,Nat.reduceSub,aW]
 repeat' (first|((with_reducible first|(refine hK _ ?_;clear hK K)|refine aj fun U O=>?_|apply ah|(apply Z<;>(intro hc;try simp at hc;try omega)))<;>try simp only [go_sem])|(with_reducible first|apply ag|(refine O _ ?_;clear O U)|refine kN jw fun K hK=>?_|refine kO fun K hK=>?_|refine aI ?_)|apply iB)
 refine aD [4,5,6,7,11,12,13,14,15,16,17,18,19,20,21,22,23,24,25,26] (fun k:Nat=>[(11,.d (.int .i64 (k:Int))),(5,.d (.int .i64 ((bC c it).take k).sum))]) (fun k:Nat=>[(0,.box 42 [.d (.lst 4 (c.elements.map ElementD.dat)),.d (.lst 1 (c.limits.map ab)),.d (.int .i64 c.repeats),.d (.int .i64 c.bonus),.d (.int .i64 c.keeps),.d (.int .i64 c.fall)]),(1,.box 143 [.d (.lst 1 (it.names.map aZ)),.d (.lst 1 (it.marks.map ab)),.d (.bool it.late)])]) 2 (fun k:Nat=>k≤it.names.length) (fun k:Nat=>it.names.length - k) 0 (Nat.zero_le _) (ao [] (by simp [lk,ae,List.take_zero,List.sum_nil]<;>omega)) ?_
 intro k hkl
 have hb1:=cO (by decide) (by decide) hbd (by omega) k
 have hb2:=cO (by decide) (by decide) hbd (by omega) (k + 1)
 simp only [bi,wipe,wl,bh,bw,rm,if_true,if_false,Nat.reduceEqDiff,Bool.false_eq_true,reduceCtorEq]
 by_cases hlt:k < it.names.length
 ·have hx:=List.getElem?_eq_getElem hlt
  generalize it.names[k] = y at hx
  have hm:=List.getElem?_eq_getElem (show k < it.marks.length by omega)
  generalize it.marks[k] = m at hm
  have hg:=iT (c:=c) hx hm
  have hsn:=gc hg
  have hbw:=ms c y m hc
  have hbb:=hbd _ (List.mem_of_getElem? hg)
  generalize eX c y m = wv at hsn hbw hbb
  repeat' (first|((with_reducible first|(refine hK _ ?_;clear hK K)|refine aj fun U O=>?_|apply ah|(apply Z<;>(intro hc;try simp at hc;try omega)))<;>try simp only [go_sem,ap,hx,hm,aq,aZ,ab])|(with_reducible first|apply ag|(refine O _ ?_;clear O U)|refine kN jw fun K hK=>?_|refine kO fun K hK=>?_|refine aI ?_)|((with_reducible first|apply CallK.eq|apply CallQ.eqs);(· with_reducible first|exact hbw);(· first|exact rfl|(simp [RV.flat,D.sc,ab];done));try simp only [go_sem,ap,hx,hm,aq,aZ,ab])|(with_reducible refine az jw aa ax (by kernel_rfl) (fun K hK=>?_))|(with_reducible refine aN aa ax (by kernel_rfl) ?_)|apply iB)
  all_goals first
   |(exfalso;omega)
   |exact ⟨k + 1,by omega,by omega,(ao [] (by simp [lk,ae,hsn]<;>omega))⟩
 ·have e:(bC c it).take k = bC c it:=List.take_of_length_le (by omega)
  rw [e]
  cases hl:it.late
  ·rw [show dm c it = (bC c it).sum by unfold dm;rw [hl];rfl]
   generalize (bC c it).sum = s at hws
   repeat' (first|((with_reducible first|(refine hK _ ?_;clear hK K)|refine aj fun U O=>?_|apply ah|(apply Z<;>(intro hc;try simp at hc;try omega)))<;>try simp only [go_sem,hl])|(with_reducible first|apply ag|(refine O _ ?_;clear O U)|refine kN jw fun K hK=>?_|refine kO fun K hK=>?_|refine aI ?_)|(with_reducible refine az jw aa ax (by kernel_rfl) (fun K hK=>?_))|(with_reducible refine aN aa ax (by kernel_rfl) ?_)|apply iB)
   all_goals first
    |(exfalso;omega)
    |(refine ak rfl rfl (by simp [am,lk]) ?_;rfl)
  ·rw [show dm c it = dX ((bC c it).sum * (100 + c.bonus)) 100 by unfold dm;rw [hl];rfl]
   have hro:=gT ((bC c it).sum * (100 + c.bonus)) 100 (by omega) (by omega) (by omega) (by omega)
   generalize hp:(bC c it).sum * (100 + c.bonus) = p at hmn hro
   generalize (bC c it).sum = s at hws hp
   repeat' (first|((with_reducible first|(refine hK _ ?_;clear hK K)|refine aj fun U O=>?_|apply ah|(apply Z<;>(intro hc;try simp at hc;try omega)))<;>try simp only [go_sem,hl,hp])|(with_reducible first|apply ag|(refine O _ ?_;clear O U)|refine kN jw fun K hK=>?_|refine kO fun K hK=>?_|refine aI ?_)|((with_reducible first|apply CallK.eq|apply CallQ.eqs);(· with_reducible first|exact hro);(· first|exact rfl|(simp [RV.flat,D.sc,ab];done));try simp only [go_sem,hl,hp])|(with_reducible refine az jw aa ax (by kernel_rfl) (fun K hK=>?_))|(with_reducible refine aN aa ax (by kernel_rfl) ?_)|apply iB)
   all_goals first
    |(exfalso;omega)
    |(refine ak rfl rfl (by simp [am,lk]) ?_;rfl)
theorem rK (l:List ItemD) (k:Nat):f8 l k≤k:=jv _ _ _
theorem pZ (l:List ItemD) (n:Nat) (hl:ItsOk l) (hk:n < l.length):FnEq Tryz.prog 242 [.d (.lst 3 (l.map ItemD.dat)),.d (.int .i64 (n:Int))] [.d (.int .i64 (f8 l n:Nat))]:=by
 have h14:=hl.1
 have hx:=List.getElem?_eq_getElem hk
 generalize l[n] = x at hx
 have hx0:=iL (hl.at_ hx)
 have hxn:=(hl.at_ hx).2.1
 have er:f8 l n = cn (ek (bZ x)) (l.take n):=by unfold f8;rw [hx];rfl
 have htl:(List.take n (List.map ItemD.dat l)).length = n:=by simp;omega
 have hcz:cn (ek (bZ x)) [] = 0:=rfl
 rw [er]
 refine aO aa Tryz.func242 rfl rfl ?_;simp only [Tryz.ntmps242,aR,aM,Nat.reduceAdd,Nat.reduceSub,aW]
 repeat' (first|((with_reducible first|(refine hK _ ?_;clear hK K)|refine aj fun U O=>?_|apply ah|(apply Z<;>(intro hc;try simp at hc;try omega)))<;>try simp only [go_sem,an,htl])|(with_reducible first|apply ag|(refine O _ ?_;clear O U)|refine kN gq fun K hK=>?_|refine kO fun K hK=>?_|refine aI ?_)|(refine xS rfl fun U O=>?_;simp only [go_sem,an,htl])|(refine qS rfl fun U O=>?_;simp only [go_sem,an,htl])|(with_reducible refine az gq aa ax (by kernel_rfl) (fun K hK=>?_))|(with_reducible refine aN aa ax (by kernel_rfl) ?_)|apply iB)
 all_goals first
  |(exfalso;omega)
  |skip
 refine aD [4,5,7,12,13,14,15,16,17,18,19,20,21,22,23,24,25,26,27,28,29,30,31,32,33,34,35,36,37] (fun k:Nat=>[(12,.d (.int .i64 (k:Int))),(5,.d (.int .i64 (cn (ek (bZ x)) (l.take k):Nat)))]) (fun k:Nat=>[]) 0 (fun k:Nat=>k≤n) (fun k:Nat=>n - k) 0 (Nat.zero_le _) (ao [] (by simp [lk,ae,List.take_zero,hcz]<;>omega)) ?_
 intro j hj
 have hcb:=jv (ek (bZ x)) l j
 simp only [bi,wipe,wl,bh,bw,rm,if_true,if_false,Nat.reduceEqDiff,Bool.false_eq_true,reduceCtorEq]
 by_cases hlt:j < n
 ·have hy:=List.getElem?_eq_getElem (show j < l.length by omega)
  generalize l[j] = y at hy
  have hyt:(List.take n (List.map ItemD.dat l))[j]? = some y.dat:=by rw [List.getElem?_take,if_pos hlt,ap,hy];rfl
  have hy0:=iL (hl.at_ hy)
  have hym:=n9 (hl.at_ hy)
  have hyn:=(hl.at_ hy).2.1
  have hyl:=(hl.at_ hy).2.2.2.1
  by_cases hp:ek (bZ x) y = true
  ·have hcy:=t8 (p:=ek (bZ x)) hy hp
   have hp2:=hp
   simp only [ek,Bool.and_eq_true,decide_eq_true_eq] at hp2
   obtain ⟨hp3,hp4⟩:=hp2
   have hd:decide (bZ y = bZ x) = true:=decide_eq_true hp3
   generalize jm y = mk at hym hp4
   repeat' (first|((with_reducible first|(refine hK _ ?_;clear hK K)|refine aj fun U O=>?_|apply ah|(apply Z<;>(intro hc;try simp at hc;try omega)))<;>try simp only [go_sem,ap,hyt,hx,hx0,hy0,hym,hd,aq,aZ,ab,ItemD.dat,an])|(with_reducible first|apply ag|(refine O _ ?_;clear O U)|refine kN gq fun K hK=>?_|refine kO fun K hK=>?_|refine aI ?_)|(refine xS rfl fun U O=>?_;simp only [go_sem,ap,hyt,hx,hx0,hy0,hym,hd,aq,aZ,ab,ItemD.dat,an])|(refine qS rfl fun U O=>?_;simp only [go_sem,ap,hyt,hx,hx0,hy0,hym,hd,aq,aZ,ab,ItemD.dat,an])|(with_reducible refine az gq aa ax (by kernel_rfl) (fun K hK=>?_))|(with_reducible refine aN aa ax (by kernel_rfl) ?_)|apply iB)
   all_goals first
    |(exfalso;omega)
    |exact ⟨j + 1,by omega,by omega,(ao [] (by simp [lk,ae,hcy]<;>omega))⟩
  ·have hp:ek (bZ x) y = false:=by simpa using hp
   have hcn:=vZ (p:=ek (bZ x)) hy hp
   by_cases hp3:bZ y = bZ x
   ·have hd:decide (bZ y = bZ x) = true:=decide_eq_true hp3
    have hp4:jm y = 3:=by
     have:=hp;simp [ek,hp3] at this;exact this
    rw [hp4] at hym
    repeat' (first|((with_reducible first|(refine hK _ ?_;clear hK K)|refine aj fun U O=>?_|apply ah|(apply Z<;>(intro hc;try simp at hc;try omega)))<;>try simp only [go_sem,ap,hyt,hx,hx0,hy0,hym,hd,aq,aZ,ab,ItemD.dat,an])|(with_reducible first|apply ag|(refine O _ ?_;clear O U)|refine kN gq fun K hK=>?_|refine kO fun K hK=>?_|refine aI ?_)|(refine xS rfl fun U O=>?_;simp only [go_sem,ap,hyt,hx,hx0,hy0,hym,hd,aq,aZ,ab,ItemD.dat,an])|(refine qS rfl fun U O=>?_;simp only [go_sem,ap,hyt,hx,hx0,hy0,hym,hd,aq,aZ,ab,ItemD.dat,an])|(with_reducible refine az gq aa ax (by kernel_rfl) (fun K hK=>?_))|(with_reducible refine aN aa ax (by kernel_rfl) ?_)|apply iB)
    all_goals first
     |(exfalso;omega)
     |exact ⟨j + 1,by omega,by omega,(ao [] (by simp [lk,ae,hcn]<;>omega))⟩
   ·have hd:decide (bZ y = bZ x) = false:=decide_eq_false hp3
    repeat' (first|((with_reducible first|(refine hK _ ?_;clear hK K)|refine aj fun U O=>?_|apply ah|(apply Z<;>(intro hc;try simp at hc;try omega)))<;>try simp only [go_sem,ap,hyt,hx,hx0,hy0,hym,hd,aq,aZ,ab,ItemD.dat,an])|(with_reducible first|apply ag|(refine O _ ?_;clear O U)|refine kN gq fun K hK=>?_|refine kO fun K hK=>?_|refine aI ?_)|(refine xS rfl fun U O=>?_;simp only [go_sem,ap,hyt,hx,hx0,hy0,hym,hd,aq,aZ,ab,ItemD.dat,an])|(refine qS rfl fun U O=>?_;simp only [go_sem,ap,hyt,hx,hx0,hy0,hym,hd,aq,aZ,ab,ItemD.dat,an])|(with_reducible refine az gq aa ax (by kernel_rfl) (fun K hK=>?_))|(with_reducible refine aN aa ax (by kernel_rfl) ?_)|apply iB)
    all_goals first
     |(exfalso;omega)
     |exact ⟨j + 1,by omega,by omega,(ao [] (by simp [lk,ae,hcn]<;>omega))⟩
 ·have e:j = n:=by omega
  subst e
  repeat' (first|((with_reducible first|(refine hK _ ?_;clear hK K)|refine aj fun U O=>?_|apply ah|(apply Z<;>(intro hc;try simp at hc;try omega)))<;>try simp only [go_sem])|(with_reducible first|apply ag|(refine O _ ?_;clear O U)|refine kN gq fun K hK=>?_|refine kO fun K hK=>?_|refine aI ?_)|(refine xS rfl fun U O=>?_;simp only [go_sem])|(refine qS rfl fun U O=>?_;simp only [go_sem])|(with_reducible refine az gq aa ax (by kernel_rfl) (fun K hK=>?_))|(with_reducible refine aN aa ax (by kernel_rfl) ?_)|apply iB)
  all_goals first
   |(exfalso;omega)
   |(refine ak rfl rfl (by simp [am,lk]) ?_;rfl)
theorem pB (l:List ItemD) (n:Nat) (hl:ItsOk l) (hk:n < l.length):FnEq Tryz.prog 253 [.d (.lst 3 (l.map ItemD.dat)),.d (.int .i64 (n:Int))] [.d (.int .i64 (f8 l n:Nat))]:=by
 have h14:=hl.1
 have hx:=List.getElem?_eq_getElem hk
 generalize l[n] = x at hx
 have hx0:=iL (hl.at_ hx)
 have hxn:=(hl.at_ hx).2.1
 have er:f8 l n = cn (ek (bZ x)) (l.take n):=by unfold f8;rw [hx];rfl
 have htl:(List.take n (List.map ItemD.dat l)).length = n:=by simp;omega
 have hcz:cn (ek (bZ x)) [] = 0:=rfl
 rw [er]
 refine aO aa Tryz.func253 rfl rfl ?_;simp only [Tryz.ntmps253,aR,aM,Nat.reduceAdd,Nat.reduceSub,aW]
 repeat' (first|((with_reducible first|(refine hK _ ?_;clear hK K)|refine aj fun U O=>?_|apply ah|(apply Z<;>(intro hc;try simp at hc;try omega)))<;>try simp only [go_sem,an,htl])|(with_reducible first|apply ag|(refine O _ ?_;clear O U)|refine kN gj fun K hK=>?_|refine kO fun K hK=>?_|refine aI ?_)|(refine xS rfl fun U O=>?_;simp only [go_sem,an,htl])|(refine qS rfl fun U O=>?_;simp only [go_sem,an,htl])|(with_reducible refine az gj aa ax (by kernel_rfl) (fun K hK=>?_))|(with_reducible refine aN aa ax (by kernel_rfl) ?_)|apply iB)
 all_goals first
  |(exfalso;omega)
  |skip
 refine aD [4,5,7,12,13,14,15,16,17,18,19,20,21,22,23,24,25,26,27,28,29,30,31,32,33,34,35,36,37] (fun k:Nat=>[(12,.d (.int .i64 (k:Int))),(5,.d (.int .i64 (cn (ek (bZ x)) (l.take k):Nat)))]) (fun k:Nat=>[]) 0 (fun k:Nat=>k≤n) (fun k:Nat=>n - k) 0 (Nat.zero_le _) (ao [] (by simp [lk,ae,List.take_zero,hcz]<;>omega)) ?_
 intro j hj
 have hcb:=jv (ek (bZ x)) l j
 simp only [bi,wipe,wl,bh,bw,rm,if_true,if_false,Nat.reduceEqDiff,Bool.false_eq_true,reduceCtorEq]
 by_cases hlt:j < n
 ·have hy:=List.getElem?_eq_getElem (show j < l.length by omega)
  generalize l[j] = y at hy
  have hyt:(List.take n (List.map ItemD.dat l))[j]? = some y.dat:=by rw [List.getElem?_take,if_pos hlt,ap,hy];rfl
  have hy0:=iL (hl.at_ hy)
  have hym:=n9 (hl.at_ hy)
  have hyn:=(hl.at_ hy).2.1
  have hyl:=(hl.at_ hy).2.2.2.1
  by_cases hp:ek (bZ x) y = true
  ·have hcy:=t8 (p:=ek (bZ x)) hy hp
   have hp2:=hp
   simp only [ek,Bool.and_eq_true,decide_eq_true_eq] at hp2
   obtain ⟨hp3,hp4⟩:=hp2
   have hd:decide (bZ y = bZ x) = true:=decide_eq_true hp3
   generalize jm y = mk at hym hp4
   repeat' (first|((with_reducible first|(refine hK _ ?_;clear hK K)|refine aj fun U O=>?_|apply ah|(apply Z<;>(intro hc;try simp at hc;try omega)))<;>try simp only [go_sem,ap,hyt,hx,hx0,hy0,hym,hd,aq,aZ,ab,ItemD.dat,an])|(with_reducible first|apply ag|(refine O _ ?_;clear O U)|refine kN gj fun K hK=>?_|refine kO fun K hK=>?_|refine aI ?_)|(refine xS rfl fun U O=>?_;simp only [go_sem,ap,hyt,hx,hx0,hy0,hym,hd,aq,aZ,ab,ItemD.dat,an])|(refine qS rfl fun U O=>?_;simp only [go_sem,ap,hyt,hx,hx0,hy0,hym,hd,aq,aZ,ab,ItemD.dat,an])|(with_reducible refine az gj aa ax (by kernel_rfl) (fun K hK=>?_))|(with_reducible refine aN aa ax (by kernel_rfl) ?_)|apply iB)
   all_goals first
    |(exfalso;omega)
    |exact ⟨j + 1,by omega,by omega,(ao [] (by simp [lk,ae,hcy]<;>omega))⟩
  ·have hp:ek (bZ x) y = false:=by simpa using hp
   have hcn:=vZ (p:=ek (bZ x)) hy hp
   by_cases hp3:bZ y = bZ x
   ·have hd:decide (bZ y = bZ x) = true:=decide_eq_true hp3
    have hp4:jm y = 3:=by
     have:=hp;simp [ek,hp3] at this;exact this
    rw [hp4] at hym
    repeat' (first|((with_reducible first|(refine hK _ ?_;clear hK K)|refine aj fun U O=>?_|apply ah|(apply Z<;>(intro hc;try simp at hc;try omega)))<;>try simp only [go_sem,ap,hyt,hx,hx0,hy0,hym,hd,aq,aZ,ab,ItemD.dat,an])|(with_reducible first|apply ag|(refine O _ ?_;clear O U)|refine kN gj fun K hK=>?_|refine kO fun K hK=>?_|refine aI ?_)|(refine xS rfl fun U O=>?_;simp only [go_sem,ap,hyt,hx,hx0,hy0,hym,hd,aq,aZ,ab,ItemD.dat,an])|(refine qS rfl fun U O=>?_;simp only [go_sem,ap,hyt,hx,hx0,hy0,hym,hd,aq,aZ,ab,ItemD.dat,an])|(with_reducible refine az gj aa ax (by kernel_rfl) (fun K hK=>?_))|(with_reducible refine aN aa ax (by kernel_rfl) ?_)|apply iB)
    all_goals first
     |(exfalso;omega)
     |exact ⟨j + 1,by omega,by omega,(ao [] (by simp [lk,ae,hcn]<;>omega))⟩
   ·have hd:decide (bZ y = bZ x) = false:=decide_eq_false hp3
    repeat' (first|((with_reducible first|(refine hK _ ?_;clear hK K)|refine aj fun U O=>?_|apply ah|(apply Z<;>(intro hc;try simp at hc;try omega)))<;>try simp only [go_sem,ap,hyt,hx,hx0,hy0,hym,hd,aq,aZ,ab,ItemD.dat,an])|(with_reducible first|apply ag|(refine O _ ?_;clear O U)|refine kN gj fun K hK=>?_|refine kO fun K hK=>?_|refine aI ?_)|(refine xS rfl fun U O=>?_;simp only [go_sem,ap,hyt,hx,hx0,hy0,hym,hd,aq,aZ,ab,ItemD.dat,an])|(refine qS rfl fun U O=>?_;simp only [go_sem,ap,hyt,hx,hx0,hy0,hym,hd,aq,aZ,ab,ItemD.dat,an])|(with_reducible refine az gj aa ax (by kernel_rfl) (fun K hK=>?_))|(with_reducible refine aN aa ax (by kernel_rfl) ?_)|apply iB)
    all_goals first
     |(exfalso;omega)
     |exact ⟨j + 1,by omega,by omega,(ao [] (by simp [lk,ae,hcn]<;>omega))⟩
 ·have e:j = n:=by omega
  subst e
  repeat' (first|((with_reducible first|(refine hK _ ?_;clear hK K)|refine aj fun U O=>?_|apply ah|(apply Z<;>(intro hc;try simp at hc;try omega)))<;>try simp only [go_sem])|(with_reducible first|apply ag|(refine O _ ?_;clear O U)|refine kN gj fun K hK=>?_|refine kO fun K hK=>?_|refine aI ?_)|(refine xS rfl fun U O=>?_;simp only [go_sem])|(refine qS rfl fun U O=>?_;simp only [go_sem])|(with_reducible refine az gj aa ax (by kernel_rfl) (fun K hK=>?_))|(with_reducible refine aN aa ax (by kernel_rfl) ?_)|apply iB)
  all_goals first
   |(exfalso;omega)
   |(refine ak rfl rfl (by simp [am,lk]) ?_;rfl)
end Go.Proofs.YtphakidbddamfaaGreat
