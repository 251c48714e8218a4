/-
  Scores of items: the program's functions and the reference's, in the abstract machine.
-/
import Derived.Test.YtphakidbddamfaaGreatZSs
import Derived.Test.YtphakidbddamfaaGreatZIu
set_option linter.unusedSimpArgs false
set_option linter.unusedVariables false
set_option maxHeartbeats 2000000
set_option maxRecDepth 100000
namespace Go.Proofs.YtphakidbddamfaaGreat
open Go.RowKit
theorem oc {A:Int} {g:List Int} (hA:A≤1000) (h9:g.length≤9) (h0:0≤A) (h:∀ x ∈ g,-A≤x∧x≤A):-9000≤g.sum∧g.sum≤9000:=by
 have h1:=jr h
 have h2:=fN (a:=A) (b:=(g.length:Int)) (A:=1000) (B:=9) h0 hA (by omega) (by omega)
 omega
theorem jW (g:List Int) (A:Int) (hA:A≤1000) (hA0:0≤A) (h0:0 < g.length) (h9:g.length≤9) (h:∀ x ∈ g,-A≤x∧x≤A):FnEq Tryz.prog 244 [.d (.lst 1 (g.map aa))] [.d (.int .i64 (cH g)),.d (.int .i64 (dX g))]:=by
 have hs:=oc hA h9 hA0 h
 have h1:=kX h0 h
 have h2:=nu h0 h
 have hc1:=il g A (by omega) hA0 h (by omega)
 have hc2:=rT g h0 (by omega)
 have hc3:=xd g h0 (by omega)
 have e1:cH g = if g.length < 5 then g.sum else g.sum - ew g - eJ g:=rfl
 have e2:dX g = if g.length < 5 then (g.length:Int) else (g.length:Int) - 2:=rfl
 rw [e1,e2]
 refine aN ae Tryz.func244 rfl rfl ?_;simp only [Tryz.ntmps244,aP,aK,Nat.reduceAdd,Nat.reduceSub,aV]
 generalize g.sum = s at hs hc1
 generalize ew g = a at h1 hc2
 generalize eJ g = b at h2 hc3
 by_cases h5:g.length < 5
 ·rw [if_pos h5,if_pos h5]
  repeat' (first|((with_reducible first|(apply hK;clear hK K)|refine ah fun U O=>?_|apply ag|(apply Z<;>(intro hc;try simp at hc;try omega)))<;>try simp only [go_sem])|(with_reducible first|apply aj|(apply O;clear O U)|refine kN v8 fun K hK=>?_|refine kO fun K hK=>?_|refine aI ?_)|((with_reducible apply CallK.eq);(· with_reducible first|exact hc1|exact hc2|exact hc3);(· simp [RV.flat,D.sc,aa]);try simp only [go_sem])|fail)
  all_goals first
   |(exfalso;omega)
   |(refine ak rfl rfl (by simp [am,lk]) ?_;rfl)
 ·rw [if_neg h5,if_neg h5]
  repeat' (first|((with_reducible first|(apply hK;clear hK K)|refine ah fun U O=>?_|apply ag|(apply Z<;>(intro hc;try simp at hc;try omega)))<;>try simp only [go_sem])|(with_reducible first|apply aj|(apply O;clear O U)|refine kN v8 fun K hK=>?_|refine kO fun K hK=>?_|refine aI ?_)|((with_reducible apply CallK.eq);(· with_reducible first|exact hc1|exact hc2|exact hc3);(· simp [RV.flat,D.sc,aa]);try simp only [go_sem])|fail)
  all_goals first
   |(exfalso;omega)
   |(refine ak rfl rfl (by simp [am,lk]) ?_;rfl)
theorem oz (g:List Int) (A:Int) (hA:A≤1000) (hA0:0≤A) (h0:0 < g.length) (h9:g.length≤9) (h:∀ x ∈ g,-A≤x∧x≤A):FnEq Tryz.prog 241 [.d (.lst 1 (g.map aa))] [.d (.int .i64 (cH g)),.d (.int .i64 (dX g))]:=by
 have hs:=oc hA h9 hA0 h
 have h1:=kX h0 h
 have h2:=nu h0 h
 have hc1:=mb g A (by omega) hA0 h (by omega)
 have hc2:=rg g (by omega)
 have hs0:=tG h0
 have hs1:=sR h0
 have hsl:=gD g
 have e1:cH g = if g.length < 5 then g.sum else g.sum - ew g - eJ g:=rfl
 have e2:dX g = if g.length < 5 then (g.length:Int) else (g.length:Int) - 2:=rfl
 rw [e1,e2]
 refine aN ae Tryz.func241 rfl rfl ?_;simp only [Tryz.ntmps241,aP,aK,Nat.reduceAdd,Nat.reduceSub,aV]
 generalize g.sum = s at hs hc1
 generalize ew g = a at h1 hs0
 generalize eJ g = b at h2 hs1
 generalize cQ g = q at hc2 hs0 hs1 hsl
 have hkt:((g.length:Int) - 1).toNat = g.length - 1:=by omega
 have hlt:g.length - 1 < g.length:=by omega
 by_cases h5:g.length < 5
 ·rw [if_pos h5,if_pos h5]
  repeat' (first|((with_reducible first|(apply hK;clear hK K)|refine ah fun U O=>?_|apply ag|(apply Z<;>(intro hc;try simp at hc;try omega)))<;>try simp only [go_sem])|(with_reducible first|apply aj|(apply O;clear O U)|refine kN pe fun K hK=>?_|refine kO fun K hK=>?_|refine aI ?_)|((with_reducible first|apply CallK.eq|apply CallQ.eqs);(· with_reducible first|exact hc1|exact hc2);(· first|exact rfl|(simp [RV.flat,D.sc,aa];done));try simp only [go_sem])|(with_reducible refine az pe ae ay (by kernel_rfl) (fun K hK=>?_))|(with_reducible refine aO ae ay (by kernel_rfl) ?_)|fail)
  all_goals first
   |(exfalso;omega)
   |(refine ak rfl rfl (by simp [am,lk]) ?_;rfl)
 ·rw [if_neg h5,if_neg h5]
  repeat' (first|((with_reducible first|(apply hK;clear hK K)|refine ah fun U O=>?_|apply ag|(apply Z<;>(intro hc;try simp at hc;try omega)))<;>try simp only [go_sem,ap,hs0,hs1,ar,aa,hsl,hkt,hlt,h0])|(with_reducible first|apply aj|(apply O;clear O U)|refine kN pe fun K hK=>?_|refine kO fun K hK=>?_|refine aI ?_)|((with_reducible first|apply CallK.eq|apply CallQ.eqs);(· with_reducible first|exact hc1|exact hc2);(· first|exact rfl|(simp [RV.flat,D.sc,aa];done));try simp only [go_sem,ap,hs0,hs1,ar,aa,hsl,hkt,hlt,h0])|(with_reducible refine az pe ae ay (by kernel_rfl) (fun K hK=>?_))|(with_reducible refine aO ae ay (by kernel_rfl) ?_)|fail)
  all_goals first
   |(exfalso;omega)
   |(refine ak rfl rfl (by simp [am,lk]) ?_;rfl)
theorem k9 (c:CodeD) (l:List ItemD) (k:Nat) (hc:CodeOk c) (hl:ItsOk l) (hk:bX c l) (hlt:k < l.length):FnEq Tryz.prog 228 [.agg c.cs,.d (.lst 3 (l.map ItemD.dat)),.d (.int .i64 (k:Int))] [.d (.int .i64 (d7 c l k))]:=by
 have h14:=hl.1
 have hx:=List.getElem?_eq_getElem hlt
 generalize l[k] = x at hx
 have hio:=hl.at_ hx
 have hkx:cx c x:=hk k x hx
 have hfb:=lu hc hio hkx
 have hfu:=rx c x hc hio hkx
 have hre:=pQ l k hl hlt
 have hrb:=rN l k
 have e:=lG (c:=c) hx
 have hq:=dZ (du c x * 7) 10 14000000 (by omega) (by omega)
 refine aN ae Tryz.func228 rfl rfl ?_;simp only [Tryz.ntmps228,aP,aK,Nat.reduceAdd,Nat.reduceSub,aV]
 generalize du c x = fu at hfb hfu hq e
 generalize f7 l k = rp at hre hrb e
 by_cases h1:(rp:Int) < c.repeats
 ·rw [e,if_pos h1]
  repeat' (first|((with_reducible first|(apply hK;clear hK K)|refine ah fun U O=>?_|apply ag|(apply Z<;>(intro hc;try simp at hc;try omega)))<;>try simp only [go_sem,ap,hx,ar,ItemD.dat,hlt])|(with_reducible first|apply aj|(apply O;clear O U)|refine kN kH fun K hK=>?_|refine kO fun K hK=>?_|refine aI ?_)|((with_reducible first|apply CallK.eq|apply CallQ.eqs);(· with_reducible first|exact hre|exact hfu);(· first|exact rfl|(simp [RV.flat,D.sc,aa];done));try simp only [go_sem,ap,hx,ar,ItemD.dat,hlt])|(with_reducible refine az kH ae ay (by kernel_rfl) (fun K hK=>?_))|(with_reducible refine aO ae ay (by kernel_rfl) ?_)|fail)
  all_goals first
   |(exfalso;omega)
   |(refine ak rfl rfl (by simp [am,lk]) ?_;rfl)
 ·rw [if_neg h1] at e
  by_cases h2:(rp:Int) = c.repeats
  ·rw [e,if_pos h2]
   generalize hp:fu * 7 = p at hq
   generalize hq0:p.tdiv 10 = q at hq
   repeat' (first|((with_reducible first|(apply hK;clear hK K)|refine ah fun U O=>?_|apply ag|(apply Z<;>(intro hc;try simp at hc;try omega)))<;>try simp only [go_sem,ap,hx,ar,ItemD.dat,hlt,hp,hq0])|(with_reducible first|apply aj|(apply O;clear O U)|refine kN kH fun K hK=>?_|refine kO fun K hK=>?_|refine aI ?_)|((with_reducible first|apply CallK.eq|apply CallQ.eqs);(· with_reducible first|exact hre|exact hfu);(· first|exact rfl|(simp [RV.flat,D.sc,aa];done));try simp only [go_sem,ap,hx,ar,ItemD.dat,hlt,hp,hq0])|(with_reducible refine az kH ae ay (by kernel_rfl) (fun K hK=>?_))|(with_reducible refine aO ae ay (by kernel_rfl) ?_)|fail)
   all_goals first
    |(exfalso;omega)
    |(refine ak rfl rfl (by simp [am,lk]) ?_;rfl)
  ·rw [e,if_neg h2]
   repeat' (first|((with_reducible first|(apply hK;clear hK K)|refine ah fun U O=>?_|apply ag|(apply Z<;>(intro hc;try simp at hc;try omega)))<;>try simp only [go_sem,ap,hx,ar,ItemD.dat,hlt])|(with_reducible first|apply aj|(apply O;clear O U)|refine kN kH fun K hK=>?_|refine kO fun K hK=>?_|refine aI ?_)|((with_reducible first|apply CallK.eq|apply CallQ.eqs);(· with_reducible first|exact hre|exact hfu);(· first|exact rfl|(simp [RV.flat,D.sc,aa];done));try simp only [go_sem,ap,hx,ar,ItemD.dat,hlt])|(with_reducible refine az kH ae ay (by kernel_rfl) (fun K hK=>?_))|(with_reducible refine aO ae ay (by kernel_rfl) ?_)|fail)
   all_goals first
    |(exfalso;omega)
    |(refine ak rfl rfl (by simp [am,lk]) ?_;rfl)
theorem oI (c:CodeD) (l:List ItemD) (k:Nat) (hc:CodeOk c) (hl:ItsOk l) (hk:bX c l) (hlt:k < l.length):FnEq Tryz.prog 239 [.agg c.cs,.d (.lst 3 (l.map ItemD.dat)),.d (.int .i64 (k:Int))] [.d (.int .i64 (d7 c l k))]:=by
 have h14:=hl.1
 have hx:=List.getElem?_eq_getElem hlt
 generalize l[k] = x at hx
 have hio:=hl.at_ hx
 have hkx:cx c x:=hk k x hx
 have hfb:=lu hc hio hkx
 have hfu:=uO c x hc hio hkx
 have hre:=pP l k hl hlt
 have hrb:=rN l k
 have e:=lG (c:=c) hx
 have hq:=dZ (du c x * 7) 10 14000000 (by omega) (by omega)
 refine aN ae Tryz.func239 rfl rfl ?_;simp only [Tryz.ntmps239,aP,aK,Nat.reduceAdd,Nat.reduceSub,aV]
 generalize du c x = fu at hfb hfu hq e
 generalize f7 l k = rp at hre hrb e
 by_cases h1:(rp:Int) < c.repeats
 ·rw [e,if_pos h1]
  repeat' (first|((with_reducible first|(apply hK;clear hK K)|refine ah fun U O=>?_|apply ag|(apply Z<;>(intro hc;try simp at hc;try omega)))<;>try simp only [go_sem,ap,hx,ar,ItemD.dat,hlt])|(with_reducible first|apply aj|(apply O;clear O U)|refine kN kP fun K hK=>?_|refine kO fun K hK=>?_|refine aI ?_)|((with_reducible first|apply CallK.eq|apply CallQ.eqs);(· with_reducible first|exact hre|exact hfu);(· first|exact rfl|(simp [RV.flat,D.sc,aa];done));try simp only [go_sem,ap,hx,ar,ItemD.dat,hlt])|(with_reducible refine az kP ae ay (by kernel_rfl) (fun K hK=>?_))|(with_reducible refine aO ae ay (by kernel_rfl) ?_)|fail)
  all_goals first
   |(exfalso;omega)
   |(refine ak rfl rfl (by simp [am,lk]) ?_;rfl)
 ·rw [if_neg h1] at e
  by_cases h2:(rp:Int) = c.repeats
  ·rw [e,if_pos h2]
   generalize hp:fu * 7 = p at hq
   generalize hq0:p.tdiv 10 = q at hq
   repeat' (first|((with_reducible first|(apply hK;clear hK K)|refine ah fun U O=>?_|apply ag|(apply Z<;>(intro hc;try simp at hc;try omega)))<;>try simp only [go_sem,ap,hx,ar,ItemD.dat,hlt,hp,hq0])|(with_reducible first|apply aj|(apply O;clear O U)|refine kN kP fun K hK=>?_|refine kO fun K hK=>?_|refine aI ?_)|((with_reducible first|apply CallK.eq|apply CallQ.eqs);(· with_reducible first|exact hre|exact hfu);(· first|exact rfl|(simp [RV.flat,D.sc,aa];done));try simp only [go_sem,ap,hx,ar,ItemD.dat,hlt,hp,hq0])|(with_reducible refine az kP ae ay (by kernel_rfl) (fun K hK=>?_))|(with_reducible refine aO ae ay (by kernel_rfl) ?_)|fail)
   all_goals first
    |(exfalso;omega)
    |(refine ak rfl rfl (by simp [am,lk]) ?_;rfl)
  ·rw [e,if_neg h2]
   repeat' (first|((with_reducible first|(apply hK;clear hK K)|refine ah fun U O=>?_|apply ag|(apply Z<;>(intro hc;try simp at hc;try omega)))<;>try simp only [go_sem,ap,hx,ar,ItemD.dat,hlt])|(with_reducible first|apply aj|(apply O;clear O U)|refine kN kP fun K hK=>?_|refine kO fun K hK=>?_|refine aI ?_)|((with_reducible first|apply CallK.eq|apply CallQ.eqs);(· with_reducible first|exact hre|exact hfu);(· first|exact rfl|(simp [RV.flat,D.sc,aa];done));try simp only [go_sem,ap,hx,ar,ItemD.dat,hlt])|(with_reducible refine az kP ae ay (by kernel_rfl) (fun K hK=>?_))|(with_reducible refine aO ae ay (by kernel_rfl) ?_)|fail)
   all_goals first
    |(exfalso;omega)
    |(refine ak rfl rfl (by simp [am,lk]) ?_;rfl)
theorem uX (c:CodeD) (it:ItemD) (hc:CodeOk c) (hi:ItOk it) (hk:cx c it):FnEq Tryz.prog 245 [.agg c.cs,.agg [.d (.lst 1 (it.names.map aX)),.d (.lst 1 (it.marks.map aa)),.d (.bool it.late)]] [.d (.int .i64 (ed c it))]:=by
 have hwl:=dN (c:=c) hi
 have hi1:=hi.2.1
 have hi2:=hi.2.2.1
 have hmx:=rT (bE c it) (by omega) (by omega)
 have hwo:=oH c it hc hi hk
 refine aN ae Tryz.func245 rfl rfl ?_;simp only [Tryz.ntmps245,aP,aK,Nat.reduceAdd,Nat.reduceSub,aV]
 repeat' (first|((with_reducible first|(apply hK;clear hK K)|refine ah fun U O=>?_|apply ag|(apply Z<;>(intro hc;try simp at hc;try omega)))<;>try simp only [go_sem])|(with_reducible first|apply aj|(apply O;clear O U)|refine kN x9 fun K hK=>?_|refine kO fun K hK=>?_|refine aI ?_)|((with_reducible apply CallK.eq);(· with_reducible first|exact hwo|exact hmx);(· simp [RV.flat,D.sc,aa]);try simp only [go_sem])|fail)
 all_goals first
  |(exfalso;omega)
  |(refine ak rfl rfl (by simp [am,lk]) ?_;rfl)
def uT (c:CodeD) (it:ItemD) (k:Nat):Int:=((bE c it).take k).foldl max 0
theorem wI (c:CodeD) (it:ItemD):uT c it 0 = 0:=rfl
theorem w7 {c:CodeD} {it:ItemD} {k:Nat} {x:Int} (hx:(bE c it)[k]? = some x):uT c it (k + 1) = max (uT c it k) x:=by unfold uT;rw [bJ hx,List.foldl_append];rfl
theorem xy {c:CodeD} {it:ItemD} (hc:CodeOk c) (hi:ItOk it) (hk:cx c it) {k:Nat} (h:it.names.length≤k):uT c it k = ed c it:=by
 have hwl:=dN (c:=c) hi
 have hi1:=hi.2.1
 have hb:=fT hc hk
 unfold uT ed ew
 rw [List.take_of_length_le (by omega)]
 cases hw:bE c it with
 |nil=>rw [hw] at hwl;simp at hwl;omega
 |cons a r=>
  have ha:=hb a (by rw [hw];simp)
  simp only [List.foldl_cons,List.drop_succ_cons,List.drop_zero,List.headD_cons]
  congr 1
  omega
theorem tV (c:CodeD) (it:ItemD) (hc:CodeOk c) (hi:ItOk it) (hk:cx c it):FnEq Tryz.prog 254 [.agg c.cs,.agg [.d (.lst 1 (it.names.map aX)),.d (.lst 1 (it.marks.map aa)),.d (.bool it.late)]] [.d (.int .i64 (ed c it))]:=by
 have hwl:=dN (c:=c) hi
 have hi1:=hi.2.1
 have hi2:=hi.2.2.1
 have hi3:=hi.2.2.2.1
 refine aN ae Tryz.func254 rfl rfl ?_;simp only [Tryz.ntmps254,aP,aK,Nat.reduceAdd,Nat.reduceSub,aV]
 repeat' (first|((with_reducible first|(apply hK;clear hK K)|refine ah fun U O=>?_|apply ag|(apply Z<;>(intro hc;try simp at hc;try omega)))<;>try simp only [go_sem])|(with_reducible first|apply aj|(apply O;clear O U)|refine kN mF fun K hK=>?_|refine kO fun K hK=>?_|refine aI ?_)|apply iB)
 refine aA [4,5,6,7,11,12,13,14,15,16,17,18,19,20,21,22,23,24,25,26] (fun k:Nat=>[(11,.d (.int .i64 (k:Int))),(5,.d (.int .i64 (uT c it k)))]) (fun k:Nat=>[(0,.box 42 [.d (.lst 4 (c.elements.map ElementD.dat)),.d (.lst 1 (c.limits.map aa)),.d (.int .i64 c.repeats),.d (.int .i64 c.bonus),.d (.int .i64 c.keeps),.d (.int .i64 c.fall)]),(1,.box 143 [.d (.lst 1 (it.names.map aX)),.d (.lst 1 (it.marks.map aa)),.d (.bool it.late)])]) 2 (fun k:Nat=>k≤it.names.length) (fun k:Nat=>it.names.length - k) 0 (Nat.zero_le _) (an [] (by simp [lk,ab,wI]<;>omega)) ?_
 intro k hkl
 simp only [bc,wipe,wl,bb,bx,rm,if_true,if_false,Nat.reduceEqDiff,Bool.false_eq_true,reduceCtorEq]
 by_cases hlt:k < it.names.length
 ·have hx:=List.getElem?_eq_getElem hlt
  generalize it.names[k] = y at hx
  have hm:=List.getElem?_eq_getElem (show k < it.marks.length by omega)
  generalize it.marks[k] = m at hm
  have hg:=jf (c:=c) hx hm
  have hsn:=w7 hg
  have hbw:=m4 c y m hc
  generalize eX c y m = wv at hsn hbw
  repeat' (first|((with_reducible first|(apply hK;clear hK K)|refine ah fun U O=>?_|apply ag|(apply Z<;>(intro hc;try simp at hc;try omega)))<;>try simp only [go_sem,ap,hx,hm,ar,aX,aa])|(with_reducible first|apply aj|(apply O;clear O U)|refine kN mF fun K hK=>?_|refine kO fun K hK=>?_|refine aI ?_)|((with_reducible first|apply CallK.eq|apply CallQ.eqs);(· with_reducible first|exact hbw|exact gC _ _);(· first|exact rfl|(simp [RV.flat,D.sc,aa];done));try simp only [go_sem,ap,hx,hm,ar,aX,aa])|(with_reducible refine az mF ae ay (by kernel_rfl) (fun K hK=>?_))|(with_reducible refine aO ae ay (by kernel_rfl) ?_)|apply iB)
  all_goals first
   |(exfalso;omega)
   |exact ⟨k + 1,by omega,by omega,(an [] (by simp [lk,ab,hsn]<;>omega))⟩
 ·rw [←xy hc hi hk (show it.names.length≤k by omega)]
  repeat' (first|((with_reducible first|(apply hK;clear hK K)|refine ah fun U O=>?_|apply ag|(apply Z<;>(intro hc;try simp at hc;try omega)))<;>try simp only [go_sem])|(with_reducible first|apply aj|(apply O;clear O U)|refine kN mF fun K hK=>?_|refine kO fun K hK=>?_|refine aI ?_)|(with_reducible refine az mF ae ay (by kernel_rfl) (fun K hK=>?_))|(with_reducible refine aO ae ay (by kernel_rfl) ?_)|apply iB)
  all_goals first
   |(exfalso;omega)
   |(refine ak rfl rfl (by simp [am,lk]) ?_;rfl)
theorem p8 (c:CodeD) (l:List ItemD) (k:Nat) (g:List Int) (hc:CodeOk c) (hl:ItsOk l) (hk:bX c l) (hlt:k < l.length) (hg:ge g):FnEq Tryz.prog 229 [.agg c.cs,.d (.lst 3 (l.map ItemD.dat)),.d (.int .i64 (k:Int)),.d (.lst 1 (g.map aa))] [.d (.int .i64 (gr c l k g))]:=by
 have h14:=hl.1
 have hx:=List.getElem?_eq_getElem hlt
 generalize l[k] = x at hx
 have hio:=hl.at_ hx
 have hkx:cx c x:=hk k x hx
 have hib:=k9 c l k hc hl hk hlt
 have htr:=jW g 5 (by omega) (by omega) hg.1 hg.2.1 hg.2.2
 have hun:=uX c x hc hio hkx
 have hpb:=nP hc hio hkx hg
 have hcb:=iv hg.1 hg.2.1
 have htb:=iI (A:=5) (by omega) hg.1 hg.2.1 hg.2.2
 have hub:=lU hc hio hkx
 have hro:=gz (cH g * ed c x) (10 * dX g) (by omega) (by omega) (by omega) (by omega)
 have e:=nw (c:=c) (g:=g) hx
 refine aN ae Tryz.func229 rfl rfl ?_;simp only [Tryz.ntmps229,aP,aK,Nat.reduceAdd,Nat.reduceSub,aV]
 generalize d7 c l k = iw at hib e
 generalize hp:cH g * ed c x = p at hpb hro e
 generalize hcn:10 * dX g = q at hro e
 generalize cH g = tr at htr hp htb
 generalize ed c x = un at hun hp hub
 generalize dX g = cw at htr hcb hcn
 by_cases h0:iw = 0
 ·rw [e,if_pos h0]
  repeat' (first|((with_reducible first|(apply hK;clear hK K)|refine ah fun U O=>?_|apply ag|(apply Z<;>(intro hc;try simp at hc;try omega)))<;>try simp only [go_sem,ap,hx,ar,ItemD.dat,hlt,hp,hcn])|(with_reducible first|apply aj|(apply O;clear O U)|refine kN o6 fun K hK=>?_|refine kO fun K hK=>?_|refine aI ?_)|((with_reducible first|apply CallK.eq|apply CallQ.eqs);(· with_reducible first|exact hib|exact htr|exact hun|exact hro);(· first|exact rfl|(simp [RV.flat,D.sc,aa];done));try simp only [go_sem,ap,hx,ar,ItemD.dat,hlt,hp,hcn])|(with_reducible refine az o6 ae ay (by kernel_rfl) (fun K hK=>?_))|(with_reducible refine aO ae ay (by kernel_rfl) ?_)|fail)
  all_goals first
   |(exfalso;omega)
   |(refine ak rfl rfl (by simp [am,lk]) ?_;rfl)
 ·rw [e,if_neg h0]
  repeat' (first|((with_reducible first|(apply hK;clear hK K)|refine ah fun U O=>?_|apply ag|(apply Z<;>(intro hc;try simp at hc;try omega)))<;>try simp only [go_sem,ap,hx,ar,ItemD.dat,hlt,hp,hcn])|(with_reducible first|apply aj|(apply O;clear O U)|refine kN o6 fun K hK=>?_|refine kO fun K hK=>?_|refine aI ?_)|((with_reducible first|apply CallK.eq|apply CallQ.eqs);(· with_reducible first|exact hib|exact htr|exact hun|exact hro);(· first|exact rfl|(simp [RV.flat,D.sc,aa];done));try simp only [go_sem,ap,hx,ar,ItemD.dat,hlt,hp,hcn])|(with_reducible refine az o6 ae ay (by kernel_rfl) (fun K hK=>?_))|(with_reducible refine aO ae ay (by kernel_rfl) ?_)|fail)
  all_goals first
   |(exfalso;omega)
   |(refine ak rfl rfl (by simp [am,lk]) ?_;rfl)
theorem rr (c:CodeD) (l:List ItemD) (k:Nat) (g:List Int) (hc:CodeOk c) (hl:ItsOk l) (hk:bX c l) (hlt:k < l.length) (hg:ge g):FnEq Tryz.prog 240 [.agg c.cs,.d (.lst 3 (l.map ItemD.dat)),.d (.int .i64 (k:Int)),.d (.lst 1 (g.map aa))] [.d (.int .i64 (gr c l k g))]:=by
 have h14:=hl.1
 have hx:=List.getElem?_eq_getElem hlt
 generalize l[k] = x at hx
 have hio:=hl.at_ hx
 have hkx:cx c x:=hk k x hx
 have hib:=oI c l k hc hl hk hlt
 have htr:=oz g 5 (by omega) (by omega) hg.1 hg.2.1 hg.2.2
 have hun:=tV c x hc hio hkx
 have hpb:=nP hc hio hkx hg
 have hcb:=iv hg.1 hg.2.1
 have htb:=iI (A:=5) (by omega) hg.1 hg.2.1 hg.2.2
 have hub:=lU hc hio hkx
 have hro:=ig (cH g * ed c x) (10 * dX g) (by omega) (by omega) (by omega) (by omega)
 have e:=nw (c:=c) (g:=g) hx
 refine aN ae Tryz.func240 rfl rfl ?_;simp only [Tryz.ntmps240,aP,aK,Nat.reduceAdd,Nat.reduceSub,aV]
 generalize d7 c l k = iw at hib e
 generalize hp:cH g * ed c x = p at hpb hro e
 generalize hcn:10 * dX g = q at hro e
 generalize cH g = tr at htr hp htb
 generalize ed c x = un at hun hp hub
 generalize dX g = cw at htr hcb hcn
 by_cases h0:iw = 0
 ·rw [e,if_pos h0]
  repeat' (first|((with_reducible first|(apply hK;clear hK K)|refine ah fun U O=>?_|apply ag|(apply Z<;>(intro hc;try simp at hc;try omega)))<;>try simp only [go_sem,ap,hx,ar,ItemD.dat,hlt,hp,hcn])|(with_reducible first|apply aj|(apply O;clear O U)|refine kN pc fun K hK=>?_|refine kO fun K hK=>?_|refine aI ?_)|((with_reducible first|apply CallK.eq|apply CallQ.eqs);(· with_reducible first|exact hib|exact htr|exact hun|exact hro);(· first|exact rfl|(simp [RV.flat,D.sc,aa];done));try simp only [go_sem,ap,hx,ar,ItemD.dat,hlt,hp,hcn])|(with_reducible refine az pc ae ay (by kernel_rfl) (fun K hK=>?_))|(with_reducible refine aO ae ay (by kernel_rfl) ?_)|fail)
  all_goals first
   |(exfalso;omega)
   |(refine ak rfl rfl (by simp [am,lk]) ?_;rfl)
 ·rw [e,if_neg h0]
  repeat' (first|((with_reducible first|(apply hK;clear hK K)|refine ah fun U O=>?_|apply ag|(apply Z<;>(intro hc;try simp at hc;try omega)))<;>try simp only [go_sem,ap,hx,ar,ItemD.dat,hlt,hp,hcn])|(with_reducible first|apply aj|(apply O;clear O U)|refine kN pc fun K hK=>?_|refine kO fun K hK=>?_|refine aI ?_)|((with_reducible first|apply CallK.eq|apply CallQ.eqs);(· with_reducible first|exact hib|exact htr|exact hun|exact hro);(· first|exact rfl|(simp [RV.flat,D.sc,aa];done));try simp only [go_sem,ap,hx,ar,ItemD.dat,hlt,hp,hcn])|(with_reducible refine az pc ae ay (by kernel_rfl) (fun K hK=>?_))|(with_reducible refine aO ae ay (by kernel_rfl) ?_)|fail)
  all_goals first
   |(exfalso;omega)
   |(refine ak rfl rfl (by simp [am,lk]) ?_;rfl)
end Go.Proofs.YtphakidbddamfaaGreat
