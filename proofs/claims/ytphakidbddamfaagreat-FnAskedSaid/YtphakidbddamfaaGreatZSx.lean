/-
  Scores of items: the program's functions and the reference's, in the abstract machine.
-/
import Derived.Test.YtphakidbddamfaaGreatZSs
import Derived.Test.YtphakidbddamfaaGreatZTkg
set_option linter.unusedSimpArgs false
set_option linter.unusedVariables false
set_option maxHeartbeats 2000000
set_option maxRecDepth 100000
namespace Go.Proofs.YtphakidbddamfaaGreat
open Go.RowKit
theorem og {A:Int} {g:List Int} (hA:A≤1000) (h9:g.length≤9) (h0:0≤A) (h:∀ x ∈ g,-A≤x∧x≤A):-9000≤g.sum∧g.sum≤9000:=by
 have h1:=i4 h
 have h2:=fY (a:=A) (b:=(g.length:Int)) (A:=1000) (B:=9) h0 hA (by omega) (by omega)
 omega
theorem jS (g:List Int) (A:Int) (hA:A≤1000) (hA0:0≤A) (h0:0 < g.length) (h9:g.length≤9) (h:∀ x ∈ g,-A≤x∧x≤A):FnEq Tryz.prog 244 [.d (.lst 1 (g.map ab))] [.d (.int .i64 (cG g)),.d (.int .i64 (d5 g))]:=by
 have hs:=og hA h9 hA0 h
 have h1:=kQ h0 h
 have h2:=m_ h0 h
 have hc1:=gF g A (by omega) hA0 h (by omega)
 have hc2:=rE g h0 (by omega)
 have hc3:=wI g h0 (by omega)
 have e1:cG g = if g.length < 5 then g.sum else g.sum - ey g - eL g:=rfl
 have e2:d5 g = if g.length < 5 then (g.length:Int) else (g.length:Int) - 2:=rfl
 rw [e1,e2]
 refine aO aa Tryz.func244 rfl rfl ?_;simp only [Tryz.ntmps244,aR,aM,Nat.reduceAdd,Nat.reduceSub,aW]
 generalize g.sum = s at hs hc1
 generalize ey g = a at h1 hc2
 generalize eL g = b at h2 hc3
 by_cases h5:g.length < 5
 ·rw [if_pos h5,if_pos h5]
  repeat' (first|((with_reducible first|(refine hK _ ?_;clear hK K)|refine aj fun U O=>?_|apply ah|(apply Z<;>(intro hc;try simp at hc;try omega)))<;>try simp only [go_sem])|(with_reducible first|apply ag|(refine O _ ?_;clear O U)|refine kN wk fun K hK=>?_|refine kO fun K hK=>?_|refine aI ?_)|((with_reducible apply CallK.eq);(· with_reducible first|exact hc1|exact hc2|exact hc3);(· simp [RV.flat,D.sc,ab]);try simp only [go_sem])|fail)
  all_goals first
   |(exfalso;omega)
   |(refine ak rfl rfl (by simp [am,lk]) ?_;rfl)
 ·rw [if_neg h5,if_neg h5]
  repeat' (first|((with_reducible first|(refine hK _ ?_;clear hK K)|refine aj fun U O=>?_|apply ah|(apply Z<;>(intro hc;try simp at hc;try omega)))<;>try simp only [go_sem])|(with_reducible first|apply ag|(refine O _ ?_;clear O U)|refine kN wk fun K hK=>?_|refine kO fun K hK=>?_|refine aI ?_)|((with_reducible apply CallK.eq);(· with_reducible first|exact hc1|exact hc2|exact hc3);(· simp [RV.flat,D.sc,ab]);try simp only [go_sem])|fail)
  all_goals first
   |(exfalso;omega)
   |(refine ak rfl rfl (by simp [am,lk]) ?_;rfl)
theorem n5 (g:List Int) (A:Int) (hA:A≤1000) (hA0:0≤A) (h0:0 < g.length) (h9:g.length≤9) (h:∀ x ∈ g,-A≤x∧x≤A):FnEq Tryz.prog 241 [.d (.lst 1 (g.map ab))] [.d (.int .i64 (cG g)),.d (.int .i64 (d5 g))]:=by
 have hs:=og hA h9 hA0 h
 have h1:=kQ h0 h
 have h2:=m_ h0 h
 have hc1:=lJ g A (by omega) hA0 h (by omega)
 have hc2:=rl g (by omega)
 have hs0:=s8 h0
 have hs1:=sG h0
 have hsl:=gw g
 have e1:cG g = if g.length < 5 then g.sum else g.sum - ey g - eL g:=rfl
 have e2:d5 g = if g.length < 5 then (g.length:Int) else (g.length:Int) - 2:=rfl
 rw [e1,e2]
 refine aO aa Tryz.func241 rfl rfl ?_;simp only [Tryz.ntmps241,aR,aM,Nat.reduceAdd,Nat.reduceSub,aW]
 generalize g.sum = s at hs hc1
 generalize ey g = a at h1 hs0
 generalize eL g = b at h2 hs1
 generalize cQ g = q at hc2 hs0 hs1 hsl
 have hkt:((g.length:Int) - 1).toNat = g.length - 1:=by omega
 have hlt:g.length - 1 < g.length:=by omega
 by_cases h5:g.length < 5
 ·rw [if_pos h5,if_pos h5]
  repeat' (first|((with_reducible first|(refine hK _ ?_;clear hK K)|refine aj fun U O=>?_|apply ah|(apply Z<;>(intro hc;try simp at hc;try omega)))<;>try simp only [go_sem])|(with_reducible first|apply ag|(refine O _ ?_;clear O U)|refine kN oP fun K hK=>?_|refine kO fun K hK=>?_|refine aI ?_)|((with_reducible first|apply CallK.eq|apply CallQ.eqs);(· with_reducible first|exact hc1|exact hc2);(· first|exact rfl|(simp [RV.flat,D.sc,ab];done));try simp only [go_sem])|(with_reducible refine az oP aa ax (by kernel_rfl) (fun K hK=>?_))|(with_reducible refine aN aa ax (by kernel_rfl) ?_)|fail)
  all_goals first
   |(exfalso;omega)
   |(refine ak rfl rfl (by simp [am,lk]) ?_;rfl)
 ·rw [if_neg h5,if_neg h5]
  repeat' (first|((with_reducible first|(refine hK _ ?_;clear hK K)|refine aj fun U O=>?_|apply ah|(apply Z<;>(intro hc;try simp at hc;try omega)))<;>try simp only [go_sem,ap,hs0,hs1,aq,ab,hsl,hkt,hlt,h0])|(with_reducible first|apply ag|(refine O _ ?_;clear O U)|refine kN oP fun K hK=>?_|refine kO fun K hK=>?_|refine aI ?_)|((with_reducible first|apply CallK.eq|apply CallQ.eqs);(· with_reducible first|exact hc1|exact hc2);(· first|exact rfl|(simp [RV.flat,D.sc,ab];done));try simp only [go_sem,ap,hs0,hs1,aq,ab,hsl,hkt,hlt,h0])|(with_reducible refine az oP aa ax (by kernel_rfl) (fun K hK=>?_))|(with_reducible refine aN aa ax (by kernel_rfl) ?_)|fail)
  all_goals first
   |(exfalso;omega)
   |(refine ak rfl rfl (by simp [am,lk]) ?_;rfl)
theorem lv (c:CodeD) (l:List ItemD) (k:Nat) (hc:CodeOk c) (hl:ItsOk l) (hk:bU c l) (hlt:k < l.length):FnEq Tryz.prog 228 [.agg c.cs,.d (.lst 3 (l.map ItemD.dat)),.d (.int .i64 (k:Int))] [.d (.int .i64 (d7 c l k))]:=by
 have h14:=hl.1
 have hx:=List.getElem?_eq_getElem hlt
 generalize l[k] = x at hx
 have hio:=hl.at_ hx
 have hkx:cu c x:=hk k x hx
 have hfb:=lM hc hio hkx
 have hfu:=rt c x hc hio hkx
 have hre:=pZ l k hl hlt
 have hrb:=rK l k
 have e:=mc (c:=c) hx
 have hq:=d6 (dm c x * 7) 10 14000000 (by omega) (by omega)
 refine aO aa Tryz.func228 rfl rfl ?_;simp only [Tryz.ntmps228,aR,aM,Nat.reduceAdd,Nat.reduceSub,aW]
 generalize dm c x = fu at hfb hfu hq e
 generalize f8 l k = rp at hre hrb e
 by_cases h1:(rp:Int) < c.repeats
 ·rw [e,if_pos h1]
  repeat' (first|((with_reducible first|(refine hK _ ?_;clear hK K)|refine aj fun U O=>?_|apply ah|(apply Z<;>(intro hc;try simp at hc;try omega)))<;>try simp only [go_sem,ap,hx,aq,ItemD.dat,hlt])|(with_reducible first|apply ag|(refine O _ ?_;clear O U)|refine kN kX fun K hK=>?_|refine kO fun K hK=>?_|refine aI ?_)|((with_reducible first|apply CallK.eq|apply CallQ.eqs);(· with_reducible first|exact hre|exact hfu);(· first|exact rfl|(simp [RV.flat,D.sc,ab];done));try simp only [go_sem,ap,hx,aq,ItemD.dat,hlt])|(with_reducible refine az kX aa ax (by kernel_rfl) (fun K hK=>?_))|(with_reducible refine aN aa ax (by kernel_rfl) ?_)|fail)
  all_goals first
   |(exfalso;omega)
   |(refine ak rfl rfl (by simp [am,lk]) ?_;rfl)
 ·rw [if_neg h1] at e
  by_cases h2:(rp:Int) = c.repeats
  ·rw [e,if_pos h2]
   generalize hp:fu * 7 = p at hq
   generalize hq0:p.tdiv 10 = q at hq
   repeat' (first|((with_reducible first|(refine hK _ ?_;clear hK K)|refine aj fun U O=>?_|apply ah|(apply Z<;>(intro hc;try simp at hc;try omega)))<;>try simp only [go_sem,ap,hx,aq,ItemD.dat,hlt,hp,hq0])|(with_reducible first|apply ag|(refine O _ ?_;clear O U)|refine kN kX fun K hK=>?_|refine kO fun K hK=>?_|refine aI ?_)|((with_reducible first|apply CallK.eq|apply CallQ.eqs);(· with_reducible first|exact hre|exact hfu);(· first|exact rfl|(simp [RV.flat,D.sc,ab];done));try simp only [go_sem,ap,hx,aq,ItemD.dat,hlt,hp,hq0])|(with_reducible refine az kX aa ax (by kernel_rfl) (fun K hK=>?_))|(with_reducible refine aN aa ax (by kernel_rfl) ?_)|fail)
   all_goals first
    |(exfalso;omega)
    |(refine ak rfl rfl (by simp [am,lk]) ?_;rfl)
  ·rw [e,if_neg h2]
   repeat' (first|((with_reducible first|(refine hK _ ?_;clear hK K)|refine aj fun U O=>?_|apply ah|(apply Z<;>(intro hc;try simp at hc;try omega)))<;>try simp only [go_sem,ap,hx,aq,ItemD.dat,hlt])|(with_reducible first|apply ag|(refine O _ ?_;clear O U)|refine kN kX fun K hK=>?_|refine kO fun K hK=>?_|refine aI ?_)|((with_reducible first|apply CallK.eq|apply CallQ.eqs);(· with_reducible first|exact hre|exact hfu);(· first|exact rfl|(simp [RV.flat,D.sc,ab];done));try simp only [go_sem,ap,hx,aq,ItemD.dat,hlt])|(with_reducible refine az kX aa ax (by kernel_rfl) (fun K hK=>?_))|(with_reducible refine aN aa ax (by kernel_rfl) ?_)|fail)
   all_goals first
    |(exfalso;omega)
    |(refine ak rfl rfl (by simp [am,lk]) ?_;rfl)
theorem nQ (c:CodeD) (l:List ItemD) (k:Nat) (hc:CodeOk c) (hl:ItsOk l) (hk:bU c l) (hlt:k < l.length):FnEq Tryz.prog 239 [.agg c.cs,.d (.lst 3 (l.map ItemD.dat)),.d (.int .i64 (k:Int))] [.d (.int .i64 (d7 c l k))]:=by
 have h14:=hl.1
 have hx:=List.getElem?_eq_getElem hlt
 generalize l[k] = x at hx
 have hio:=hl.at_ hx
 have hkx:cu c x:=hk k x hx
 have hfb:=lM hc hio hkx
 have hfu:=tY c x hc hio hkx
 have hre:=pB l k hl hlt
 have hrb:=rK l k
 have e:=mc (c:=c) hx
 have hq:=d6 (dm c x * 7) 10 14000000 (by omega) (by omega)
 refine aO aa Tryz.func239 rfl rfl ?_;simp only [Tryz.ntmps239,aR,aM,Nat.reduceAdd,Nat.reduceSub,aW]
 generalize dm c x = fu at hfb hfu hq e
 generalize f8 l k = rp at hre hrb e
 by_cases h1:(rp:Int) < c.repeats
 ·rw [e,if_pos h1]
  repeat' (first|((with_reducible first|(refine hK _ ?_;clear hK K)|refine aj fun U O=>?_|apply ah|(apply Z<;>(intro hc;try simp at hc;try omega)))<;>try simp only [go_sem,ap,hx,aq,ItemD.dat,hlt])|(with_reducible first|apply ag|(refine O _ ?_;clear O U)|refine kN kY fun K hK=>?_|refine kO fun K hK=>?_|refine aI ?_)|((with_reducible first|apply CallK.eq|apply CallQ.eqs);(· with_reducible first|exact hre|exact hfu);(· first|exact rfl|(simp [RV.flat,D.sc,ab];done));try simp only [go_sem,ap,hx,aq,ItemD.dat,hlt])|(with_reducible refine az kY aa ax (by kernel_rfl) (fun K hK=>?_))|(with_reducible refine aN aa ax (by kernel_rfl) ?_)|fail)
  all_goals first
   |(exfalso;omega)
   |(refine ak rfl rfl (by simp [am,lk]) ?_;rfl)
 ·rw [if_neg h1] at e
  by_cases h2:(rp:Int) = c.repeats
  ·rw [e,if_pos h2]
   generalize hp:fu * 7 = p at hq
   generalize hq0:p.tdiv 10 = q at hq
   repeat' (first|((with_reducible first|(refine hK _ ?_;clear hK K)|refine aj fun U O=>?_|apply ah|(apply Z<;>(intro hc;try simp at hc;try omega)))<;>try simp only [go_sem,ap,hx,aq,ItemD.dat,hlt,hp,hq0])|(with_reducible first|apply ag|(refine O _ ?_;clear O U)|refine kN kY fun K hK=>?_|refine kO fun K hK=>?_|refine aI ?_)|((with_reducible first|apply CallK.eq|apply CallQ.eqs);(· with_reducible first|exact hre|exact hfu);(· first|exact rfl|(simp [RV.flat,D.sc,ab];done));try simp only [go_sem,ap,hx,aq,ItemD.dat,hlt,hp,hq0])|(with_reducible refine az kY aa ax (by kernel_rfl) (fun K hK=>?_))|(with_reducible refine aN aa ax (by kernel_rfl) ?_)|fail)
   all_goals first
    |(exfalso;omega)
    |(refine ak rfl rfl (by simp [am,lk]) ?_;rfl)
  ·rw [e,if_neg h2]
   repeat' (first|((with_reducible first|(refine hK _ ?_;clear hK K)|refine aj fun U O=>?_|apply ah|(apply Z<;>(intro hc;try simp at hc;try omega)))<;>try simp only [go_sem,ap,hx,aq,ItemD.dat,hlt])|(with_reducible first|apply ag|(refine O _ ?_;clear O U)|refine kN kY fun K hK=>?_|refine kO fun K hK=>?_|refine aI ?_)|((with_reducible first|apply CallK.eq|apply CallQ.eqs);(· with_reducible first|exact hre|exact hfu);(· first|exact rfl|(simp [RV.flat,D.sc,ab];done));try simp only [go_sem,ap,hx,aq,ItemD.dat,hlt])|(with_reducible refine az kY aa ax (by kernel_rfl) (fun K hK=>?_))|(with_reducible refine aN aa ax (by kernel_rfl) ?_)|fail)
   all_goals first
    |(exfalso;omega)
    |(refine ak rfl rfl (by simp [am,lk]) ?_;rfl)
theorem t4 (c:CodeD) (it:ItemD) (hc:CodeOk c) (hi:ItOk it) (hk:cu c it):FnEq Tryz.prog 245 [.agg c.cs,.agg [.d (.lst 1 (it.names.map aZ)),.d (.lst 1 (it.marks.map ab)),.d (.bool it.late)]] [.d (.int .i64 (ee c it))]:=by
 have hwl:=dQ (c:=c) hi
 have hi1:=hi.2.1
 have hi2:=hi.2.2.1
 have hmx:=rE (bC c it) (by omega) (by omega)
 have hwo:=nG c it hc hi hk
 refine aO aa Tryz.func245 rfl rfl ?_;simp only [Tryz.ntmps245,aR,aM,Nat.reduceAdd,Nat.reduceSub,aW]
 repeat' (first|((with_reducible first|(refine hK _ ?_;clear hK K)|refine aj fun U O=>?_|apply ah|(apply Z<;>(intro hc;try simp at hc;try omega)))<;>try simp only [go_sem])|(with_reducible first|apply ag|(refine O _ ?_;clear O U)|refine kN xW fun K hK=>?_|refine kO fun K hK=>?_|refine aI ?_)|((with_reducible apply CallK.eq);(· with_reducible first|exact hwo|exact hmx);(· simp [RV.flat,D.sc,ab]);try simp only [go_sem])|fail)
 all_goals first
  |(exfalso;omega)
  |(refine ak rfl rfl (by simp [am,lk]) ?_;rfl)
def uT (c:CodeD) (it:ItemD) (k:Nat):Int:=((bC c it).take k).foldl max 0
theorem wo (c:CodeD) (it:ItemD):uT c it 0 = 0:=rfl
theorem wB {c:CodeD} {it:ItemD} {k:Nat} {x:Int} (hx:(bC c it)[k]? = some x):uT c it (k + 1) = max (uT c it k) x:=by unfold uT;rw [bW hx,List.foldl_append];rfl
theorem xp {c:CodeD} {it:ItemD} (hc:CodeOk c) (hi:ItOk it) (hk:cu c it) {k:Nat} (h:it.names.length≤k):uT c it k = ee c it:=by
 have hwl:=dQ (c:=c) hi
 have hi1:=hi.2.1
 have hb:=fL hc hk
 unfold uT ee ey
 rw [List.take_of_length_le (by omega)]
 cases hw:bC c it with
 |nil=>rw [hw] at hwl;simp at hwl;omega
 |cons a r=>
  have ha:=hb a (by rw [hw];simp)
  simp only [List.foldl_cons,List.drop_succ_cons,List.drop_zero,List.headD_cons]
  congr 1
  omega
theorem um (c:CodeD) (it:ItemD) (hc:CodeOk c) (hi:ItOk it) (hk:cu c it):FnEq Tryz.prog 254 [.agg c.cs,.agg [.d (.lst 1 (it.names.map aZ)),.d (.lst 1 (it.marks.map ab)),.d (.bool it.late)]] [.d (.int .i64 (ee c it))]:=by
 have hwl:=dQ (c:=c) hi
 have hi1:=hi.2.1
 have hi2:=hi.2.2.1
 have hi3:=hi.2.2.2.1
 refine aO aa Tryz.func254 rfl rfl ?_;simp only [Tryz.ntmps254,aR,aM,Nat.reduceAdd,Nat.reduceSub,aW]
 repeat' (first|((with_reducible first|(refine hK _ ?_;clear hK K)|refine aj fun U O=>?_|apply ah|(apply Z<;>(intro hc;try simp at hc;try omega)))<;>try simp only [go_sem])|(with_reducible first|apply ag|(refine O _ ?_;clear O U)|refine kN mZ fun K hK=>?_|refine kO fun K hK=>?_|refine aI ?_)|apply iB)
 refine aD [4,5,6,7,11,12,13,14,15,16,17,18,19,20,21,22,23,24,25,26] (fun k:Nat=>[(11,.d (.int .i64 (k:Int))),(5,.d (.int .i64 (uT c it k)))]) (fun k:Nat=>[(0,.box 42 [.d (.lst 4 (c.elements.map ElementD.dat)),.d (.lst 1 (c.limits.map ab)),.d (.int .i64 c.repeats),.d (.int .i64 c.bonus),.d (.int .i64 c.keeps),.d (.int .i64 c.fall)]),(1,.box 143 [.d (.lst 1 (it.names.map aZ)),.d (.lst 1 (it.marks.map ab)),.d (.bool it.late)])]) 2 (fun k:Nat=>k≤it.names.length) (fun k:Nat=>it.names.length - k) 0 (Nat.zero_le _) (ao [] (by simp [lk,ae,wo]<;>omega)) ?_
 intro k hkl
 simp only [bi,wipe,wl,bh,bw,rm,if_true,if_false,Nat.reduceEqDiff,Bool.false_eq_true,reduceCtorEq]
 by_cases hlt:k < it.names.length
 ·have hx:=List.getElem?_eq_getElem hlt
  generalize it.names[k] = y at hx
  have hm:=List.getElem?_eq_getElem (show k < it.marks.length by omega)
  generalize it.marks[k] = m at hm
  have hg:=iT (c:=c) hx hm
  have hsn:=wB hg
  have hbw:=ms c y m hc
  generalize eX c y m = wv at hsn hbw
  repeat' (first|((with_reducible first|(refine hK _ ?_;clear hK K)|refine aj fun U O=>?_|apply ah|(apply Z<;>(intro hc;try simp at hc;try omega)))<;>try simp only [go_sem,ap,hx,hm,aq,aZ,ab])|(with_reducible first|apply ag|(refine O _ ?_;clear O U)|refine kN mZ fun K hK=>?_|refine kO fun K hK=>?_|refine aI ?_)|((with_reducible first|apply CallK.eq|apply CallQ.eqs);(· with_reducible first|exact hbw|exact ks _ _);(· first|exact rfl|(simp [RV.flat,D.sc,ab];done));try simp only [go_sem,ap,hx,hm,aq,aZ,ab])|(with_reducible refine az mZ aa ax (by kernel_rfl) (fun K hK=>?_))|(with_reducible refine aN aa ax (by kernel_rfl) ?_)|apply iB)
  all_goals first
   |(exfalso;omega)
   |exact ⟨k + 1,by omega,by omega,(ao [] (by simp [lk,ae,hsn]<;>omega))⟩
 ·rw [←xp hc hi hk (show it.names.length≤k by omega)]
  repeat' (first|((with_reducible first|(refine hK _ ?_;clear hK K)|refine aj fun U O=>?_|apply ah|(apply Z<;>(intro hc;try simp at hc;try omega)))<;>try simp only [go_sem])|(with_reducible first|apply ag|(refine O _ ?_;clear O U)|refine kN mZ fun K hK=>?_|refine kO fun K hK=>?_|refine aI ?_)|(with_reducible refine az mZ aa ax (by kernel_rfl) (fun K hK=>?_))|(with_reducible refine aN aa ax (by kernel_rfl) ?_)|apply iB)
  all_goals first
   |(exfalso;omega)
   |(refine ak rfl rfl (by simp [am,lk]) ?_;rfl)
theorem pq (c:CodeD) (l:List ItemD) (k:Nat) (g:List Int) (hc:CodeOk c) (hl:ItsOk l) (hk:bU c l) (hlt:k < l.length) (hg:kt g):FnEq Tryz.prog 229 [.agg c.cs,.d (.lst 3 (l.map ItemD.dat)),.d (.int .i64 (k:Int)),.d (.lst 1 (g.map ab))] [.d (.int .i64 (f5 c l k g))]:=by
 have h14:=hl.1
 have hx:=List.getElem?_eq_getElem hlt
 generalize l[k] = x at hx
 have hio:=hl.at_ hx
 have hkx:cu c x:=hk k x hx
 have hib:=lv c l k hc hl hk hlt
 have htr:=jS g 5 (by omega) (by omega) hg.1 hg.2.1 hg.2.2
 have hun:=t4 c x hc hio hkx
 have hpb:=nl hc hio hkx hg
 have hcb:=gW hg.1 hg.2.1
 have htb:=g_ (A:=5) (by omega) hg.1 hg.2.1 hg.2.2
 have hub:=lE hc hio hkx
 have hro:=gp (cG g * ee c x) (10 * d5 g) (by omega) (by omega) (by omega) (by omega)
 have e:=no (c:=c) (g:=g) hx
 refine aO aa Tryz.func229 rfl rfl ?_;simp only [Tryz.ntmps229,aR,aM,Nat.reduceAdd,Nat.reduceSub,aW]
 generalize d7 c l k = iw at hib e
 generalize hp:cG g * ee c x = p at hpb hro e
 generalize hcn:10 * d5 g = q at hro e
 generalize cG g = tr at htr hp htb
 generalize ee c x = un at hun hp hub
 generalize d5 g = cw at htr hcb hcn
 by_cases h0:iw = 0
 ·rw [e,if_pos h0]
  repeat' (first|((with_reducible first|(refine hK _ ?_;clear hK K)|refine aj fun U O=>?_|apply ah|(apply Z<;>(intro hc;try simp at hc;try omega)))<;>try simp only [go_sem,ap,hx,aq,ItemD.dat,hlt,hp,hcn])|(with_reducible first|apply ag|(refine O _ ?_;clear O U)|refine kN o9 fun K hK=>?_|refine kO fun K hK=>?_|refine aI ?_)|((with_reducible first|apply CallK.eq|apply CallQ.eqs);(· with_reducible first|exact hib|exact htr|exact hun|exact hro);(· first|exact rfl|(simp [RV.flat,D.sc,ab];done));try simp only [go_sem,ap,hx,aq,ItemD.dat,hlt,hp,hcn])|(with_reducible refine az o9 aa ax (by kernel_rfl) (fun K hK=>?_))|(with_reducible refine aN aa ax (by kernel_rfl) ?_)|fail)
  all_goals first
   |(exfalso;omega)
   |(refine ak rfl rfl (by simp [am,lk]) ?_;rfl)
 ·rw [e,if_neg h0]
  repeat' (first|((with_reducible first|(refine hK _ ?_;clear hK K)|refine aj fun U O=>?_|apply ah|(apply Z<;>(intro hc;try simp at hc;try omega)))<;>try simp only [go_sem,ap,hx,aq,ItemD.dat,hlt,hp,hcn])|(with_reducible first|apply ag|(refine O _ ?_;clear O U)|refine kN o9 fun K hK=>?_|refine kO fun K hK=>?_|refine aI ?_)|((with_reducible first|apply CallK.eq|apply CallQ.eqs);(· with_reducible first|exact hib|exact htr|exact hun|exact hro);(· first|exact rfl|(simp [RV.flat,D.sc,ab];done));try simp only [go_sem,ap,hx,aq,ItemD.dat,hlt,hp,hcn])|(with_reducible refine az o9 aa ax (by kernel_rfl) (fun K hK=>?_))|(with_reducible refine aN aa ax (by kernel_rfl) ?_)|fail)
  all_goals first
   |(exfalso;omega)
   |(refine ak rfl rfl (by simp [am,lk]) ?_;rfl)
theorem rn (c:CodeD) (l:List ItemD) (k:Nat) (g:List Int) (hc:CodeOk c) (hl:ItsOk l) (hk:bU c l) (hlt:k < l.length) (hg:kt g):FnEq Tryz.prog 240 [.agg c.cs,.d (.lst 3 (l.map ItemD.dat)),.d (.int .i64 (k:Int)),.d (.lst 1 (g.map ab))] [.d (.int .i64 (f5 c l k g))]:=by
 have h14:=hl.1
 have hx:=List.getElem?_eq_getElem hlt
 generalize l[k] = x at hx
 have hio:=hl.at_ hx
 have hkx:cu c x:=hk k x hx
 have hib:=nQ c l k hc hl hk hlt
 have htr:=n5 g 5 (by omega) (by omega) hg.1 hg.2.1 hg.2.2
 have hun:=um c x hc hio hkx
 have hpb:=nl hc hio hkx hg
 have hcb:=gW hg.1 hg.2.1
 have htb:=g_ (A:=5) (by omega) hg.1 hg.2.1 hg.2.2
 have hub:=lE hc hio hkx
 have hro:=gT (cG g * ee c x) (10 * d5 g) (by omega) (by omega) (by omega) (by omega)
 have e:=no (c:=c) (g:=g) hx
 refine aO aa Tryz.func240 rfl rfl ?_;simp only [Tryz.ntmps240,aR,aM,Nat.reduceAdd,Nat.reduceSub,aW]
 generalize d7 c l k = iw at hib e
 generalize hp:cG g * ee c x = p at hpb hro e
 generalize hcn:10 * d5 g = q at hro e
 generalize cG g = tr at htr hp htb
 generalize ee c x = un at hun hp hub
 generalize d5 g = cw at htr hcb hcn
 by_cases h0:iw = 0
 ·rw [e,if_pos h0]
  repeat' (first|((with_reducible first|(refine hK _ ?_;clear hK K)|refine aj fun U O=>?_|apply ah|(apply Z<;>(intro hc;try simp at hc;try omega)))<;>try simp only [go_sem,ap,hx,aq,ItemD.dat,hlt,hp,hcn])|(with_reducible first|apply ag|(refine O _ ?_;clear O U)|refine kN oW fun K hK=>?_|refine kO fun K hK=>?_|refine aI ?_)|((with_reducible first|apply CallK.eq|apply CallQ.eqs);(· with_reducible first|exact hib|exact htr|exact hun|exact hro);(· first|exact rfl|(simp [RV.flat,D.sc,ab];done));try simp only [go_sem,ap,hx,aq,ItemD.dat,hlt,hp,hcn])|(with_reducible refine az oW aa ax (by kernel_rfl) (fun K hK=>?_))|(with_reducible refine aN aa ax (by kernel_rfl) ?_)|fail)
  all_goals first
   |(exfalso;omega)
   |(refine ak rfl rfl (by simp [am,lk]) ?_;rfl)
 ·rw [e,if_neg h0]
  repeat' (first|((with_reducible first|(refine hK _ ?_;clear hK K)|refine aj fun U O=>?_|apply ah|(apply Z<;>(intro hc;try simp at hc;try omega)))<;>try simp only [go_sem,ap,hx,aq,ItemD.dat,hlt,hp,hcn])|(with_reducible first|apply ag|(refine O _ ?_;clear O U)|refine kN oW fun K hK=>?_|refine kO fun K hK=>?_|refine aI ?_)|((with_reducible first|apply CallK.eq|apply CallQ.eqs);(· with_reducible first|exact hib|exact htr|exact hun|exact hro);(· first|exact rfl|(simp [RV.flat,D.sc,ab];done));try simp only [go_sem,ap,hx,aq,ItemD.dat,hlt,hp,hcn])|(with_reducible refine az oW aa ax (by kernel_rfl) (fun K hK=>?_))|(with_reducible refine aN aa ax (by kernel_rfl) ?_)|fail)
  all_goals first
   |(exfalso;omega)
   |(refine ak rfl rfl (by simp [am,lk]) ?_;rfl)
end Go.Proofs.YtphakidbddamfaaGreat
