/-
  Codes of points: when they are valid; an element found by its name: the program's functions and the reference's, in the abstract machine.
-/
import Derived.Test.YtphakidbddamfaaGreatZCw
import Derived.Test.YtphakidbddamfaaGreatZIk
set_option linter.unusedSimpArgs false
set_option linter.unusedVariables false
set_option maxHeartbeats 2000000
set_option maxRecDepth 100000
namespace Go.Proofs.YtphakidbddamfaaGreat
open Go.RowKit
theorem CodeOk.no_nums {c:CodeD} (h:¬ dx c):bP (CodeOk c) = false:=aG fun h'=>h h'.2.2
theorem CodeOk.no_at {c:CodeD} {k:Nat} {x:ElementD} (hx:c.elements[k]? = some x) (h:¬ ElAt c.elements k x):bP (CodeOk c) = false:=aG fun h'=>h (h'.1 k x hx)
def oc (x:ElementD):Prop:=NameOk x.name∧0≤x.family∧x.family≤4∧0≤x.level∧x.level≤4∧1≤x.base∧x.base≤2000
theorem elAt_iff {l:List ElementD} {k:Nat} {x:ElementD}:ElAt l k x↔oc x∧(0 < k→Op.bytesLess (o5 l k).toList x.name.toList = true):=by
 unfold ElAt oc
 constructor
 ·rintro ⟨h1,h2,h3,h4,h5,h6,h7,h8⟩;exact ⟨⟨h1,h2,h3,h4,h5,h6,h7⟩,h8⟩
 ·rintro ⟨⟨h1,h2,h3,h4,h5,h6,h7⟩,h8⟩;exact ⟨h1,h2,h3,h4,h5,h6,h7,h8⟩
theorem fv (n:Int):FnEq Tryz.prog 208 [.d (.int .i64 n)] [.d (.bool (decide (0≤n) && decide (n≤4)))]:=by
 refine aO aa Tryz.func208 rfl rfl ?_;simp only [Tryz.ntmps208,aR,aM,Nat.reduceAdd,Nat.reduceSub,aW]
 repeat' (first|((with_reducible first|(refine hK _ ?_;clear hK K)|refine aj fun U O=>?_|apply ah|(apply Z<;>(intro hc;try simp at hc;try omega)))<;>try simp only [go_sem])|(with_reducible first|apply ag|(refine O _ ?_;clear O U)|refine kN xM fun K hK=>?_|refine kO fun K hK=>?_|refine aI ?_)|((with_reducible apply CallK.eq);(· with_reducible first|exact bE _ _ _);(· simp [RV.flat,D.sc,ab]);try simp only [go_sem])|fail)
 refine ak rfl rfl (by simp [am,lk]) ?_;rfl
set_option maxHeartbeats 8000000 in
theorem t5 (c:CodeD) (hf:CdFit 9223372036854775807 c):FnEq Tryz.prog 178 [.agg c.cs] [.d (.bool (bP (CodeOk c)))]:=by
 obtain ⟨hf1,hf2,hf3⟩:=hf
 refine aO aa Tryz.func178 rfl rfl ?_;simp only [Tryz.ntmps178,aR,aM,Nat.reduceAdd,Nat.reduceSub,aW]
 by_cases hA:cv 0 9 c.limits
 ·have hAb:=aQ hA
  repeat' (first|((with_reducible first|(refine hK _ ?_;clear hK K)|refine aj fun U O=>?_|apply ah|(apply Z<;>(intro hc;try simp at hc;try omega)))<;>try simp only [go_sem,hAb])|(with_reducible first|apply ag|(refine O _ ?_;clear O U)|refine kN eu fun K hK=>?_|refine kO fun K hK=>?_|refine aI ?_)|(refine xS rfl fun U O=>?_;simp only [go_sem,hAb])|(refine qS rfl fun U O=>?_;simp only [go_sem,hAb])|((with_reducible first|apply CallK.eq|apply CallQ.eqs);(· with_reducible first|exact bE _ _ _|exact dU c.limits 0 9 hf3);(· first|exact rfl|(simp [RV.flat,D.sc,ab];done));try simp only [go_sem,hAb])|(with_reducible refine az eu aa ax (by kernel_rfl) (fun K hK=>?_))|(with_reducible refine aN aa ax (by kernel_rfl) ?_)|apply iB)
  all_goals first
   |(exfalso;omega)
   |(refine ak rfl rfl (by simp [am,lk]) ?_;rw [CodeOk.no_nums (by unfold dx;omega)];done)
   |skip
  refine aD [2,3,4,47,48,49,50,51,52,53,54,55,56,57,58,59,60,61,62,63,64,65,66,67,68,69,70,71,72,73,74,75,76,77,78,79,80,81,82,83,84,85,86,87,88] (fun k:Nat=>[(47,.d (.int .i64 (k:Int)))]) (fun k:Nat=>[(0,.box 42 [.d (.lst 4 (c.elements.map ElementD.dat)),.d (.lst 1 (c.limits.map ab)),.d (.int .i64 c.repeats),.d (.int .i64 c.bonus),.d (.int .i64 c.keeps),.d (.int .i64 c.fall)])]) 1 (fun k:Nat=>k≤c.elements.length∧Upto (ElAt c.elements) c.elements k) (fun k:Nat=>c.elements.length - k) 0 ⟨Nat.zero_le _,Upto.zero _ _⟩ (ao [] (by simp [lk,ae]<;>omega)) ?_
  rintro k ⟨hk,hJ⟩
  simp only [bi,wipe,wl,bh,bw,rm,if_true,if_false,Nat.reduceEqDiff,Bool.false_eq_true,reduceCtorEq]
  by_cases hlt:k < c.elements.length
  ·have hx:=List.getElem?_eq_getElem hlt
   generalize c.elements[k] = x at hx
   have hxs:=hf2 x (List.mem_of_getElem? hx)
   by_cases hO:oc x
   ·have hNb:=aQ hO.1
    have hO2:=hO
    obtain ⟨_,ho1,ho2,ho3,ho4,ho5,ho6⟩:=hO2
    rcases Nat.eq_zero_or_pos k with hk0|hk0
    ·have hE:ElAt c.elements k x:=elAt_iff.2 ⟨hO,fun h=>by omega⟩
     have hJ':=hJ.succ hx hE
     repeat' (first|((with_reducible first|(refine hK _ ?_;clear hK K)|refine aj fun U O=>?_|apply ah|(apply Z<;>(intro hc;try simp at hc;try omega)))<;>try simp only [go_sem,ap,hx,aq,ElementD.dat,hNb])|(with_reducible first|apply ag|(refine O _ ?_;clear O U)|refine kN eu fun K hK=>?_|refine kO fun K hK=>?_|refine aI ?_)|(refine xS rfl fun U O=>?_;simp only [go_sem,ap,hx,aq,ElementD.dat,hNb])|(refine qS rfl fun U O=>?_;simp only [go_sem,ap,hx,aq,ElementD.dat,hNb])|((with_reducible first|apply CallK.eq|apply CallQ.eqs);(· with_reducible first|exact bE _ _ _|exact fv _|exact dv x.name hxs);(· first|exact rfl|(simp [RV.flat,D.sc,ab];done));try simp only [go_sem,ap,hx,aq,ElementD.dat,hNb])|(with_reducible refine az eu aa ax (by kernel_rfl) (fun K hK=>?_))|(with_reducible refine aN aa ax (by kernel_rfl) ?_)|apply iB)
     all_goals first
      |(exfalso;omega)
      |exact ⟨k + 1,⟨by omega,hJ'⟩,by omega,(ao [] (by simp [lk,ae]<;>omega))⟩
    ·have hp:=List.getElem?_eq_getElem (show k - 1 < c.elements.length by omega)
     generalize c.elements[k - 1] = p at hp
     have hkt:((k:Int) - 1).toNat = k - 1:=by omega
     by_cases hb:Op.bytesLess p.name.toList x.name.toList = true
     ·have hE:ElAt c.elements k x:=elAt_iff.2 ⟨hO,fun h=>by rw [jB hp];exact hb⟩
      have hJ':=hJ.succ hx hE
      repeat' (first|((with_reducible first|(refine hK _ ?_;clear hK K)|refine aj fun U O=>?_|apply ah|(apply Z<;>(intro hc;try simp at hc;try omega)))<;>try simp only [go_sem,ap,hx,aq,ElementD.dat,hNb,hp,hkt,hb])|(with_reducible first|apply ag|(refine O _ ?_;clear O U)|refine kN eu fun K hK=>?_|refine kO fun K hK=>?_|refine aI ?_)|(refine xS rfl fun U O=>?_;simp only [go_sem,ap,hx,aq,ElementD.dat,hNb,hp,hkt,hb])|(refine qS rfl fun U O=>?_;simp only [go_sem,ap,hx,aq,ElementD.dat,hNb,hp,hkt,hb])|((with_reducible first|apply CallK.eq|apply CallQ.eqs);(· with_reducible first|exact bE _ _ _|exact fv _|exact dv x.name hxs);(· first|exact rfl|(simp [RV.flat,D.sc,ab];done));try simp only [go_sem,ap,hx,aq,ElementD.dat,hNb,hp,hkt,hb])|(with_reducible refine az eu aa ax (by kernel_rfl) (fun K hK=>?_))|(with_reducible refine aN aa ax (by kernel_rfl) ?_)|apply iB)
      all_goals first
       |(exfalso;omega)
       |exact ⟨k + 1,⟨by omega,hJ'⟩,by omega,(ao [] (by simp [lk,ae]<;>omega))⟩
     ·have hE:¬ ElAt c.elements k x:=fun h=>hb (by have:=(elAt_iff.1 h).2 hk0;rwa [jB hp] at this)
      have hb:Op.bytesLess p.name.toList x.name.toList = false:=by simpa using hb
      repeat' (first|((with_reducible first|(refine hK _ ?_;clear hK K)|refine aj fun U O=>?_|apply ah|(apply Z<;>(intro hc;try simp at hc;try omega)))<;>try simp only [go_sem,ap,hx,aq,ElementD.dat,hNb,hp,hkt,hb])|(with_reducible first|apply ag|(refine O _ ?_;clear O U)|refine kN eu fun K hK=>?_|refine kO fun K hK=>?_|refine aI ?_)|(refine xS rfl fun U O=>?_;simp only [go_sem,ap,hx,aq,ElementD.dat,hNb,hp,hkt,hb])|(refine qS rfl fun U O=>?_;simp only [go_sem,ap,hx,aq,ElementD.dat,hNb,hp,hkt,hb])|((with_reducible first|apply CallK.eq|apply CallQ.eqs);(· with_reducible first|exact bE _ _ _|exact fv _|exact dv x.name hxs);(· first|exact rfl|(simp [RV.flat,D.sc,ab];done));try simp only [go_sem,ap,hx,aq,ElementD.dat,hNb,hp,hkt,hb])|(with_reducible refine az eu aa ax (by kernel_rfl) (fun K hK=>?_))|(with_reducible refine aN aa ax (by kernel_rfl) ?_)|apply iB)
      all_goals first
       |(exfalso;omega)
       |(refine ak rfl rfl (by simp [am,lk]) ?_;rw [CodeOk.no_at hx hE])
   ·have hE:¬ ElAt c.elements k x:=fun h=>hO (elAt_iff.1 h).1
    by_cases hN:NameOk x.name
    ·have hNb:=aQ hN
     have hO':¬ (0≤x.family∧x.family≤4∧0≤x.level∧x.level≤4∧1≤x.base∧x.base≤2000):=fun h=>hO ⟨hN,h⟩
     repeat' (first|((with_reducible first|(refine hK _ ?_;clear hK K)|refine aj fun U O=>?_|apply ah|(apply Z<;>(intro hc;try simp at hc;try omega)))<;>try simp only [go_sem,ap,hx,aq,ElementD.dat,hNb])|(with_reducible first|apply ag|(refine O _ ?_;clear O U)|refine kN eu fun K hK=>?_|refine kO fun K hK=>?_|refine aI ?_)|(refine xS rfl fun U O=>?_;simp only [go_sem,ap,hx,aq,ElementD.dat,hNb])|(refine qS rfl fun U O=>?_;simp only [go_sem,ap,hx,aq,ElementD.dat,hNb])|((with_reducible first|apply CallK.eq|apply CallQ.eqs);(· with_reducible first|exact bE _ _ _|exact fv _|exact dv x.name hxs);(· first|exact rfl|(simp [RV.flat,D.sc,ab];done));try simp only [go_sem,ap,hx,aq,ElementD.dat,hNb])|(with_reducible refine az eu aa ax (by kernel_rfl) (fun K hK=>?_))|(with_reducible refine aN aa ax (by kernel_rfl) ?_)|apply iB)
     all_goals first
      |(exfalso;omega)
      |(refine ak rfl rfl (by simp [am,lk]) ?_;rw [CodeOk.no_at hx hE])
    ·have hNb:=aG hN
     repeat' (first|((with_reducible first|(refine hK _ ?_;clear hK K)|refine aj fun U O=>?_|apply ah|(apply Z<;>(intro hc;try simp at hc;try omega)))<;>try simp only [go_sem,ap,hx,aq,ElementD.dat,hNb])|(with_reducible first|apply ag|(refine O _ ?_;clear O U)|refine kN eu fun K hK=>?_|refine kO fun K hK=>?_|refine aI ?_)|(refine xS rfl fun U O=>?_;simp only [go_sem,ap,hx,aq,ElementD.dat,hNb])|(refine qS rfl fun U O=>?_;simp only [go_sem,ap,hx,aq,ElementD.dat,hNb])|((with_reducible first|apply CallK.eq|apply CallQ.eqs);(· with_reducible first|exact bE _ _ _|exact fv _|exact dv x.name hxs);(· first|exact rfl|(simp [RV.flat,D.sc,ab];done));try simp only [go_sem,ap,hx,aq,ElementD.dat,hNb])|(with_reducible refine az eu aa ax (by kernel_rfl) (fun K hK=>?_))|(with_reducible refine aN aa ax (by kernel_rfl) ?_)|apply iB)
     all_goals first
      |(exfalso;omega)
      |(refine ak rfl rfl (by simp [am,lk]) ?_;rw [CodeOk.no_at hx hE])
  ·repeat' (first|((with_reducible first|(refine hK _ ?_;clear hK K)|refine aj fun U O=>?_|apply ah|(apply Z<;>(intro hc;try simp at hc;try omega)))<;>try simp only [go_sem])|(with_reducible first|apply ag|(refine O _ ?_;clear O U)|refine kN eu fun K hK=>?_|refine kO fun K hK=>?_|refine aI ?_)|(refine xS rfl fun U O=>?_;simp only [go_sem])|(refine qS rfl fun U O=>?_;simp only [go_sem])|(with_reducible refine az eu aa ax (by kernel_rfl) (fun K hK=>?_))|(with_reducible refine aN aa ax (by kernel_rfl) ?_)|apply iB)
   all_goals first
    |(exfalso;omega)
    |(refine ak rfl rfl (by simp [am,lk]) ?_;rw [aQ (show CodeOk c from ⟨hJ.all (by omega),hA,by unfold dx;omega⟩)])
 ·have hAb:=aG hA
  repeat' (first|((with_reducible first|(refine hK _ ?_;clear hK K)|refine aj fun U O=>?_|apply ah|(apply Z<;>(intro hc;try simp at hc;try omega)))<;>try simp only [go_sem,hAb])|(with_reducible first|apply ag|(refine O _ ?_;clear O U)|refine kN eu fun K hK=>?_|refine kO fun K hK=>?_|refine aI ?_)|(refine xS rfl fun U O=>?_;simp only [go_sem,hAb])|(refine qS rfl fun U O=>?_;simp only [go_sem,hAb])|((with_reducible first|apply CallK.eq|apply CallQ.eqs);(· with_reducible first|exact bE _ _ _|exact dU c.limits 0 9 hf3);(· first|exact rfl|(simp [RV.flat,D.sc,ab];done));try simp only [go_sem,hAb])|(with_reducible refine az eu aa ax (by kernel_rfl) (fun K hK=>?_))|(with_reducible refine aN aa ax (by kernel_rfl) ?_)|apply iB)
  all_goals first
   |(exfalso;omega)
   |(refine ak rfl rfl (by simp [am,lk]) ?_;rw [aG fun h:CodeOk c=>hA h.2.1])
theorem fQ (x:ElementD) (hxs:x.name.size≤9223372036854775807):FnEq Tryz.prog 224 [.agg [.d (.str x.name),.d (.int .i64 x.family),.d (.int .i64 x.level),.d (.int .i64 x.base)]] [.d (.bool (bP (oc x)))]:=by
 refine aO aa Tryz.func224 rfl rfl ?_;simp only [Tryz.ntmps224,aR,aM,Nat.reduceAdd,Nat.reduceSub,aW]
 by_cases hN:NameOk x.name
 ·have hNb:=aQ hN
  have e:bP (oc x) = (((decide (0≤x.family) && decide (x.family≤4)) && (decide (0≤x.level) && decide (x.level≤4))) && (decide (1≤x.base) && decide (x.base≤2000))):=by
   rw [Bool.eq_iff_iff,bP_iff];simp only [Bool.and_eq_true,decide_eq_true_eq];unfold oc;constructor
   ·rintro ⟨_,h1,h2,h3,h4,h5,h6⟩;exact ⟨⟨⟨h1,h2⟩,h3,h4⟩,h5,h6⟩
   ·rintro ⟨⟨⟨h1,h2⟩,h3,h4⟩,h5,h6⟩;exact ⟨hN,h1,h2,h3,h4,h5,h6⟩
  repeat' (first|((with_reducible first|(refine hK _ ?_;clear hK K)|refine aj fun U O=>?_|apply ah|(apply Z<;>(intro hc;try simp at hc;try omega)))<;>try simp only [go_sem,hNb])|(with_reducible first|apply ag|(refine O _ ?_;clear O U)|refine kN vW fun K hK=>?_|refine kO fun K hK=>?_|refine aI ?_)|(refine xS rfl fun U O=>?_;simp only [go_sem,hNb])|((with_reducible apply CallK.eq);(· with_reducible first|exact ob x.name hxs|exact cx _ _ _);(· simp [RV.flat,D.sc,ab]);try simp only [go_sem,hNb])|fail)
  all_goals first
   |(exfalso;omega)
   |(refine ak rfl rfl (by simp [am,lk]) ?_;rw [e];first|(simp_all;done)|(simp;omega))
 ·have hNb:=aG hN
  have e:bP (oc x) = false:=aG fun h=>hN h.1
  repeat' (first|((with_reducible first|(refine hK _ ?_;clear hK K)|refine aj fun U O=>?_|apply ah|(apply Z<;>(intro hc;try simp at hc;try omega)))<;>try simp only [go_sem,hNb])|(with_reducible first|apply ag|(refine O _ ?_;clear O U)|refine kN vW fun K hK=>?_|refine kO fun K hK=>?_|refine aI ?_)|(refine xS rfl fun U O=>?_;simp only [go_sem,hNb])|((with_reducible apply CallK.eq);(· with_reducible first|exact ob x.name hxs|exact cx _ _ _);(· simp [RV.flat,D.sc,ab]);try simp only [go_sem,hNb])|fail)
  all_goals first
   |(exfalso;omega)
   |(refine ak rfl rfl (by simp [am,lk]) ?_;rw [e])
set_option maxHeartbeats 8000000 in
theorem oq (c:CodeD) (hf:CdFit 9223372036854775807 c):FnEq Tryz.prog 211 [.agg c.cs] [.d (.bool (bP (CodeOk c)))]:=by
 obtain ⟨hf1,hf2,hf3⟩:=hf
 refine aO aa Tryz.func211 rfl rfl ?_;simp only [Tryz.ntmps211,aR,aM,Nat.reduceAdd,Nat.reduceSub,aW]
 repeat' (first|((with_reducible first|(refine hK _ ?_;clear hK K)|refine aj fun U O=>?_|apply ah|(apply Z<;>(intro hc;try simp at hc;try omega)))<;>try simp only [go_sem])|(with_reducible first|apply ag|(refine O _ ?_;clear O U)|refine kN fi fun K hK=>?_|refine kO fun K hK=>?_|refine aI ?_)|(refine xS rfl fun U O=>?_;simp only [go_sem])|apply iB)
 refine aD [2,3,4,8,9,10,11,12,13,14,15,16,17,18,19,20,21,22,23,24,25,26,27,28,29,30,31,32] (fun k:Nat=>[(8,.d (.int .i64 (k:Int)))]) (fun k:Nat=>[(0,.box 42 [.d (.lst 4 (c.elements.map ElementD.dat)),.d (.lst 1 (c.limits.map ab)),.d (.int .i64 c.repeats),.d (.int .i64 c.bonus),.d (.int .i64 c.keeps),.d (.int .i64 c.fall)])]) 1 (fun k:Nat=>k≤c.elements.length∧Upto (ElAt c.elements) c.elements k) (fun k:Nat=>c.elements.length - k) 0 ⟨Nat.zero_le _,Upto.zero _ _⟩ (ao [] (by simp [lk,ae]<;>omega)) ?_
 rintro k ⟨hk,hJ⟩
 simp only [bi,wipe,wl,bh,bw,rm,if_true,if_false,Nat.reduceEqDiff,Bool.false_eq_true,reduceCtorEq]
 by_cases hlt:k < c.elements.length
 ·have hx:=List.getElem?_eq_getElem hlt
  generalize c.elements[k] = x at hx
  have hxs:=hf2 x (List.mem_of_getElem? hx)
  by_cases hO:oc x
  ·have hOb:=aQ hO
   rcases Nat.eq_zero_or_pos k with hk0|hk0
   ·have hE:ElAt c.elements k x:=elAt_iff.2 ⟨hO,fun h=>by omega⟩
    have hJ':=hJ.succ hx hE
    repeat' (first|((with_reducible first|(refine hK _ ?_;clear hK K)|refine aj fun U O=>?_|apply ah|(apply Z<;>(intro hc;try simp at hc;try omega)))<;>try simp only [go_sem,ap,hx,aq,ElementD.dat,hOb])|(with_reducible first|apply ag|(refine O _ ?_;clear O U)|refine kN fi fun K hK=>?_|refine kO fun K hK=>?_|refine aI ?_)|(refine xS rfl fun U O=>?_;simp only [go_sem,ap,hx,aq,ElementD.dat,hOb])|(refine qS rfl fun U O=>?_;simp only [go_sem,ap,hx,aq,ElementD.dat,hOb])|((with_reducible first|apply CallK.eq|apply CallQ.eqs);(· with_reducible first|exact fQ x hxs);(· first|exact rfl|(simp [RV.flat,D.sc,ab];done));try simp only [go_sem,ap,hx,aq,ElementD.dat,hOb])|(with_reducible refine az fi aa ax (by kernel_rfl) (fun K hK=>?_))|(with_reducible refine aN aa ax (by kernel_rfl) ?_)|apply iB)
    all_goals first
     |(exfalso;omega)
     |exact ⟨k + 1,⟨by omega,hJ'⟩,by omega,(ao [] (by simp [lk,ae]<;>omega))⟩
   ·have hp:=List.getElem?_eq_getElem (show k - 1 < c.elements.length by omega)
    generalize c.elements[k - 1] = p at hp
    have hkt:((k:Int) - 1).toNat = k - 1:=by omega
    by_cases hb:Op.bytesLess p.name.toList x.name.toList = true
    ·have hE:ElAt c.elements k x:=elAt_iff.2 ⟨hO,fun h=>by rw [jB hp];exact hb⟩
     have hJ':=hJ.succ hx hE
     repeat' (first|((with_reducible first|(refine hK _ ?_;clear hK K)|refine aj fun U O=>?_|apply ah|(apply Z<;>(intro hc;try simp at hc;try omega)))<;>try simp only [go_sem,ap,hx,aq,ElementD.dat,hOb,hp,hkt,hb])|(with_reducible first|apply ag|(refine O _ ?_;clear O U)|refine kN fi fun K hK=>?_|refine kO fun K hK=>?_|refine aI ?_)|(refine xS rfl fun U O=>?_;simp only [go_sem,ap,hx,aq,ElementD.dat,hOb,hp,hkt,hb])|(refine qS rfl fun U O=>?_;simp only [go_sem,ap,hx,aq,ElementD.dat,hOb,hp,hkt,hb])|((with_reducible first|apply CallK.eq|apply CallQ.eqs);(· with_reducible first|exact fQ x hxs);(· first|exact rfl|(simp [RV.flat,D.sc,ab];done));try simp only [go_sem,ap,hx,aq,ElementD.dat,hOb,hp,hkt,hb])|(with_reducible refine az fi aa ax (by kernel_rfl) (fun K hK=>?_))|(with_reducible refine aN aa ax (by kernel_rfl) ?_)|apply iB)
     all_goals first
      |(exfalso;omega)
      |exact ⟨k + 1,⟨by omega,hJ'⟩,by omega,(ao [] (by simp [lk,ae]<;>omega))⟩
    ·have hE:¬ ElAt c.elements k x:=fun h=>hb (by have:=(elAt_iff.1 h).2 hk0;rwa [jB hp] at this)
     have hb:Op.bytesLess p.name.toList x.name.toList = false:=by simpa using hb
     repeat' (first|((with_reducible first|(refine hK _ ?_;clear hK K)|refine aj fun U O=>?_|apply ah|(apply Z<;>(intro hc;try simp at hc;try omega)))<;>try simp only [go_sem,ap,hx,aq,ElementD.dat,hOb,hp,hkt,hb])|(with_reducible first|apply ag|(refine O _ ?_;clear O U)|refine kN fi fun K hK=>?_|refine kO fun K hK=>?_|refine aI ?_)|(refine xS rfl fun U O=>?_;simp only [go_sem,ap,hx,aq,ElementD.dat,hOb,hp,hkt,hb])|(refine qS rfl fun U O=>?_;simp only [go_sem,ap,hx,aq,ElementD.dat,hOb,hp,hkt,hb])|((with_reducible first|apply CallK.eq|apply CallQ.eqs);(· with_reducible first|exact fQ x hxs);(· first|exact rfl|(simp [RV.flat,D.sc,ab];done));try simp only [go_sem,ap,hx,aq,ElementD.dat,hOb,hp,hkt,hb])|(with_reducible refine az fi aa ax (by kernel_rfl) (fun K hK=>?_))|(with_reducible refine aN aa ax (by kernel_rfl) ?_)|apply iB)
     all_goals first
      |(exfalso;omega)
      |(refine ak rfl rfl (by simp [am,lk]) ?_;rw [CodeOk.no_at hx hE])
  ·have hOb:=aG hO
   have hE:¬ ElAt c.elements k x:=fun h=>hO (elAt_iff.1 h).1
   repeat' (first|((with_reducible first|(refine hK _ ?_;clear hK K)|refine aj fun U O=>?_|apply ah|(apply Z<;>(intro hc;try simp at hc;try omega)))<;>try simp only [go_sem,ap,hx,aq,ElementD.dat,hOb])|(with_reducible first|apply ag|(refine O _ ?_;clear O U)|refine kN fi fun K hK=>?_|refine kO fun K hK=>?_|refine aI ?_)|(refine xS rfl fun U O=>?_;simp only [go_sem,ap,hx,aq,ElementD.dat,hOb])|(refine qS rfl fun U O=>?_;simp only [go_sem,ap,hx,aq,ElementD.dat,hOb])|((with_reducible first|apply CallK.eq|apply CallQ.eqs);(· with_reducible first|exact fQ x hxs);(· first|exact rfl|(simp [RV.flat,D.sc,ab];done));try simp only [go_sem,ap,hx,aq,ElementD.dat,hOb])|(with_reducible refine az fi aa ax (by kernel_rfl) (fun K hK=>?_))|(with_reducible refine aN aa ax (by kernel_rfl) ?_)|apply iB)
   all_goals first
    |(exfalso;omega)
    |(refine ak rfl rfl (by simp [am,lk]) ?_;rw [CodeOk.no_at hx hE])
 ·have hall:=hJ.all (show c.elements.length≤k by omega)
  by_cases hA:cv 0 9 c.limits
  ·have hAb:=aQ hA
   have e:bP (CodeOk c) = bP (dx c):=by rw [Bool.eq_iff_iff,bP_iff,bP_iff];exact ⟨fun h=>h.2.2,fun h=>⟨hall,hA,h⟩⟩
   have e2:bP (dx c) = (((((((decide (1≤(c.elements.length:Int)) && decide ((c.elements.length:Int)≤24)) && decide ((c.limits.length:Int) = 5)) && (decide (1≤c.repeats) && decide (c.repeats≤3))) && (decide (0≤c.bonus) && decide (c.bonus≤20))) && (decide (50≤c.keeps) && decide (c.keeps≤100))) && (decide (0≤c.fall) && decide (c.fall≤500)))):=by
    rw [Bool.eq_iff_iff,bP_iff];simp only [Bool.and_eq_true,decide_eq_true_eq];unfold dx;omega
   rw [e,e2]
   repeat' (first|((with_reducible first|(refine hK _ ?_;clear hK K)|refine aj fun U O=>?_|apply ah|(apply Z<;>(intro hc;try simp at hc;try omega)))<;>try simp only [go_sem,hAb])|(with_reducible first|apply ag|(refine O _ ?_;clear O U)|refine kN fi fun K hK=>?_|refine kO fun K hK=>?_|refine aI ?_)|(refine xS rfl fun U O=>?_;simp only [go_sem,hAb])|(refine qS rfl fun U O=>?_;simp only [go_sem,hAb])|((with_reducible first|apply CallK.eq|apply CallQ.eqs);(· with_reducible first|exact cx _ _ _|exact eH c.limits 0 9 hf3);(· first|exact rfl|(simp [RV.flat,D.sc,ab];done));try simp only [go_sem,hAb])|(with_reducible refine az fi aa ax (by kernel_rfl) (fun K hK=>?_))|(with_reducible refine aN aa ax (by kernel_rfl) ?_)|apply iB)
   all_goals first
    |(exfalso;omega)
    |(refine ak rfl rfl (by simp [am,lk]) ?_;first|(simp_all;done)|(simp;omega))
  ·have hAb:=aG hA
   have e:bP (CodeOk c) = false:=aG fun h=>hA h.2.1
   rw [e]
   repeat' (first|((with_reducible first|(refine hK _ ?_;clear hK K)|refine aj fun U O=>?_|apply ah|(apply Z<;>(intro hc;try simp at hc;try omega)))<;>try simp only [go_sem,hAb])|(with_reducible first|apply ag|(refine O _ ?_;clear O U)|refine kN fi fun K hK=>?_|refine kO fun K hK=>?_|refine aI ?_)|(refine xS rfl fun U O=>?_;simp only [go_sem,hAb])|(refine qS rfl fun U O=>?_;simp only [go_sem,hAb])|((with_reducible first|apply CallK.eq|apply CallQ.eqs);(· with_reducible first|exact cx _ _ _|exact eH c.limits 0 9 hf3);(· first|exact rfl|(simp [RV.flat,D.sc,ab];done));try simp only [go_sem,hAb])|(with_reducible refine az fi aa ax (by kernel_rfl) (fun K hK=>?_))|(with_reducible refine aN aa ax (by kernel_rfl) ?_)|apply iB)
   all_goals first
    |(exfalso;omega)
    |(refine ak rfl rfl (by simp [am,lk]) ?_;first|rfl|(simp_all;done)|(simp;omega))
theorem tN (xs:List ElementD) (fid:Nat) (caps:List PV) (p:ElementD→Bool) (hn:xs.length≤16777216) (hcap:CapOK caps) (hf:∀ x:ElementD,FnEq Tryz.prog fid (.agg [.d (.str x.name),.d (.int .i64 x.family),.d (.int .i64 x.level),.d (.int .i64 x.base)]::caps) [.d (.bool (p x))]):
  FnEq Tryz.prog 232 [.d (.lst 4 (xs.map ElementD.dat)),.fn fid caps] [.d (.int .i64 (ij p xs 0))]:=by
 refine aO aa Tryz.func232 rfl rfl ?_;simp only [Tryz.ntmps232,aR,aM,Nat.reduceAdd,Nat.reduceSub,aW]
 repeat' (first|((with_reducible first|(refine hK _ ?_;clear hK K)|refine aj fun U O=>?_|apply ah|(apply Z<;>(intro hc;try simp at hc;try omega)))<;>try simp only [go_sem])|(with_reducible first|apply ag|(refine O _ ?_;clear O U)|refine kN tt fun K hK=>?_|refine kO fun K hK=>?_|refine aI ?_)|apply iB)
 refine aD [4,5,8,9,10,11,12,13,14,15,16,17,18] (fun k:Nat=>[(8,.d (.int .i64 (k:Int)))]) (fun k:Nat=>[]) 0 (fun k:Nat=>k≤xs.length∧∀ y ∈ xs.take k,p y = false) (fun k:Nat=>xs.length - k) 0 ⟨Nat.zero_le _,by simp⟩ (ao [] (by simp [lk,ae,hcap.ren,hcap.bd]<;>omega)) ?_
 rintro k ⟨hk,hJ⟩
 simp only [bi,wipe,wl,bh,bw,rm,if_true,if_false,Nat.reduceEqDiff,Bool.false_eq_true,reduceCtorEq]
 by_cases hlt:k < xs.length
 ·have hx:=List.getElem?_eq_getElem hlt
  generalize xs[k] = x at hx
  repeat' (first|((with_reducible first|(refine hK _ ?_;clear hK K)|refine aj fun U O=>?_|apply ah|(apply Z<;>(intro hc;try simp at hc;try omega)))<;>try simp only [go_sem,ap,hx,aq,ElementD.dat,hcap.t2])|(with_reducible first|apply ag|(refine O _ ?_;clear O U)|refine kN tt fun K hK=>?_|refine kO fun K hK=>?_|refine aI ?_)|((with_reducible apply CallK.eq);(· with_reducible first|exact hf x);(· simp [RV.flat,D.sc,ab]);try simp only [go_sem,ap,hx,aq,ElementD.dat,hcap.t2])|apply iB)
  ·refine ak rfl rfl (by simp [am,lk]) ?_;rw [mx (i:=0) hx hc hJ];simp
  ·exact ⟨k + 1,⟨by omega,kh hJ hx hc⟩,by omega,(ao [] (by simp [lk,ae,hcap.ren,hcap.bd]<;>omega))⟩
 ·repeat' (first|((with_reducible first|(refine hK _ ?_;clear hK K)|refine aj fun U O=>?_|apply ah|(apply Z<;>(intro hc;try simp at hc;try omega)))<;>try simp only [go_sem])|(with_reducible first|apply ag|(refine O _ ?_;clear O U)|refine kN tt fun K hK=>?_|refine kO fun K hK=>?_|refine aI ?_)|apply iB)
  refine ak rfl rfl (by simp [am,lk]) ?_;rw [ji (me hJ (by omega))]
theorem mS (x:ElementD) (nm:ByteArray):FnEq Tryz.prog 233 [.agg [.d (.str x.name),.d (.int .i64 x.family),.d (.int .i64 x.level),.d (.int .i64 x.base)],.eptr [.str nm]] [.d (.bool (ly nm x))]:=by
 refine aO aa Tryz.func233 rfl rfl ?_;simp only [Tryz.ntmps233,aR,aM,Nat.reduceAdd,Nat.reduceSub,aW]
 repeat' (first|((with_reducible first|(refine hK _ ?_;clear hK K)|refine aj fun U O=>?_|apply ah|(apply Z<;>(intro hc;try simp at hc;try omega)))<;>try simp only [go_sem])|(with_reducible first|apply ag|(refine O _ ?_;clear O U)|refine kN yr fun K hK=>?_|refine kO fun K hK=>?_|refine aI ?_)|fail)
 refine ak rfl rfl (by simp [am,lk]) ?_;rfl
theorem iW (c:CodeD) (nm:ByteArray) (hn:c.elements.length≤16777216):FnEq Tryz.prog 222 [.agg c.cs,.d (.str nm)] [.d (.int .i64 (bL c nm))]:=by
 refine aO aa Tryz.func222 rfl rfl ?_;simp only [Tryz.ntmps222,aR,aM,Nat.reduceAdd,Nat.reduceSub,aW]
 repeat' (first|((with_reducible first|(refine hK _ ?_;clear hK K)|refine aj fun U O=>?_|apply ah|(apply Z<;>(intro hc;try simp at hc;try omega)))<;>try simp only [go_sem])|(with_reducible first|apply ag|(refine O _ ?_;clear O U)|refine kN xP fun K hK=>?_|refine kO fun K hK=>?_|refine aI ?_)|((with_reducible apply CallK.eq);(· with_reducible first|exact tN c.elements _ _ _ hn (wL _) (fun x=>mS x nm));(· simp [RV.flat,D.sc,ab]);try simp only [go_sem])|fail)
 refine ak rfl rfl (by simp [am,lk]) ?_;rfl
theorem gz (c:CodeD) (nm:ByteArray) (hn:c.elements.length≤16777216):FnEq Tryz.prog 225 [.agg c.cs,.d (.str nm)] [.d (.int .i64 (bL c nm))]:=by
 refine aO aa Tryz.func225 rfl rfl ?_;simp only [Tryz.ntmps225,aR,aM,Nat.reduceAdd,Nat.reduceSub,aW]
 repeat' (first|((with_reducible first|(refine hK _ ?_;clear hK K)|refine aj fun U O=>?_|apply ah|(apply Z<;>(intro hc;try simp at hc;try omega)))<;>try simp only [go_sem])|(with_reducible first|apply ag|(refine O _ ?_;clear O U)|refine kN oT fun K hK=>?_|refine kO fun K hK=>?_|refine aI ?_)|apply iB)
 refine aD [4,5,6,10,11,12,13,14,15,16,17,18,19,20] (fun k:Nat=>[(10,.d (.int .i64 (k:Int)))]) (fun k:Nat=>[(0,.box 42 [.d (.lst 4 (c.elements.map ElementD.dat)),.d (.lst 1 (c.limits.map ab)),.d (.int .i64 c.repeats),.d (.int .i64 c.bonus),.d (.int .i64 c.keeps),.d (.int .i64 c.fall)])]) 1 (fun k:Nat=>k≤c.elements.length∧∀ y ∈ c.elements.take k,ly nm y = false) (fun k:Nat=>c.elements.length - k) 0 ⟨Nat.zero_le _,by simp⟩ (ao [] (by simp [lk,ae]<;>omega)) ?_
 rintro k ⟨hk,hJ⟩
 simp only [bi,wipe,wl,bh,bw,rm,if_true,if_false,Nat.reduceEqDiff,Bool.false_eq_true,reduceCtorEq]
 by_cases hlt:k < c.elements.length
 ·have hx:=List.getElem?_eq_getElem hlt
  generalize c.elements[k] = x at hx
  by_cases hb:x.name = nm
  ·have hp:ly nm x = true:=by simp [ly,hb]
   have hd:decide (x.name = nm) = true:=decide_eq_true hb
   repeat' (first|((with_reducible first|(refine hK _ ?_;clear hK K)|refine aj fun U O=>?_|apply ah|(apply Z<;>(intro hc;try simp at hc;try omega)))<;>try simp only [go_sem,ap,hx,aq,ElementD.dat,hd])|(with_reducible first|apply ag|(refine O _ ?_;clear O U)|refine kN oT fun K hK=>?_|refine kO fun K hK=>?_|refine aI ?_)|apply iB)
   all_goals first
    |(exfalso;omega)
    |(refine ak rfl rfl (by simp [am,lk]) ?_;rw [bL,mx (i:=0) hx hp hJ];simp)
  ·have hp:ly nm x = false:=by simp [ly,hb]
   have hd:decide (x.name = nm) = false:=decide_eq_false hb
   repeat' (first|((with_reducible first|(refine hK _ ?_;clear hK K)|refine aj fun U O=>?_|apply ah|(apply Z<;>(intro hc;try simp at hc;try omega)))<;>try simp only [go_sem,ap,hx,aq,ElementD.dat,hd])|(with_reducible first|apply ag|(refine O _ ?_;clear O U)|refine kN oT fun K hK=>?_|refine kO fun K hK=>?_|refine aI ?_)|apply iB)
   all_goals first
    |(exfalso;omega)
    |exact ⟨k + 1,⟨by omega,kh hJ hx hp⟩,by omega,(ao [] (by simp [lk,ae]<;>omega))⟩
 ·repeat' (first|((with_reducible first|(refine hK _ ?_;clear hK K)|refine aj fun U O=>?_|apply ah|(apply Z<;>(intro hc;try simp at hc;try omega)))<;>try simp only [go_sem])|(with_reducible first|apply ag|(refine O _ ?_;clear O U)|refine kN oT fun K hK=>?_|refine kO fun K hK=>?_|refine aI ?_)|apply iB)
  all_goals first
   |(exfalso;omega)
   |(refine ak rfl rfl (by simp [am,lk]) ?_;rw [bL,ji (me hJ (by omega))])
end Go.Proofs.YtphakidbddamfaaGreat
