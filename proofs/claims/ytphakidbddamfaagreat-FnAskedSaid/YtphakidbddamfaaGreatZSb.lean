/-
  Scores of items: worths, bases, repeats: the program's functions and the reference's, in the abstract machine.
-/
import Derived.Test.YtphakidbddamfaaGreatZSa
import Derived.Test.YtphakidbddamfaaGreatZCd
set_option linter.unusedSimpArgs false
set_option linter.unusedVariables false
set_option maxHeartbeats 2000000
set_option maxRecDepth 100000
namespace Go.Proofs.YtphakidbddamfaaGreat
open Go.RowKit
theorem qE {c:CodeD} (hc:CodeOk c):c.elements.length≤16777216:=by have:=hc.2.2.2.1;omega
theorem n4 {c:CodeD} (hc:dx c) {x:ElementD} (h1:1≤x.base) (h2:x.base≤2000):0≤x.base * c.keeps∧x.base * c.keeps≤200000:=by
 have h:=hc.2.2.2.2.2.2.2
 have h3:=fY (a:=x.base) (b:=c.keeps) (A:=2000) (B:=100) (by omega) h2 (by omega) h.2.1
 omega
theorem sL (c:CodeD) (x:ElementD) (m:Int) (hc:dx c) (hb1:1≤x.base) (hb2:x.base≤2000):FnEq Tryz.prog 262 [.agg c.cs,.agg [.d (.str x.name),.d (.int .i64 x.family),.d (.int .i64 x.level),.d (.int .i64 x.base)],.d (.int .i64 m)] [.d (.int .i64 (fP c x m))]:=by
 have hm:=n4 hc hb1 hb2
 have hq:=d6 (x.base * c.keeps) 100 200000 (by omega) (by omega)
 have hq2:=d6 (x.base * 9) 10 18000 (by omega) (by omega)
 have e:fP c x m = if m = 1 then (x.base * c.keeps).tdiv 100 else if m = 2 then (x.base * 9).tdiv 10 else if m = 3 then 0 else x.base:=rfl
 refine aO aa Tryz.func262 rfl rfl ?_;simp only [Tryz.ntmps262,aR,aM,Nat.reduceAdd,Nat.reduceSub,aW]
 by_cases h1:m = 1
 ·rw [if_pos h1] at e
  generalize hp:x.base * c.keeps = p at hm hq e
  generalize hq0:p.tdiv 100 = q at hq e
  repeat' (first|((with_reducible first|(refine hK _ ?_;clear hK K)|refine aj fun U O=>?_|apply ah|(apply Z<;>(intro hc;try simp at hc;try omega)))<;>try simp only [go_sem,hp,hq0])|(with_reducible first|apply ag|(refine O _ ?_;clear O U)|refine kN oZ fun K hK=>?_|refine kO fun K hK=>?_|refine aI ?_)|fail)
  all_goals first
   |(exfalso;omega)
   |(refine ak rfl rfl (by simp [am,lk]) ?_;rw [e])
 ·rw [if_neg h1] at e
  by_cases h2:m = 2
  ·rw [if_pos h2] at e
   generalize hp:x.base * 9 = p at hq2 e
   generalize hq0:p.tdiv 10 = q at hq2 e
   repeat' (first|((with_reducible first|(refine hK _ ?_;clear hK K)|refine aj fun U O=>?_|apply ah|(apply Z<;>(intro hc;try simp at hc;try omega)))<;>try simp only [go_sem,hp,hq0])|(with_reducible first|apply ag|(refine O _ ?_;clear O U)|refine kN oZ fun K hK=>?_|refine kO fun K hK=>?_|refine aI ?_)|fail)
   all_goals first
    |(exfalso;omega)
    |(refine ak rfl rfl (by simp [am,lk]) ?_;rw [e])
  ·rw [if_neg h2] at e
   by_cases h3:m = 3
   ·rw [if_pos h3] at e
    repeat' (first|((with_reducible first|(refine hK _ ?_;clear hK K)|refine aj fun U O=>?_|apply ah|(apply Z<;>(intro hc;try simp at hc;try omega)))<;>try simp only [go_sem])|(with_reducible first|apply ag|(refine O _ ?_;clear O U)|refine kN oZ fun K hK=>?_|refine kO fun K hK=>?_|refine aI ?_)|fail)
    all_goals first
     |(exfalso;omega)
     |(refine ak rfl rfl (by simp [am,lk]) ?_;rw [e])
   ·rw [if_neg h3] at e
    repeat' (first|((with_reducible first|(refine hK _ ?_;clear hK K)|refine aj fun U O=>?_|apply ah|(apply Z<;>(intro hc;try simp at hc;try omega)))<;>try simp only [go_sem])|(with_reducible first|apply ag|(refine O _ ?_;clear O U)|refine kN oZ fun K hK=>?_|refine kO fun K hK=>?_|refine aI ?_)|fail)
    all_goals first
     |(exfalso;omega)
     |(refine ak rfl rfl (by simp [am,lk]) ?_;rw [e])
theorem ms (c:CodeD) (nm:ByteArray) (m:Int) (hc:CodeOk c):FnEq Tryz.prog 261 [.agg c.cs,.d (.str nm),.d (.int .i64 m)] [.d (.int .i64 (eX c nm m))]:=by
 have hl:=qE hc
 refine aO aa Tryz.func261 rfl rfl ?_;simp only [Tryz.ntmps261,aR,aM,Nat.reduceAdd,Nat.reduceSub,aW]
 by_cases hf:0≤bL c nm
 ·obtain ⟨x,hx,_⟩:=f_ hf
  have hxl:=(List.getElem?_eq_some_iff.1 hx).1
  obtain ⟨_,_,_,_,_,hb1,hb2,_⟩:=hc.1 _ x hx
  rw [kw hf hx]
  have hm:=n4 hc.2.2 hb1 hb2
  have hq:=d6 (x.base * c.keeps) 100 200000 (by omega) (by omega)
  have hq2:=d6 (x.base * 9) 10 18000 (by omega) (by omega)
  have e:fP c x m = if m = 1 then (x.base * c.keeps).tdiv 100 else if m = 2 then (x.base * 9).tdiv 10 else if m = 3 then 0 else x.base:=rfl
  have hcf:=gz c nm hl
  generalize bL c nm = i at hf hx hcf hxl
  by_cases h1:m = 1
  ·rw [if_pos h1] at e
   generalize hp:x.base * c.keeps = p at hm hq e
   generalize hq0:p.tdiv 100 = q at hq e
   repeat' (first|((with_reducible first|(refine hK _ ?_;clear hK K)|refine aj fun U O=>?_|apply ah|(apply Z<;>(intro hc;try simp at hc;try omega)))<;>try simp only [go_sem,hp,hq0,ap,hx,aq,ElementD.dat,hf,hxl])|(with_reducible first|apply ag|(refine O _ ?_;clear O U)|refine kN mK fun K hK=>?_|refine kO fun K hK=>?_|refine aI ?_)|((with_reducible apply CallK.eq);(· with_reducible first|exact hcf);(· simp [RV.flat,D.sc,ab]);try simp only [go_sem,hp,hq0,ap,hx,aq,ElementD.dat,hf,hxl])|fail)
   all_goals first
    |(exfalso;omega)
    |(refine ak rfl rfl (by simp [am,lk]) ?_;rw [e])
  ·rw [if_neg h1] at e
   by_cases h2:m = 2
   ·rw [if_pos h2] at e
    generalize hp:x.base * 9 = p at hq2 e
    generalize hq0:p.tdiv 10 = q at hq2 e
    repeat' (first|((with_reducible first|(refine hK _ ?_;clear hK K)|refine aj fun U O=>?_|apply ah|(apply Z<;>(intro hc;try simp at hc;try omega)))<;>try simp only [go_sem,hp,hq0,ap,hx,aq,ElementD.dat,hf,hxl])|(with_reducible first|apply ag|(refine O _ ?_;clear O U)|refine kN mK fun K hK=>?_|refine kO fun K hK=>?_|refine aI ?_)|((with_reducible apply CallK.eq);(· with_reducible first|exact hcf);(· simp [RV.flat,D.sc,ab]);try simp only [go_sem,hp,hq0,ap,hx,aq,ElementD.dat,hf,hxl])|fail)
    all_goals first
     |(exfalso;omega)
     |(refine ak rfl rfl (by simp [am,lk]) ?_;rw [e])
   ·rw [if_neg h2] at e
    by_cases h3:m = 3
    ·rw [if_pos h3] at e
     repeat' (first|((with_reducible first|(refine hK _ ?_;clear hK K)|refine aj fun U O=>?_|apply ah|(apply Z<;>(intro hc;try simp at hc;try omega)))<;>try simp only [go_sem,ap,hx,aq,ElementD.dat,hf,hxl])|(with_reducible first|apply ag|(refine O _ ?_;clear O U)|refine kN mK fun K hK=>?_|refine kO fun K hK=>?_|refine aI ?_)|((with_reducible apply CallK.eq);(· with_reducible first|exact hcf);(· simp [RV.flat,D.sc,ab]);try simp only [go_sem,ap,hx,aq,ElementD.dat,hf,hxl])|fail)
     all_goals first
      |(exfalso;omega)
      |(refine ak rfl rfl (by simp [am,lk]) ?_;rw [e])
    ·rw [if_neg h3] at e
     repeat' (first|((with_reducible first|(refine hK _ ?_;clear hK K)|refine aj fun U O=>?_|apply ah|(apply Z<;>(intro hc;try simp at hc;try omega)))<;>try simp only [go_sem,ap,hx,aq,ElementD.dat,hf,hxl])|(with_reducible first|apply ag|(refine O _ ?_;clear O U)|refine kN mK fun K hK=>?_|refine kO fun K hK=>?_|refine aI ?_)|((with_reducible apply CallK.eq);(· with_reducible first|exact hcf);(· simp [RV.flat,D.sc,ab]);try simp only [go_sem,ap,hx,aq,ElementD.dat,hf,hxl])|fail)
     all_goals first
      |(exfalso;omega)
      |(refine ak rfl rfl (by simp [am,lk]) ?_;rw [e])
 ·rw [te (by omega)]
  repeat' (first|((with_reducible first|(refine hK _ ?_;clear hK K)|refine aj fun U O=>?_|apply ah|(apply Z<;>(intro hc;try simp at hc;try omega)))<;>try simp only [go_sem])|(with_reducible first|apply ag|(refine O _ ?_;clear O U)|refine kN mK fun K hK=>?_|refine kO fun K hK=>?_|refine aI ?_)|((with_reducible apply CallK.eq);(· with_reducible first|exact gz c nm hl);(· simp [RV.flat,D.sc,ab]);try simp only [go_sem])|fail)
  all_goals first
   |(exfalso;omega)
   |(refine ak rfl rfl (by simp [am,lk]) ?_;rfl)
theorem tA (c:CodeD) (l:List ItemD) (hl:c.elements.length≤16777216) (hn:l.length≤9223372036854775807) (hs:∀ r ∈ l,ItFit 9223372036854775807 r):FnEq Tryz.prog 209 [.agg c.cs,.d (.lst 3 (l.map ItemD.dat))] [.d (.bool (bP (bU c l)))]:=by
 refine aO aa Tryz.func209 rfl rfl ?_;simp only [Tryz.ntmps209,aR,aM,Nat.reduceAdd,Nat.reduceSub,aW]
 repeat' (first|((with_reducible first|(refine hK _ ?_;clear hK K)|refine aj fun U O=>?_|apply ah|(apply Z<;>(intro hc;try simp at hc;try omega)))<;>try simp only [go_sem])|(with_reducible first|apply ag|(refine O _ ?_;clear O U)|refine kN kT fun K hK=>?_|refine kO fun K hK=>?_|refine aI ?_)|apply iB)
 refine aD [4,6,8,11,12,13,14,15,16,17,18,19,20,21,22,23,24,25,26,27] (fun k:Nat=>[(11,.d (.int .i64 (k:Int)))]) (fun k:Nat=>[(0,.box 42 [.d (.lst 4 (c.elements.map ElementD.dat)),.d (.lst 1 (c.limits.map ab)),.d (.int .i64 c.repeats),.d (.int .i64 c.bonus),.d (.int .i64 c.keeps),.d (.int .i64 c.fall)])]) 1 (fun k:Nat=>k≤l.length∧Upto (fun _ it=>cu c it) l k) (fun k:Nat=>l.length - k) 0 ⟨Nat.zero_le _,Upto.zero _ _⟩ (ao [] (by simp [lk,ae]<;>omega)) ?_
 rintro k ⟨hk,hJ⟩
 simp only [bi,wipe,wl,bh,bw,rm,if_true,if_false,Nat.reduceEqDiff,Bool.false_eq_true,reduceCtorEq]
 by_cases hlt:k < l.length
 ·have hx:=List.getElem?_eq_getElem hlt
  generalize l[k] = x at hx
  obtain ⟨hs1,hs2,_⟩:=hs x (List.mem_of_getElem? hx)
  repeat' (first|((with_reducible first|(refine hK _ ?_;clear hK K)|refine aj fun U O=>?_|apply ah|(apply Z<;>(intro hc;try simp at hc;try omega)))<;>try simp only [go_sem,ap,hx,aq,ItemD.dat])|(with_reducible first|apply ag|(refine O _ ?_;clear O U)|refine kN kT fun K hK=>?_|refine kO fun K hK=>?_|refine aI ?_)|apply iB)
  refine aD [4,8,18,19,20,21,22,23,24,25,26] (fun k:Nat=>[(18,.d (.int .i64 (k:Int))),(6,.und)]) (fun k:Nat=>[(0,.box 42 [.d (.lst 4 (c.elements.map ElementD.dat)),.d (.lst 1 (c.limits.map ab)),.d (.int .i64 c.repeats),.d (.int .i64 c.bonus),.d (.int .i64 c.keeps),.d (.int .i64 c.fall)])]) 1 (fun k:Nat=>k≤x.names.length∧Upto (fun _ nm=>0≤bL c nm) x.names k) (fun k:Nat=>x.names.length - k) 0 ⟨Nat.zero_le _,Upto.zero _ _⟩ (ao [] (by simp [lk,ae]<;>omega)) ?_
  rintro j ⟨hj,hI⟩
  simp only [bi,wipe,wl,bh,bw,rm,if_true,if_false,Nat.reduceEqDiff,Bool.false_eq_true,reduceCtorEq]
  by_cases hlt2:j < x.names.length
  ·have hy:=List.getElem?_eq_getElem hlt2
   generalize x.names[j] = y at hy
   have hcf:=iW c y hl
   by_cases hfi:0≤bL c y
   ·have hI':=hI.succ hy hfi
    generalize bL c y = i at hcf hfi
    repeat' (first|((with_reducible first|(refine hK _ ?_;clear hK K)|refine aj fun U O=>?_|apply ah|(apply Z<;>(intro hc;try simp at hc;try omega)))<;>try simp only [go_sem,ap,hy,aq,aZ,hfi])|(with_reducible first|apply ag|(refine O _ ?_;clear O U)|refine kN kT fun K hK=>?_|refine kO fun K hK=>?_|refine aI ?_)|((with_reducible apply CallK.eq);(· with_reducible first|exact hcf);(· simp [RV.flat,D.sc,ab]);try simp only [go_sem,ap,hy,aq,aZ,hfi])|apply iB)
    all_goals first
     |(exfalso;omega)
     |exact ⟨j + 1,⟨by omega,hI'⟩,by omega,(ao [] (by simp [lk,ae]<;>omega))⟩
   ·have hno:bP (bU c l) = false:=aG fun h=>hfi (h k x hx j y hy)
    generalize bL c y = i at hcf hfi
    repeat' (first|((with_reducible first|(refine hK _ ?_;clear hK K)|refine aj fun U O=>?_|apply ah|(apply Z<;>(intro hc;try simp at hc;try omega)))<;>try simp only [go_sem,ap,hy,aq,aZ])|(with_reducible first|apply ag|(refine O _ ?_;clear O U)|refine kN kT fun K hK=>?_|refine kO fun K hK=>?_|refine aI ?_)|((with_reducible apply CallK.eq);(· with_reducible first|exact hcf);(· simp [RV.flat,D.sc,ab]);try simp only [go_sem,ap,hy,aq,aZ])|apply iB)
    all_goals first
     |(exfalso;omega)
     |(refine ak rfl rfl (by simp [am,lk]) ?_;rw [hno])
  ·have hJ':=hJ.succ hx (show cu c x from hI.all (by omega))
   repeat' (first|((with_reducible first|(refine hK _ ?_;clear hK K)|refine aj fun U O=>?_|apply ah|(apply Z<;>(intro hc;try simp at hc;try omega)))<;>try simp only [go_sem])|(with_reducible first|apply ag|(refine O _ ?_;clear O U)|refine kN kT fun K hK=>?_|refine kO fun K hK=>?_|refine aI ?_)|apply iB)
   all_goals first
    |(exfalso;omega)
    |exact ⟨k + 1,⟨by omega,hJ'⟩,by omega,(ao [] (by simp [lk,ae]<;>omega))⟩
 ·repeat' (first|((with_reducible first|(refine hK _ ?_;clear hK K)|refine aj fun U O=>?_|apply ah|(apply Z<;>(intro hc;try simp at hc;try omega)))<;>try simp only [go_sem])|(with_reducible first|apply ag|(refine O _ ?_;clear O U)|refine kN kT fun K hK=>?_|refine kO fun K hK=>?_|refine aI ?_)|apply iB)
  all_goals first
   |(exfalso;omega)
   |(refine ak rfl rfl (by simp [am,lk]) ?_;rw [aQ (show bU c l from hJ.all (by omega))])
theorem sF (c:CodeD) (l:List ItemD) (hl:c.elements.length≤16777216) (hn:l.length≤9223372036854775807) (hs:∀ r ∈ l,ItFit 9223372036854775807 r):FnEq Tryz.prog 212 [.agg c.cs,.d (.lst 3 (l.map ItemD.dat))] [.d (.bool (bP (bU c l)))]:=by
 refine aO aa Tryz.func212 rfl rfl ?_;simp only [Tryz.ntmps212,aR,aM,Nat.reduceAdd,Nat.reduceSub,aW]
 repeat' (first|((with_reducible first|(refine hK _ ?_;clear hK K)|refine aj fun U O=>?_|apply ah|(apply Z<;>(intro hc;try simp at hc;try omega)))<;>try simp only [go_sem])|(with_reducible first|apply ag|(refine O _ ?_;clear O U)|refine kN kI fun K hK=>?_|refine kO fun K hK=>?_|refine aI ?_)|apply iB)
 refine aD [4,6,8,11,12,13,14,15,16,17,18,19,20,21,22,23,24,25,26,27] (fun k:Nat=>[(11,.d (.int .i64 (k:Int)))]) (fun k:Nat=>[(0,.box 42 [.d (.lst 4 (c.elements.map ElementD.dat)),.d (.lst 1 (c.limits.map ab)),.d (.int .i64 c.repeats),.d (.int .i64 c.bonus),.d (.int .i64 c.keeps),.d (.int .i64 c.fall)])]) 1 (fun k:Nat=>k≤l.length∧Upto (fun _ it=>cu c it) l k) (fun k:Nat=>l.length - k) 0 ⟨Nat.zero_le _,Upto.zero _ _⟩ (ao [] (by simp [lk,ae]<;>omega)) ?_
 rintro k ⟨hk,hJ⟩
 simp only [bi,wipe,wl,bh,bw,rm,if_true,if_false,Nat.reduceEqDiff,Bool.false_eq_true,reduceCtorEq]
 by_cases hlt:k < l.length
 ·have hx:=List.getElem?_eq_getElem hlt
  generalize l[k] = x at hx
  obtain ⟨hs1,hs2,_⟩:=hs x (List.mem_of_getElem? hx)
  repeat' (first|((with_reducible first|(refine hK _ ?_;clear hK K)|refine aj fun U O=>?_|apply ah|(apply Z<;>(intro hc;try simp at hc;try omega)))<;>try simp only [go_sem,ap,hx,aq,ItemD.dat])|(with_reducible first|apply ag|(refine O _ ?_;clear O U)|refine kN kI fun K hK=>?_|refine kO fun K hK=>?_|refine aI ?_)|apply iB)
  refine aD [4,8,18,19,20,21,22,23,24,25,26] (fun k:Nat=>[(18,.d (.int .i64 (k:Int))),(6,.und)]) (fun k:Nat=>[(0,.box 42 [.d (.lst 4 (c.elements.map ElementD.dat)),.d (.lst 1 (c.limits.map ab)),.d (.int .i64 c.repeats),.d (.int .i64 c.bonus),.d (.int .i64 c.keeps),.d (.int .i64 c.fall)])]) 1 (fun k:Nat=>k≤x.names.length∧Upto (fun _ nm=>0≤bL c nm) x.names k) (fun k:Nat=>x.names.length - k) 0 ⟨Nat.zero_le _,Upto.zero _ _⟩ (ao [] (by simp [lk,ae]<;>omega)) ?_
  rintro j ⟨hj,hI⟩
  simp only [bi,wipe,wl,bh,bw,rm,if_true,if_false,Nat.reduceEqDiff,Bool.false_eq_true,reduceCtorEq]
  by_cases hlt2:j < x.names.length
  ·have hy:=List.getElem?_eq_getElem hlt2
   generalize x.names[j] = y at hy
   have hcf:=gz c y hl
   by_cases hfi:0≤bL c y
   ·have hI':=hI.succ hy hfi
    generalize bL c y = i at hcf hfi
    repeat' (first|((with_reducible first|(refine hK _ ?_;clear hK K)|refine aj fun U O=>?_|apply ah|(apply Z<;>(intro hc;try simp at hc;try omega)))<;>try simp only [go_sem,ap,hy,aq,aZ,hfi])|(with_reducible first|apply ag|(refine O _ ?_;clear O U)|refine kN kI fun K hK=>?_|refine kO fun K hK=>?_|refine aI ?_)|((with_reducible apply CallK.eq);(· with_reducible first|exact hcf);(· simp [RV.flat,D.sc,ab]);try simp only [go_sem,ap,hy,aq,aZ,hfi])|apply iB)
    all_goals first
     |(exfalso;omega)
     |exact ⟨j + 1,⟨by omega,hI'⟩,by omega,(ao [] (by simp [lk,ae]<;>omega))⟩
   ·have hno:bP (bU c l) = false:=aG fun h=>hfi (h k x hx j y hy)
    generalize bL c y = i at hcf hfi
    repeat' (first|((with_reducible first|(refine hK _ ?_;clear hK K)|refine aj fun U O=>?_|apply ah|(apply Z<;>(intro hc;try simp at hc;try omega)))<;>try simp only [go_sem,ap,hy,aq,aZ])|(with_reducible first|apply ag|(refine O _ ?_;clear O U)|refine kN kI fun K hK=>?_|refine kO fun K hK=>?_|refine aI ?_)|((with_reducible apply CallK.eq);(· with_reducible first|exact hcf);(· simp [RV.flat,D.sc,ab]);try simp only [go_sem,ap,hy,aq,aZ])|apply iB)
    all_goals first
     |(exfalso;omega)
     |(refine ak rfl rfl (by simp [am,lk]) ?_;rw [hno])
  ·have hJ':=hJ.succ hx (show cu c x from hI.all (by omega))
   repeat' (first|((with_reducible first|(refine hK _ ?_;clear hK K)|refine aj fun U O=>?_|apply ah|(apply Z<;>(intro hc;try simp at hc;try omega)))<;>try simp only [go_sem])|(with_reducible first|apply ag|(refine O _ ?_;clear O U)|refine kN kI fun K hK=>?_|refine kO fun K hK=>?_|refine aI ?_)|apply iB)
   all_goals first
    |(exfalso;omega)
    |exact ⟨k + 1,⟨by omega,hJ'⟩,by omega,(ao [] (by simp [lk,ae]<;>omega))⟩
 ·repeat' (first|((with_reducible first|(refine hK _ ?_;clear hK K)|refine aj fun U O=>?_|apply ah|(apply Z<;>(intro hc;try simp at hc;try omega)))<;>try simp only [go_sem])|(with_reducible first|apply ag|(refine O _ ?_;clear O U)|refine kN kI fun K hK=>?_|refine kO fun K hK=>?_|refine aI ?_)|apply iB)
  all_goals first
   |(exfalso;omega)
   |(refine ak rfl rfl (by simp [am,lk]) ?_;rw [aQ (show bU c l from hJ.all (by omega))])
end Go.Proofs.YtphakidbddamfaaGreat
