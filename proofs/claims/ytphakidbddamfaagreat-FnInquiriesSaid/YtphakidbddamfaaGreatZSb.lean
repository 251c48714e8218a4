/-
  Scores of items: worths, bases, repeats: the program's functions and the reference's, in the abstract machine.
-/
import Derived.Test.YtphakidbddamfaaGreatZSa
import Derived.Test.YtphakidbddamfaaGreatZCd
set_option linter.unusedSimpArgs false
set_option linter.unusedVariables false
set_option maxHeartbeats 2000000
set_option maxRecDepth 100000
namespace Go.Proofs.YtphakidbddamfaaGreat
open Go.RowKit
theorem pG {c:CodeD} (hc:CodeOk c):c.elements.length≤16777216:=by have:=hc.2.2.2.1;omega
theorem n6 {c:CodeD} (hc:dz c) {x:ElementD} (h1:1≤x.base) (h2:x.base≤2000):0≤x.base * c.keeps∧x.base * c.keeps≤200000:=by
 have h:=hc.2.2.2.2.2.2.2
 have h3:=fN (a:=x.base) (b:=c.keeps) (A:=2000) (B:=100) (by omega) h2 (by omega) h.2.1
 omega
theorem so (c:CodeD) (x:ElementD) (m:Int) (hc:dz c) (hb1:1≤x.base) (hb2:x.base≤2000):FnEq Tryz.prog 262 [.agg c.cs,.agg [.d (.str x.name),.d (.int .i64 x.family),.d (.int .i64 x.level),.d (.int .i64 x.base)],.d (.int .i64 m)] [.d (.int .i64 (fU c x m))]:=by
 have hm:=n6 hc hb1 hb2
 have hq:=dZ (x.base * c.keeps) 100 200000 (by omega) (by omega)
 have hq2:=dZ (x.base * 9) 10 18000 (by omega) (by omega)
 have e:fU c x m = if m = 1 then (x.base * c.keeps).tdiv 100 else if m = 2 then (x.base * 9).tdiv 10 else if m = 3 then 0 else x.base:=rfl
 refine aN ae Tryz.func262 rfl rfl ?_;simp only [Tryz.ntmps262,aP,aK,Nat.reduceAdd,Nat.reduceSub,aV]
 by_cases h1:m = 1
 ·rw [if_pos h1] at e
  generalize hp:x.base * c.keeps = p at hm hq e
  generalize hq0:p.tdiv 100 = q at hq e
  repeat' (first|((with_reducible first|(apply hK;clear hK K)|refine ah fun U O=>?_|apply ag|(apply Z<;>(intro hc;try simp at hc;try omega)))<;>try simp only [go_sem,hp,hq0])|(with_reducible first|apply aj|(apply O;clear O U)|refine kN o_ fun K hK=>?_|refine kO fun K hK=>?_|refine aI ?_)|fail)
  all_goals first
   |(exfalso;omega)
   |(refine ak rfl rfl (by simp [am,lk]) ?_;rw [e])
 ·rw [if_neg h1] at e
  by_cases h2:m = 2
  ·rw [if_pos h2] at e
   generalize hp:x.base * 9 = p at hq2 e
   generalize hq0:p.tdiv 10 = q at hq2 e
   repeat' (first|((with_reducible first|(apply hK;clear hK K)|refine ah fun U O=>?_|apply ag|(apply Z<;>(intro hc;try simp at hc;try omega)))<;>try simp only [go_sem,hp,hq0])|(with_reducible first|apply aj|(apply O;clear O U)|refine kN o_ fun K hK=>?_|refine kO fun K hK=>?_|refine aI ?_)|fail)
   all_goals first
    |(exfalso;omega)
    |(refine ak rfl rfl (by simp [am,lk]) ?_;rw [e])
  ·rw [if_neg h2] at e
   by_cases h3:m = 3
   ·rw [if_pos h3] at e
    repeat' (first|((with_reducible first|(apply hK;clear hK K)|refine ah fun U O=>?_|apply ag|(apply Z<;>(intro hc;try simp at hc;try omega)))<;>try simp only [go_sem])|(with_reducible first|apply aj|(apply O;clear O U)|refine kN o_ fun K hK=>?_|refine kO fun K hK=>?_|refine aI ?_)|fail)
    all_goals first
     |(exfalso;omega)
     |(refine ak rfl rfl (by simp [am,lk]) ?_;rw [e])
   ·rw [if_neg h3] at e
    repeat' (first|((with_reducible first|(apply hK;clear hK K)|refine ah fun U O=>?_|apply ag|(apply Z<;>(intro hc;try simp at hc;try omega)))<;>try simp only [go_sem])|(with_reducible first|apply aj|(apply O;clear O U)|refine kN o_ fun K hK=>?_|refine kO fun K hK=>?_|refine aI ?_)|fail)
    all_goals first
     |(exfalso;omega)
     |(refine ak rfl rfl (by simp [am,lk]) ?_;rw [e])
theorem m4 (c:CodeD) (nm:ByteArray) (m:Int) (hc:CodeOk c):FnEq Tryz.prog 261 [.agg c.cs,.d (.str nm),.d (.int .i64 m)] [.d (.int .i64 (eX c nm m))]:=by
 have hl:=pG hc
 refine aN ae Tryz.func261 rfl rfl ?_;simp only [Tryz.ntmps261,aP,aK,Nat.reduceAdd,Nat.reduceSub,aV]
 by_cases hf:0≤bS c nm
 ·obtain ⟨x,hx,_⟩:=gh hf
  have hxl:=(List.getElem?_eq_some_iff.1 hx).1
  obtain ⟨_,_,_,_,_,hb1,hb2,_⟩:=hc.1 _ x hx
  rw [kA hf hx]
  have hm:=n6 hc.2.2 hb1 hb2
  have hq:=dZ (x.base * c.keeps) 100 200000 (by omega) (by omega)
  have hq2:=dZ (x.base * 9) 10 18000 (by omega) (by omega)
  have e:fU c x m = if m = 1 then (x.base * c.keeps).tdiv 100 else if m = 2 then (x.base * 9).tdiv 10 else if m = 3 then 0 else x.base:=rfl
  have hcf:=gQ c nm hl
  generalize bS c nm = i at hf hx hcf hxl
  by_cases h1:m = 1
  ·rw [if_pos h1] at e
   generalize hp:x.base * c.keeps = p at hm hq e
   generalize hq0:p.tdiv 100 = q at hq e
   repeat' (first|((with_reducible first|(apply hK;clear hK K)|refine ah fun U O=>?_|apply ag|(apply Z<;>(intro hc;try simp at hc;try omega)))<;>try simp only [go_sem,hp,hq0,ap,hx,ar,ElementD.dat,hf,hxl])|(with_reducible first|apply aj|(apply O;clear O U)|refine kN mn fun K hK=>?_|refine kO fun K hK=>?_|refine aI ?_)|((with_reducible apply CallK.eq);(· with_reducible first|exact hcf);(· simp [RV.flat,D.sc,aa]);try simp only [go_sem,hp,hq0,ap,hx,ar,ElementD.dat,hf,hxl])|fail)
   all_goals first
    |(exfalso;omega)
    |(refine ak rfl rfl (by simp [am,lk]) ?_;rw [e])
  ·rw [if_neg h1] at e
   by_cases h2:m = 2
   ·rw [if_pos h2] at e
    generalize hp:x.base * 9 = p at hq2 e
    generalize hq0:p.tdiv 10 = q at hq2 e
    repeat' (first|((with_reducible first|(apply hK;clear hK K)|refine ah fun U O=>?_|apply ag|(apply Z<;>(intro hc;try simp at hc;try omega)))<;>try simp only [go_sem,hp,hq0,ap,hx,ar,ElementD.dat,hf,hxl])|(with_reducible first|apply aj|(apply O;clear O U)|refine kN mn fun K hK=>?_|refine kO fun K hK=>?_|refine aI ?_)|((with_reducible apply CallK.eq);(· with_reducible first|exact hcf);(· simp [RV.flat,D.sc,aa]);try simp only [go_sem,hp,hq0,ap,hx,ar,ElementD.dat,hf,hxl])|fail)
    all_goals first
     |(exfalso;omega)
     |(refine ak rfl rfl (by simp [am,lk]) ?_;rw [e])
   ·rw [if_neg h2] at e
    by_cases h3:m = 3
    ·rw [if_pos h3] at e
     repeat' (first|((with_reducible first|(apply hK;clear hK K)|refine ah fun U O=>?_|apply ag|(apply Z<;>(intro hc;try simp at hc;try omega)))<;>try simp only [go_sem,ap,hx,ar,ElementD.dat,hf,hxl])|(with_reducible first|apply aj|(apply O;clear O U)|refine kN mn fun K hK=>?_|refine kO fun K hK=>?_|refine aI ?_)|((with_reducible apply CallK.eq);(· with_reducible first|exact hcf);(· simp [RV.flat,D.sc,aa]);try simp only [go_sem,ap,hx,ar,ElementD.dat,hf,hxl])|fail)
     all_goals first
      |(exfalso;omega)
      |(refine ak rfl rfl (by simp [am,lk]) ?_;rw [e])
    ·rw [if_neg h3] at e
     repeat' (first|((with_reducible first|(apply hK;clear hK K)|refine ah fun U O=>?_|apply ag|(apply Z<;>(intro hc;try simp at hc;try omega)))<;>try simp only [go_sem,ap,hx,ar,ElementD.dat,hf,hxl])|(with_reducible first|apply aj|(apply O;clear O U)|refine kN mn fun K hK=>?_|refine kO fun K hK=>?_|refine aI ?_)|((with_reducible apply CallK.eq);(· with_reducible first|exact hcf);(· simp [RV.flat,D.sc,aa]);try simp only [go_sem,ap,hx,ar,ElementD.dat,hf,hxl])|fail)
     all_goals first
      |(exfalso;omega)
      |(refine ak rfl rfl (by simp [am,lk]) ?_;rw [e])
 ·rw [sJ (by omega)]
  repeat' (first|((with_reducible first|(apply hK;clear hK K)|refine ah fun U O=>?_|apply ag|(apply Z<;>(intro hc;try simp at hc;try omega)))<;>try simp only [go_sem])|(with_reducible first|apply aj|(apply O;clear O U)|refine kN mn fun K hK=>?_|refine kO fun K hK=>?_|refine aI ?_)|((with_reducible apply CallK.eq);(· with_reducible first|exact gQ c nm hl);(· simp [RV.flat,D.sc,aa]);try simp only [go_sem])|fail)
  all_goals first
   |(exfalso;omega)
   |(refine ak rfl rfl (by simp [am,lk]) ?_;rfl)
theorem tU (c:CodeD) (l:List ItemD) (hl:c.elements.length≤16777216) (hn:l.length≤9223372036854775807) (hs:∀ r ∈ l,ItFit 9223372036854775807 r):FnEq Tryz.prog 209 [.agg c.cs,.d (.lst 3 (l.map ItemD.dat))] [.d (.bool (bP (bX c l)))]:=by
 refine aN ae Tryz.func209 rfl rfl ?_;simp only [Tryz.ntmps209,aP,aK,Nat.reduceAdd,Nat.reduceSub,aV]
 repeat' (first|((with_reducible first|(apply hK;clear hK K)|refine ah fun U O=>?_|apply ag|(apply Z<;>(intro hc;try simp at hc;try omega)))<;>try simp only [go_sem])|(with_reducible first|apply aj|(apply O;clear O U)|refine kN kS fun K hK=>?_|refine kO fun K hK=>?_|refine aI ?_)|apply iB)
 refine aA [4,6,8,11,12,13,14,15,16,17,18,19,20,21,22,23,24,25,26,27] (fun k:Nat=>[(11,.d (.int .i64 (k:Int)))]) (fun k:Nat=>[(0,.box 42 [.d (.lst 4 (c.elements.map ElementD.dat)),.d (.lst 1 (c.limits.map aa)),.d (.int .i64 c.repeats),.d (.int .i64 c.bonus),.d (.int .i64 c.keeps),.d (.int .i64 c.fall)])]) 1 (fun k:Nat=>k≤l.length∧Upto (fun _ it=>cx c it) l k) (fun k:Nat=>l.length - k) 0 ⟨Nat.zero_le _,Upto.zero _ _⟩ (an [] (by simp [lk,ab]<;>omega)) ?_
 rintro k ⟨hk,hJ⟩
 simp only [bc,wipe,wl,bb,bx,rm,if_true,if_false,Nat.reduceEqDiff,Bool.false_eq_true,reduceCtorEq]
 by_cases hlt:k < l.length
 ·have hx:=List.getElem?_eq_getElem hlt
  generalize l[k] = x at hx
  obtain ⟨hs1,hs2,_⟩:=hs x (List.mem_of_getElem? hx)
  repeat' (first|((with_reducible first|(apply hK;clear hK K)|refine ah fun U O=>?_|apply ag|(apply Z<;>(intro hc;try simp at hc;try omega)))<;>try simp only [go_sem,ap,hx,ar,ItemD.dat])|(with_reducible first|apply aj|(apply O;clear O U)|refine kN kS fun K hK=>?_|refine kO fun K hK=>?_|refine aI ?_)|apply iB)
  refine aA [4,8,18,19,20,21,22,23,24,25,26] (fun k:Nat=>[(18,.d (.int .i64 (k:Int))),(6,.und)]) (fun k:Nat=>[(0,.box 42 [.d (.lst 4 (c.elements.map ElementD.dat)),.d (.lst 1 (c.limits.map aa)),.d (.int .i64 c.repeats),.d (.int .i64 c.bonus),.d (.int .i64 c.keeps),.d (.int .i64 c.fall)])]) 1 (fun k:Nat=>k≤x.names.length∧Upto (fun _ nm=>0≤bS c nm) x.names k) (fun k:Nat=>x.names.length - k) 0 ⟨Nat.zero_le _,Upto.zero _ _⟩ (an [] (by simp [lk,ab]<;>omega)) ?_
  rintro j ⟨hj,hI⟩
  simp only [bc,wipe,wl,bb,bx,rm,if_true,if_false,Nat.reduceEqDiff,Bool.false_eq_true,reduceCtorEq]
  by_cases hlt2:j < x.names.length
  ·have hy:=List.getElem?_eq_getElem hlt2
   generalize x.names[j] = y at hy
   have hcf:=jp c y hl
   by_cases hfi:0≤bS c y
   ·have hI':=hI.succ hy hfi
    generalize bS c y = i at hcf hfi
    repeat' (first|((with_reducible first|(apply hK;clear hK K)|refine ah fun U O=>?_|apply ag|(apply Z<;>(intro hc;try simp at hc;try omega)))<;>try simp only [go_sem,ap,hy,ar,aX,hfi])|(with_reducible first|apply aj|(apply O;clear O U)|refine kN kS fun K hK=>?_|refine kO fun K hK=>?_|refine aI ?_)|((with_reducible apply CallK.eq);(· with_reducible first|exact hcf);(· simp [RV.flat,D.sc,aa]);try simp only [go_sem,ap,hy,ar,aX,hfi])|apply iB)
    all_goals first
     |(exfalso;omega)
     |exact ⟨j + 1,⟨by omega,hI'⟩,by omega,(an [] (by simp [lk,ab]<;>omega))⟩
   ·have hno:bP (bX c l) = false:=aL fun h=>hfi (h k x hx j y hy)
    generalize bS c y = i at hcf hfi
    repeat' (first|((with_reducible first|(apply hK;clear hK K)|refine ah fun U O=>?_|apply ag|(apply Z<;>(intro hc;try simp at hc;try omega)))<;>try simp only [go_sem,ap,hy,ar,aX])|(with_reducible first|apply aj|(apply O;clear O U)|refine kN kS fun K hK=>?_|refine kO fun K hK=>?_|refine aI ?_)|((with_reducible apply CallK.eq);(· with_reducible first|exact hcf);(· simp [RV.flat,D.sc,aa]);try simp only [go_sem,ap,hy,ar,aX])|apply iB)
    all_goals first
     |(exfalso;omega)
     |(refine ak rfl rfl (by simp [am,lk]) ?_;rw [hno])
  ·have hJ':=hJ.succ hx (show cx c x from hI.all (by omega))
   repeat' (first|((with_reducible first|(apply hK;clear hK K)|refine ah fun U O=>?_|apply ag|(apply Z<;>(intro hc;try simp at hc;try omega)))<;>try simp only [go_sem])|(with_reducible first|apply aj|(apply O;clear O U)|refine kN kS fun K hK=>?_|refine kO fun K hK=>?_|refine aI ?_)|apply iB)
   all_goals first
    |(exfalso;omega)
    |exact ⟨k + 1,⟨by omega,hJ'⟩,by omega,(an [] (by simp [lk,ab]<;>omega))⟩
 ·repeat' (first|((with_reducible first|(apply hK;clear hK K)|refine ah fun U O=>?_|apply ag|(apply Z<;>(intro hc;try simp at hc;try omega)))<;>try simp only [go_sem])|(with_reducible first|apply aj|(apply O;clear O U)|refine kN kS fun K hK=>?_|refine kO fun K hK=>?_|refine aI ?_)|apply iB)
  all_goals first
   |(exfalso;omega)
   |(refine ak rfl rfl (by simp [am,lk]) ?_;rw [aW (show bX c l from hJ.all (by omega))])
theorem tc (c:CodeD) (l:List ItemD) (hl:c.elements.length≤16777216) (hn:l.length≤9223372036854775807) (hs:∀ r ∈ l,ItFit 9223372036854775807 r):FnEq Tryz.prog 212 [.agg c.cs,.d (.lst 3 (l.map ItemD.dat))] [.d (.bool (bP (bX c l)))]:=by
 refine aN ae Tryz.func212 rfl rfl ?_;simp only [Tryz.ntmps212,aP,aK,Nat.reduceAdd,Nat.reduceSub,aV]
 repeat' (first|((with_reducible first|(apply hK;clear hK K)|refine ah fun U O=>?_|apply ag|(apply Z<;>(intro hc;try simp at hc;try omega)))<;>try simp only [go_sem])|(with_reducible first|apply aj|(apply O;clear O U)|refine kN kE fun K hK=>?_|refine kO fun K hK=>?_|refine aI ?_)|apply iB)
 refine aA [4,6,8,11,12,13,14,15,16,17,18,19,20,21,22,23,24,25,26,27] (fun k:Nat=>[(11,.d (.int .i64 (k:Int)))]) (fun k:Nat=>[(0,.box 42 [.d (.lst 4 (c.elements.map ElementD.dat)),.d (.lst 1 (c.limits.map aa)),.d (.int .i64 c.repeats),.d (.int .i64 c.bonus),.d (.int .i64 c.keeps),.d (.int .i64 c.fall)])]) 1 (fun k:Nat=>k≤l.length∧Upto (fun _ it=>cx c it) l k) (fun k:Nat=>l.length - k) 0 ⟨Nat.zero_le _,Upto.zero _ _⟩ (an [] (by simp [lk,ab]<;>omega)) ?_
 rintro k ⟨hk,hJ⟩
 simp only [bc,wipe,wl,bb,bx,rm,if_true,if_false,Nat.reduceEqDiff,Bool.false_eq_true,reduceCtorEq]
 by_cases hlt:k < l.length
 ·have hx:=List.getElem?_eq_getElem hlt
  generalize l[k] = x at hx
  obtain ⟨hs1,hs2,_⟩:=hs x (List.mem_of_getElem? hx)
  repeat' (first|((with_reducible first|(apply hK;clear hK K)|refine ah fun U O=>?_|apply ag|(apply Z<;>(intro hc;try simp at hc;try omega)))<;>try simp only [go_sem,ap,hx,ar,ItemD.dat])|(with_reducible first|apply aj|(apply O;clear O U)|refine kN kE fun K hK=>?_|refine kO fun K hK=>?_|refine aI ?_)|apply iB)
  refine aA [4,8,18,19,20,21,22,23,24,25,26] (fun k:Nat=>[(18,.d (.int .i64 (k:Int))),(6,.und)]) (fun k:Nat=>[(0,.box 42 [.d (.lst 4 (c.elements.map ElementD.dat)),.d (.lst 1 (c.limits.map aa)),.d (.int .i64 c.repeats),.d (.int .i64 c.bonus),.d (.int .i64 c.keeps),.d (.int .i64 c.fall)])]) 1 (fun k:Nat=>k≤x.names.length∧Upto (fun _ nm=>0≤bS c nm) x.names k) (fun k:Nat=>x.names.length - k) 0 ⟨Nat.zero_le _,Upto.zero _ _⟩ (an [] (by simp [lk,ab]<;>omega)) ?_
  rintro j ⟨hj,hI⟩
  simp only [bc,wipe,wl,bb,bx,rm,if_true,if_false,Nat.reduceEqDiff,Bool.false_eq_true,reduceCtorEq]
  by_cases hlt2:j < x.names.length
  ·have hy:=List.getElem?_eq_getElem hlt2
   generalize x.names[j] = y at hy
   have hcf:=gQ c y hl
   by_cases hfi:0≤bS c y
   ·have hI':=hI.succ hy hfi
    generalize bS c y = i at hcf hfi
    repeat' (first|((with_reducible first|(apply hK;clear hK K)|refine ah fun U O=>?_|apply ag|(apply Z<;>(intro hc;try simp at hc;try omega)))<;>try simp only [go_sem,ap,hy,ar,aX,hfi])|(with_reducible first|apply aj|(apply O;clear O U)|refine kN kE fun K hK=>?_|refine kO fun K hK=>?_|refine aI ?_)|((with_reducible apply CallK.eq);(· with_reducible first|exact hcf);(· simp [RV.flat,D.sc,aa]);try simp only [go_sem,ap,hy,ar,aX,hfi])|apply iB)
    all_goals first
     |(exfalso;omega)
     |exact ⟨j + 1,⟨by omega,hI'⟩,by omega,(an [] (by simp [lk,ab]<;>omega))⟩
   ·have hno:bP (bX c l) = false:=aL fun h=>hfi (h k x hx j y hy)
    generalize bS c y = i at hcf hfi
    repeat' (first|((with_reducible first|(apply hK;clear hK K)|refine ah fun U O=>?_|apply ag|(apply Z<;>(intro hc;try simp at hc;try omega)))<;>try simp only [go_sem,ap,hy,ar,aX])|(with_reducible first|apply aj|(apply O;clear O U)|refine kN kE fun K hK=>?_|refine kO fun K hK=>?_|refine aI ?_)|((with_reducible apply CallK.eq);(· with_reducible first|exact hcf);(· simp [RV.flat,D.sc,aa]);try simp only [go_sem,ap,hy,ar,aX])|apply iB)
    all_goals first
     |(exfalso;omega)
     |(refine ak rfl rfl (by simp [am,lk]) ?_;rw [hno])
  ·have hJ':=hJ.succ hx (show cx c x from hI.all (by omega))
   repeat' (first|((with_reducible first|(apply hK;clear hK K)|refine ah fun U O=>?_|apply ag|(apply Z<;>(intro hc;try simp at hc;try omega)))<;>try simp only [go_sem])|(with_reducible first|apply aj|(apply O;clear O U)|refine kN kE fun K hK=>?_|refine kO fun K hK=>?_|refine aI ?_)|apply iB)
   all_goals first
    |(exfalso;omega)
    |exact ⟨k + 1,⟨by omega,hJ'⟩,by omega,(an [] (by simp [lk,ab]<;>omega))⟩
 ·repeat' (first|((with_reducible first|(apply hK;clear hK K)|refine ah fun U O=>?_|apply ag|(apply Z<;>(intro hc;try simp at hc;try omega)))<;>try simp only [go_sem])|(with_reducible first|apply aj|(apply O;clear O U)|refine kN kE fun K hK=>?_|refine kO fun K hK=>?_|refine aI ?_)|apply iB)
  all_goals first
   |(exfalso;omega)
   |(refine ak rfl rfl (by simp [am,lk]) ?_;rw [aW (show bX c l from hJ.all (by omega))])
end Go.Proofs.YtphakidbddamfaaGreat
