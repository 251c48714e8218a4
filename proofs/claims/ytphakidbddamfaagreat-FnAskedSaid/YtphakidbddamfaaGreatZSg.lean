/-
  Segment scores: the program's functions and the reference's, in the abstract machine.
-/
import Derived.Test.YtphakidbddamfaaGreatZSy
import Derived.Test.YtphakidbddamfaaGreatZSz
import Derived.Test.YtphakidbddamfaaGreatZSv
set_option linter.unusedSimpArgs false
set_option linter.unusedVariables false
set_option maxHeartbeats 2000000
set_option maxRecDepth 100000
namespace Go.Proofs.YtphakidbddamfaaGreat
open Go.RowKit
def fh (c:CodeD) (l:List ItemD) (m:MarksD):Prop:=CodeOk c∧ItsOk l∧bU c l∧eJ m (l.length:Nat)
theorem perf_iff {c:CodeD} {p:PerfD}:cB c p↔fh c p.items p.marks∧ew p.slips:=by
 unfold cB fh eJ
 constructor
 ·rintro ⟨h1,h2,h3,h4,h5,h6⟩;exact ⟨⟨h1,h2,h3,h4,by omega⟩,h6⟩
 ·rintro ⟨⟨h1,h2,h3,h4,h5⟩,h6⟩;exact ⟨h1,h2,h3,h4,by omega,h6⟩
theorem uQ (c:CodeD) (l:List ItemD) (m:MarksD) (hcf:CdFit 1048576 c) (hn:l.length≤1048576) (hs:∀ r ∈ l,ItFit 1048576 r) (hmf:MkFit 1048576 m):FnEq Tryz.prog 179 [.agg c.cs,.d (.lst 3 (l.map ItemD.dat)),.agg m.cs] [.d (.bool (bP (bU c l∧eJ m (l.length:Nat))))]:=by
 have hcf63:CdFit 9223372036854775807 c:=hcf.mono (by decide)
 have hs63:∀ r ∈ l,ItFit 9223372036854775807 r:=fun r hr=>(hs r hr).mono (by decide)
 have hn63:l.length≤9223372036854775807:=by omega
 have hel:c.elements.length≤16777216:=by have:=hcf.1;omega
 have hc0:=tA c l hel hn63 hs63
 have hc1:=qW m (l.length:Nat) hmf
 refine aO aa Tryz.func179 rfl rfl ?_;simp only [Tryz.ntmps179,aR,aM,Nat.reduceAdd,Nat.reduceSub,aW]
 by_cases h0:bU c l
 ·rw [aQ h0] at hc0
  by_cases h1:eJ m (l.length:Nat)
  ·rw [aQ h1] at hc1
   rw [aQ (show bU c l∧eJ m (l.length:Nat) from ⟨h0,h1⟩)]
   repeat' (first|((with_reducible first|(refine hK _ ?_;clear hK K)|refine aj fun U O=>?_|apply ah|(apply Z<;>(intro hc;try simp at hc;try omega)))<;>try simp only [go_sem])|(with_reducible first|apply ag|(refine O _ ?_;clear O U)|refine kN sk fun K hK=>?_|refine kO fun K hK=>?_|refine aI ?_)|(refine xS rfl fun U O=>?_;simp only [go_sem])|((with_reducible apply CallK.eq);(· with_reducible first|exact hc0|exact hc1);(· simp [RV.flat,D.sc,ab]);try simp only [go_sem])|fail)
   all_goals first
    |(exfalso;omega)
    |(refine ak rfl rfl (by simp [am,lk]) ?_;first|rfl|(simp;done)|(simp_all;done))
  ·rw [aG h1] at hc1
   rw [aG (show ¬ (bU c l∧eJ m (l.length:Nat)) from fun h=>h1 h.2)]
   repeat' (first|((with_reducible first|(refine hK _ ?_;clear hK K)|refine aj fun U O=>?_|apply ah|(apply Z<;>(intro hc;try simp at hc;try omega)))<;>try simp only [go_sem])|(with_reducible first|apply ag|(refine O _ ?_;clear O U)|refine kN sk fun K hK=>?_|refine kO fun K hK=>?_|refine aI ?_)|(refine xS rfl fun U O=>?_;simp only [go_sem])|((with_reducible apply CallK.eq);(· with_reducible first|exact hc0|exact hc1);(· simp [RV.flat,D.sc,ab]);try simp only [go_sem])|fail)
   all_goals first
    |(exfalso;omega)
    |(refine ak rfl rfl (by simp [am,lk]) ?_;first|rfl|(simp;done)|(simp_all;done))
 ·rw [aG h0] at hc0
  rw [aG (show ¬ (bU c l∧eJ m (l.length:Nat)) from fun h=>h0 h.1)]
  repeat' (first|((with_reducible first|(refine hK _ ?_;clear hK K)|refine aj fun U O=>?_|apply ah|(apply Z<;>(intro hc;try simp at hc;try omega)))<;>try simp only [go_sem])|(with_reducible first|apply ag|(refine O _ ?_;clear O U)|refine kN sk fun K hK=>?_|refine kO fun K hK=>?_|refine aI ?_)|(refine xS rfl fun U O=>?_;simp only [go_sem])|((with_reducible apply CallK.eq);(· with_reducible first|exact hc0|exact hc1);(· simp [RV.flat,D.sc,ab]);try simp only [go_sem])|fail)
  all_goals first
   |(exfalso;omega)
   |(refine ak rfl rfl (by simp [am,lk]) ?_;first|rfl|(simp;done)|(simp_all;done))
theorem p6 (c:CodeD) (l:List ItemD) (m:MarksD) (hcf:CdFit 1048576 c) (hn:l.length≤1048576) (hs:∀ r ∈ l,ItFit 1048576 r) (hmf:MkFit 1048576 m):FnEq Tryz.prog 142 [.agg c.cs,.d (.lst 3 (l.map ItemD.dat)),.agg m.cs] [.d (.bool (bP (fh c l m)))]:=by
 have hcf63:CdFit 9223372036854775807 c:=hcf.mono (by decide)
 have hs63:∀ r ∈ l,ItFit 9223372036854775807 r:=fun r hr=>(hs r hr).mono (by decide)
 have hn63:l.length≤9223372036854775807:=by omega
 have hel:c.elements.length≤16777216:=by have:=hcf.1;omega
 have hc0:=t5 c hcf63
 have hc1:=cV l hn63 hs63
 have hc2:=uQ c l m hcf hn hs hmf
 refine aO aa Tryz.func142 rfl rfl ?_;simp only [Tryz.ntmps142,aR,aM,Nat.reduceAdd,Nat.reduceSub,aW]
 by_cases h0:CodeOk c
 ·rw [aQ h0] at hc0
  by_cases h1:ItsOk l
  ·rw [aQ h1] at hc1
   by_cases h2:bU c l∧eJ m (l.length:Nat)
   ·rw [aQ h2] at hc2
    rw [aQ (show fh c l m from ⟨h0,h1,h2.1,h2.2⟩)]
    repeat' (first|((with_reducible first|(refine hK _ ?_;clear hK K)|refine aj fun U O=>?_|apply ah|(apply Z<;>(intro hc;try simp at hc;try omega)))<;>try simp only [go_sem])|(with_reducible first|apply ag|(refine O _ ?_;clear O U)|refine kN oO fun K hK=>?_|refine kO fun K hK=>?_|refine aI ?_)|(refine xS rfl fun U O=>?_;simp only [go_sem])|((with_reducible apply CallK.eq);(· with_reducible first|exact hc0|exact hc1|exact hc2);(· simp [RV.flat,D.sc,ab]);try simp only [go_sem])|fail)
    all_goals first
     |(exfalso;omega)
     |(refine ak rfl rfl (by simp [am,lk]) ?_;first|rfl|(simp;done)|(simp_all;done))
   ·rw [aG h2] at hc2
    rw [aG (show ¬ (fh c l m) from fun h=>h2 ⟨h.2.2.1,h.2.2.2⟩)]
    repeat' (first|((with_reducible first|(refine hK _ ?_;clear hK K)|refine aj fun U O=>?_|apply ah|(apply Z<;>(intro hc;try simp at hc;try omega)))<;>try simp only [go_sem])|(with_reducible first|apply ag|(refine O _ ?_;clear O U)|refine kN oO fun K hK=>?_|refine kO fun K hK=>?_|refine aI ?_)|(refine xS rfl fun U O=>?_;simp only [go_sem])|((with_reducible apply CallK.eq);(· with_reducible first|exact hc0|exact hc1|exact hc2);(· simp [RV.flat,D.sc,ab]);try simp only [go_sem])|fail)
    all_goals first
     |(exfalso;omega)
     |(refine ak rfl rfl (by simp [am,lk]) ?_;first|rfl|(simp;done)|(simp_all;done))
  ·rw [aG h1] at hc1
   rw [aG (show ¬ (fh c l m) from fun h=>h1 h.2.1)]
   repeat' (first|((with_reducible first|(refine hK _ ?_;clear hK K)|refine aj fun U O=>?_|apply ah|(apply Z<;>(intro hc;try simp at hc;try omega)))<;>try simp only [go_sem])|(with_reducible first|apply ag|(refine O _ ?_;clear O U)|refine kN oO fun K hK=>?_|refine kO fun K hK=>?_|refine aI ?_)|(refine xS rfl fun U O=>?_;simp only [go_sem])|((with_reducible apply CallK.eq);(· with_reducible first|exact hc0|exact hc1|exact hc2);(· simp [RV.flat,D.sc,ab]);try simp only [go_sem])|fail)
   all_goals first
    |(exfalso;omega)
    |(refine ak rfl rfl (by simp [am,lk]) ?_;first|rfl|(simp;done)|(simp_all;done))
 ·rw [aG h0] at hc0
  rw [aG (show ¬ (fh c l m) from fun h=>h0 h.1)]
  repeat' (first|((with_reducible first|(refine hK _ ?_;clear hK K)|refine aj fun U O=>?_|apply ah|(apply Z<;>(intro hc;try simp at hc;try omega)))<;>try simp only [go_sem])|(with_reducible first|apply ag|(refine O _ ?_;clear O U)|refine kN oO fun K hK=>?_|refine kO fun K hK=>?_|refine aI ?_)|(refine xS rfl fun U O=>?_;simp only [go_sem])|((with_reducible apply CallK.eq);(· with_reducible first|exact hc0|exact hc1|exact hc2);(· simp [RV.flat,D.sc,ab]);try simp only [go_sem])|fail)
  all_goals first
   |(exfalso;omega)
   |(refine ak rfl rfl (by simp [am,lk]) ?_;first|rfl|(simp;done)|(simp_all;done))
theorem ip (c:CodeD) (p:PerfD) (hcf:CdFit 1048576 c) (hpf:PfFit 1048576 p):FnEq Tryz.prog 98 [.agg c.cs,.agg p.cs] [.d (.bool (bP (cB c p)))]:=by
 obtain ⟨⟨hn,hs⟩,hmf⟩:=hpf
 have hc0:=p6 c p.items p.marks hcf hn hs hmf
 have hc1:=qY p.slips
 refine aO aa Tryz.func98 rfl rfl ?_;simp only [Tryz.ntmps98,aR,aM,Nat.reduceAdd,Nat.reduceSub,aW]
 by_cases h0:fh c p.items p.marks
 ·rw [aQ h0] at hc0
  by_cases h1:ew p.slips
  ·rw [aQ h1] at hc1
   rw [aQ (show cB c p from perf_iff.2 ⟨h0,h1⟩)]
   repeat' (first|((with_reducible first|(refine hK _ ?_;clear hK K)|refine aj fun U O=>?_|apply ah|(apply Z<;>(intro hc;try simp at hc;try omega)))<;>try simp only [go_sem])|(with_reducible first|apply ag|(refine O _ ?_;clear O U)|refine kN u6 fun K hK=>?_|refine kO fun K hK=>?_|refine aI ?_)|(refine xS rfl fun U O=>?_;simp only [go_sem])|((with_reducible apply CallK.eq);(· with_reducible first|exact hc0|exact hc1);(· simp [RV.flat,D.sc,ab]);try simp only [go_sem])|fail)
   all_goals first
    |(exfalso;omega)
    |(refine ak rfl rfl (by simp [am,lk]) ?_;first|rfl|(simp;done)|(simp_all;done))
  ·rw [aG h1] at hc1
   rw [aG (show ¬ (cB c p) from fun h=>h1 (perf_iff.1 h).2)]
   repeat' (first|((with_reducible first|(refine hK _ ?_;clear hK K)|refine aj fun U O=>?_|apply ah|(apply Z<;>(intro hc;try simp at hc;try omega)))<;>try simp only [go_sem])|(with_reducible first|apply ag|(refine O _ ?_;clear O U)|refine kN u6 fun K hK=>?_|refine kO fun K hK=>?_|refine aI ?_)|(refine xS rfl fun U O=>?_;simp only [go_sem])|((with_reducible apply CallK.eq);(· with_reducible first|exact hc0|exact hc1);(· simp [RV.flat,D.sc,ab]);try simp only [go_sem])|fail)
   all_goals first
    |(exfalso;omega)
    |(refine ak rfl rfl (by simp [am,lk]) ?_;first|rfl|(simp;done)|(simp_all;done))
 ·rw [aG h0] at hc0
  rw [aG (show ¬ (cB c p) from fun h=>h0 (perf_iff.1 h).1)]
  repeat' (first|((with_reducible first|(refine hK _ ?_;clear hK K)|refine aj fun U O=>?_|apply ah|(apply Z<;>(intro hc;try simp at hc;try omega)))<;>try simp only [go_sem])|(with_reducible first|apply ag|(refine O _ ?_;clear O U)|refine kN u6 fun K hK=>?_|refine kO fun K hK=>?_|refine aI ?_)|(refine xS rfl fun U O=>?_;simp only [go_sem])|((with_reducible apply CallK.eq);(· with_reducible first|exact hc0|exact hc1);(· simp [RV.flat,D.sc,ab]);try simp only [go_sem])|fail)
  all_goals first
   |(exfalso;omega)
   |(refine ak rfl rfl (by simp [am,lk]) ?_;first|rfl|(simp;done)|(simp_all;done))
theorem q_ (f:Int):FnEq Tryz.prog 126 [.d (.int .i64 f)] [.d (.bool (bP (ez f)))]:=by
 have e:bP (ez f) = (decide (10≤f) && decide (f≤400)):=by rw [Bool.eq_iff_iff,bP_iff];simp [ez]
 rw [e]
 refine aO aa Tryz.func126 rfl rfl ?_;simp only [Tryz.ntmps126,aR,aM,Nat.reduceAdd,Nat.reduceSub,aW]
 repeat' (first|((with_reducible first|(refine hK _ ?_;clear hK K)|refine aj fun U O=>?_|apply ah|(apply Z<;>(intro hc;try simp at hc;try omega)))<;>try simp only [go_sem])|(with_reducible first|apply ag|(refine O _ ?_;clear O U)|refine kN xD fun K hK=>?_|refine kO fun K hK=>?_|refine aI ?_)|((with_reducible apply CallK.eq);(· with_reducible first|exact bE _ _ _);(· simp [RV.flat,D.sc,ab]);try simp only [go_sem])|fail)
 refine ak rfl rfl (by simp [am,lk]) ?_;rfl
theorem lw (c:CodeD) (p:PerfD) (f:Int) (hcf:CdFit 1048576 c) (hpf:PfFit 1048576 p):FnEq Tryz.prog 72 [.agg c.cs,.agg p.cs,.d (.int .i64 f)] [.d (.bool (bP (dK c p f)))]:=by
 have hc0:=ip c p hcf hpf
 have hc1:=q_ f
 refine aO aa Tryz.func72 rfl rfl ?_;simp only [Tryz.ntmps72,aR,aM,Nat.reduceAdd,Nat.reduceSub,aW]
 by_cases h0:cB c p
 ·rw [aQ h0] at hc0
  by_cases h1:ez f
  ·rw [aQ h1] at hc1
   rw [aQ (show dK c p f from ⟨h0,h1⟩)]
   repeat' (first|((with_reducible first|(refine hK _ ?_;clear hK K)|refine aj fun U O=>?_|apply ah|(apply Z<;>(intro hc;try simp at hc;try omega)))<;>try simp only [go_sem])|(with_reducible first|apply ag|(refine O _ ?_;clear O U)|refine kN vd fun K hK=>?_|refine kO fun K hK=>?_|refine aI ?_)|(refine xS rfl fun U O=>?_;simp only [go_sem])|((with_reducible apply CallK.eq);(· with_reducible first|exact hc0|exact hc1);(· simp [RV.flat,D.sc,ab]);try simp only [go_sem])|fail)
   all_goals first
    |(exfalso;omega)
    |(refine ak rfl rfl (by simp [am,lk]) ?_;first|rfl|(simp;done)|(simp_all;done))
  ·rw [aG h1] at hc1
   rw [aG (show ¬ (dK c p f) from fun h=>h1 h.2)]
   repeat' (first|((with_reducible first|(refine hK _ ?_;clear hK K)|refine aj fun U O=>?_|apply ah|(apply Z<;>(intro hc;try simp at hc;try omega)))<;>try simp only [go_sem])|(with_reducible first|apply ag|(refine O _ ?_;clear O U)|refine kN vd fun K hK=>?_|refine kO fun K hK=>?_|refine aI ?_)|(refine xS rfl fun U O=>?_;simp only [go_sem])|((with_reducible apply CallK.eq);(· with_reducible first|exact hc0|exact hc1);(· simp [RV.flat,D.sc,ab]);try simp only [go_sem])|fail)
   all_goals first
    |(exfalso;omega)
    |(refine ak rfl rfl (by simp [am,lk]) ?_;first|rfl|(simp;done)|(simp_all;done))
 ·rw [aG h0] at hc0
  rw [aG (show ¬ (dK c p f) from fun h=>h0 h.1)]
  repeat' (first|((with_reducible first|(refine hK _ ?_;clear hK K)|refine aj fun U O=>?_|apply ah|(apply Z<;>(intro hc;try simp at hc;try omega)))<;>try simp only [go_sem])|(with_reducible first|apply ag|(refine O _ ?_;clear O U)|refine kN vd fun K hK=>?_|refine kO fun K hK=>?_|refine aI ?_)|(refine xS rfl fun U O=>?_;simp only [go_sem])|((with_reducible apply CallK.eq);(· with_reducible first|exact hc0|exact hc1);(· simp [RV.flat,D.sc,ab]);try simp only [go_sem])|fail)
  all_goals first
   |(exfalso;omega)
   |(refine ak rfl rfl (by simp [am,lk]) ?_;first|rfl|(simp;done)|(simp_all;done))
theorem ug (c:CodeD) (l:List ItemD) (hcf:CdFit 1048576 c) (hn:l.length≤1048576) (hs:∀ r ∈ l,ItFit 1048576 r):FnEq Tryz.prog 181 [.agg c.cs,.d (.lst 3 (l.map ItemD.dat))] [.d (.bool (bP (CodeOk c∧ItsOk l∧bU c l)))]:=by
 have hcf63:CdFit 9223372036854775807 c:=hcf.mono (by decide)
 have hs63:∀ r ∈ l,ItFit 9223372036854775807 r:=fun r hr=>(hs r hr).mono (by decide)
 have hn63:l.length≤9223372036854775807:=by omega
 have hel:c.elements.length≤16777216:=by have:=hcf.1;omega
 have hc0:=oq c hcf63
 have hc1:=di l hn63 hs63
 have hc2:=sF c l hel hn63 hs63
 refine aO aa Tryz.func181 rfl rfl ?_;simp only [Tryz.ntmps181,aR,aM,Nat.reduceAdd,Nat.reduceSub,aW]
 by_cases h0:CodeOk c
 ·rw [aQ h0] at hc0
  by_cases h1:ItsOk l
  ·rw [aQ h1] at hc1
   by_cases h2:bU c l
   ·rw [aQ h2] at hc2
    rw [aQ (show CodeOk c∧ItsOk l∧bU c l from ⟨h0,h1,h2⟩)]
    repeat' (first|((with_reducible first|(refine hK _ ?_;clear hK K)|refine aj fun U O=>?_|apply ah|(apply Z<;>(intro hc;try simp at hc;try omega)))<;>try simp only [go_sem])|(with_reducible first|apply ag|(refine O _ ?_;clear O U)|refine kN pb fun K hK=>?_|refine kO fun K hK=>?_|refine aI ?_)|(refine xS rfl fun U O=>?_;simp only [go_sem])|((with_reducible apply CallK.eq);(· with_reducible first|exact hc0|exact hc1|exact hc2);(· simp [RV.flat,D.sc,ab]);try simp only [go_sem])|fail)
    all_goals first
     |(exfalso;omega)
     |(refine ak rfl rfl (by simp [am,lk]) ?_;first|rfl|(simp;done)|(simp_all;done))
   ·rw [aG h2] at hc2
    rw [aG (show ¬ (CodeOk c∧ItsOk l∧bU c l) from fun h=>h2 h.2.2)]
    repeat' (first|((with_reducible first|(refine hK _ ?_;clear hK K)|refine aj fun U O=>?_|apply ah|(apply Z<;>(intro hc;try simp at hc;try omega)))<;>try simp only [go_sem])|(with_reducible first|apply ag|(refine O _ ?_;clear O U)|refine kN pb fun K hK=>?_|refine kO fun K hK=>?_|refine aI ?_)|(refine xS rfl fun U O=>?_;simp only [go_sem])|((with_reducible apply CallK.eq);(· with_reducible first|exact hc0|exact hc1|exact hc2);(· simp [RV.flat,D.sc,ab]);try simp only [go_sem])|fail)
    all_goals first
     |(exfalso;omega)
     |(refine ak rfl rfl (by simp [am,lk]) ?_;first|rfl|(simp;done)|(simp_all;done))
  ·rw [aG h1] at hc1
   rw [aG (show ¬ (CodeOk c∧ItsOk l∧bU c l) from fun h=>h1 h.2.1)]
   repeat' (first|((with_reducible first|(refine hK _ ?_;clear hK K)|refine aj fun U O=>?_|apply ah|(apply Z<;>(intro hc;try simp at hc;try omega)))<;>try simp only [go_sem])|(with_reducible first|apply ag|(refine O _ ?_;clear O U)|refine kN pb fun K hK=>?_|refine kO fun K hK=>?_|refine aI ?_)|(refine xS rfl fun U O=>?_;simp only [go_sem])|((with_reducible apply CallK.eq);(· with_reducible first|exact hc0|exact hc1|exact hc2);(· simp [RV.flat,D.sc,ab]);try simp only [go_sem])|fail)
   all_goals first
    |(exfalso;omega)
    |(refine ak rfl rfl (by simp [am,lk]) ?_;first|rfl|(simp;done)|(simp_all;done))
 ·rw [aG h0] at hc0
  rw [aG (show ¬ (CodeOk c∧ItsOk l∧bU c l) from fun h=>h0 h.1)]
  repeat' (first|((with_reducible first|(refine hK _ ?_;clear hK K)|refine aj fun U O=>?_|apply ah|(apply Z<;>(intro hc;try simp at hc;try omega)))<;>try simp only [go_sem])|(with_reducible first|apply ag|(refine O _ ?_;clear O U)|refine kN pb fun K hK=>?_|refine kO fun K hK=>?_|refine aI ?_)|(refine xS rfl fun U O=>?_;simp only [go_sem])|((with_reducible apply CallK.eq);(· with_reducible first|exact hc0|exact hc1|exact hc2);(· simp [RV.flat,D.sc,ab]);try simp only [go_sem])|fail)
  all_goals first
   |(exfalso;omega)
   |(refine ak rfl rfl (by simp [am,lk]) ?_;first|rfl|(simp;done)|(simp_all;done))
theorem up (c:CodeD) (l:List ItemD) (m:MarksD) (hcf:CdFit 1048576 c) (hn:l.length≤1048576) (hs:∀ r ∈ l,ItFit 1048576 r) (hmf:MkFit 1048576 m):FnEq Tryz.prog 147 [.agg c.cs,.d (.lst 3 (l.map ItemD.dat)),.agg m.cs] [.d (.bool (bP (fh c l m)))]:=by
 have hcf63:CdFit 9223372036854775807 c:=hcf.mono (by decide)
 have hs63:∀ r ∈ l,ItFit 9223372036854775807 r:=fun r hr=>(hs r hr).mono (by decide)
 have hn63:l.length≤9223372036854775807:=by omega
 have hel:c.elements.length≤16777216:=by have:=hcf.1;omega
 have hc0:=ug c l hcf hn hs
 have hc1:=uP m (l.length:Nat) hmf
 refine aO aa Tryz.func147 rfl rfl ?_;simp only [Tryz.ntmps147,aR,aM,Nat.reduceAdd,Nat.reduceSub,aW]
 by_cases h0:CodeOk c∧ItsOk l∧bU c l
 ·rw [aQ h0] at hc0
  by_cases h1:eJ m (l.length:Nat)
  ·rw [aQ h1] at hc1
   rw [aQ (show fh c l m from ⟨h0.1,h0.2.1,h0.2.2,h1⟩)]
   repeat' (first|((with_reducible first|(refine hK _ ?_;clear hK K)|refine aj fun U O=>?_|apply ah|(apply Z<;>(intro hc;try simp at hc;try omega)))<;>try simp only [go_sem])|(with_reducible first|apply ag|(refine O _ ?_;clear O U)|refine kN tq fun K hK=>?_|refine kO fun K hK=>?_|refine aI ?_)|(refine xS rfl fun U O=>?_;simp only [go_sem])|((with_reducible apply CallK.eq);(· with_reducible first|exact hc0|exact hc1);(· simp [RV.flat,D.sc,ab]);try simp only [go_sem])|fail)
   all_goals first
    |(exfalso;omega)
    |(refine ak rfl rfl (by simp [am,lk]) ?_;first|rfl|(simp;done)|(simp_all;done))
  ·rw [aG h1] at hc1
   rw [aG (show ¬ (fh c l m) from fun h=>h1 h.2.2.2)]
   repeat' (first|((with_reducible first|(refine hK _ ?_;clear hK K)|refine aj fun U O=>?_|apply ah|(apply Z<;>(intro hc;try simp at hc;try omega)))<;>try simp only [go_sem])|(with_reducible first|apply ag|(refine O _ ?_;clear O U)|refine kN tq fun K hK=>?_|refine kO fun K hK=>?_|refine aI ?_)|(refine xS rfl fun U O=>?_;simp only [go_sem])|((with_reducible apply CallK.eq);(· with_reducible first|exact hc0|exact hc1);(· simp [RV.flat,D.sc,ab]);try simp only [go_sem])|fail)
   all_goals first
    |(exfalso;omega)
    |(refine ak rfl rfl (by simp [am,lk]) ?_;first|rfl|(simp;done)|(simp_all;done))
 ·rw [aG h0] at hc0
  rw [aG (show ¬ (fh c l m) from fun h=>h0 ⟨h.1,h.2.1,h.2.2.1⟩)]
  repeat' (first|((with_reducible first|(refine hK _ ?_;clear hK K)|refine aj fun U O=>?_|apply ah|(apply Z<;>(intro hc;try simp at hc;try omega)))<;>try simp only [go_sem])|(with_reducible first|apply ag|(refine O _ ?_;clear O U)|refine kN tq fun K hK=>?_|refine kO fun K hK=>?_|refine aI ?_)|(refine xS rfl fun U O=>?_;simp only [go_sem])|((with_reducible apply CallK.eq);(· with_reducible first|exact hc0|exact hc1);(· simp [RV.flat,D.sc,ab]);try simp only [go_sem])|fail)
  all_goals first
   |(exfalso;omega)
   |(refine ak rfl rfl (by simp [am,lk]) ?_;first|rfl|(simp;done)|(simp_all;done))
theorem kp (c:CodeD) (p:PerfD) (hcf:CdFit 1048576 c) (hpf:PfFit 1048576 p):FnEq Tryz.prog 102 [.agg c.cs,.agg p.cs] [.d (.bool (bP (cB c p)))]:=by
 obtain ⟨⟨hn,hs⟩,hmf⟩:=hpf
 have hc0:=up c p.items p.marks hcf hn hs hmf
 have hc1:=ur p.slips
 refine aO aa Tryz.func102 rfl rfl ?_;simp only [Tryz.ntmps102,aR,aM,Nat.reduceAdd,Nat.reduceSub,aW]
 by_cases h0:fh c p.items p.marks
 ·rw [aQ h0] at hc0
  by_cases h1:ew p.slips
  ·rw [aQ h1] at hc1
   rw [aQ (show cB c p from perf_iff.2 ⟨h0,h1⟩)]
   repeat' (first|((with_reducible first|(refine hK _ ?_;clear hK K)|refine aj fun U O=>?_|apply ah|(apply Z<;>(intro hc;try simp at hc;try omega)))<;>try simp only [go_sem])|(with_reducible first|apply ag|(refine O _ ?_;clear O U)|refine kN sM fun K hK=>?_|refine kO fun K hK=>?_|refine aI ?_)|(refine xS rfl fun U O=>?_;simp only [go_sem])|((with_reducible apply CallK.eq);(· with_reducible first|exact hc0|exact hc1);(· simp [RV.flat,D.sc,ab]);try simp only [go_sem])|fail)
   all_goals first
    |(exfalso;omega)
    |(refine ak rfl rfl (by simp [am,lk]) ?_;first|rfl|(simp;done)|(simp_all;done))
  ·rw [aG h1] at hc1
   rw [aG (show ¬ (cB c p) from fun h=>h1 (perf_iff.1 h).2)]
   repeat' (first|((with_reducible first|(refine hK _ ?_;clear hK K)|refine aj fun U O=>?_|apply ah|(apply Z<;>(intro hc;try simp at hc;try omega)))<;>try simp only [go_sem])|(with_reducible first|apply ag|(refine O _ ?_;clear O U)|refine kN sM fun K hK=>?_|refine kO fun K hK=>?_|refine aI ?_)|(refine xS rfl fun U O=>?_;simp only [go_sem])|((with_reducible apply CallK.eq);(· with_reducible first|exact hc0|exact hc1);(· simp [RV.flat,D.sc,ab]);try simp only [go_sem])|fail)
   all_goals first
    |(exfalso;omega)
    |(refine ak rfl rfl (by simp [am,lk]) ?_;first|rfl|(simp;done)|(simp_all;done))
 ·rw [aG h0] at hc0
  rw [aG (show ¬ (cB c p) from fun h=>h0 (perf_iff.1 h).1)]
  repeat' (first|((with_reducible first|(refine hK _ ?_;clear hK K)|refine aj fun U O=>?_|apply ah|(apply Z<;>(intro hc;try simp at hc;try omega)))<;>try simp only [go_sem])|(with_reducible first|apply ag|(refine O _ ?_;clear O U)|refine kN sM fun K hK=>?_|refine kO fun K hK=>?_|refine aI ?_)|(refine xS rfl fun U O=>?_;simp only [go_sem])|((with_reducible apply CallK.eq);(· with_reducible first|exact hc0|exact hc1);(· simp [RV.flat,D.sc,ab]);try simp only [go_sem])|fail)
  all_goals first
   |(exfalso;omega)
   |(refine ak rfl rfl (by simp [am,lk]) ?_;first|rfl|(simp;done)|(simp_all;done))
theorem qZ (f:Int):FnEq Tryz.prog 119 [.d (.int .i64 f)] [.d (.bool (bP (ez f)))]:=by
 have e:bP (ez f) = (decide (10≤f) && decide (f≤400)):=by rw [Bool.eq_iff_iff,bP_iff];simp [ez]
 rw [e]
 refine aO aa Tryz.func119 rfl rfl ?_;simp only [Tryz.ntmps119,aR,aM,Nat.reduceAdd,Nat.reduceSub,aW]
 repeat' (first|((with_reducible first|(refine hK _ ?_;clear hK K)|refine aj fun U O=>?_|apply ah|(apply Z<;>(intro hc;try simp at hc;try omega)))<;>try simp only [go_sem])|(with_reducible first|apply ag|(refine O _ ?_;clear O U)|refine kN x2 fun K hK=>?_|refine kO fun K hK=>?_|refine aI ?_)|((with_reducible apply CallK.eq);(· with_reducible first|exact cx _ _ _);(· simp [RV.flat,D.sc,ab]);try simp only [go_sem])|fail)
 refine ak rfl rfl (by simp [am,lk]) ?_;rfl
theorem sq (c:CodeD) (p:PerfD) (f:Int) (hcf:CdFit 1048576 c) (hpf:PfFit 1048576 p):FnEq Tryz.prog 63 [.agg c.cs,.agg p.cs,.d (.int .i64 f)] [.d (.bool (bP (dK c p f)))]:=by
 have hc0:=kp c p hcf hpf
 have hc1:=qZ f
 refine aO aa Tryz.func63 rfl rfl ?_;simp only [Tryz.ntmps63,aR,aM,Nat.reduceAdd,Nat.reduceSub,aW]
 by_cases h0:cB c p
 ·rw [aQ h0] at hc0
  by_cases h1:ez f
  ·rw [aQ h1] at hc1
   rw [aQ (show dK c p f from ⟨h0,h1⟩)]
   repeat' (first|((with_reducible first|(refine hK _ ?_;clear hK K)|refine aj fun U O=>?_|apply ah|(apply Z<;>(intro hc;try simp at hc;try omega)))<;>try simp only [go_sem])|(with_reducible first|apply ag|(refine O _ ?_;clear O U)|refine kN vr fun K hK=>?_|refine kO fun K hK=>?_|refine aI ?_)|(refine xS rfl fun U O=>?_;simp only [go_sem])|((with_reducible apply CallK.eq);(· with_reducible first|exact hc0|exact hc1);(· simp [RV.flat,D.sc,ab]);try simp only [go_sem])|fail)
   all_goals first
    |(exfalso;omega)
    |(refine ak rfl rfl (by simp [am,lk]) ?_;first|rfl|(simp;done)|(simp_all;done))
  ·rw [aG h1] at hc1
   rw [aG (show ¬ (dK c p f) from fun h=>h1 h.2)]
   repeat' (first|((with_reducible first|(refine hK _ ?_;clear hK K)|refine aj fun U O=>?_|apply ah|(apply Z<;>(intro hc;try simp at hc;try omega)))<;>try simp only [go_sem])|(with_reducible first|apply ag|(refine O _ ?_;clear O U)|refine kN vr fun K hK=>?_|refine kO fun K hK=>?_|refine aI ?_)|(refine xS rfl fun U O=>?_;simp only [go_sem])|((with_reducible apply CallK.eq);(· with_reducible first|exact hc0|exact hc1);(· simp [RV.flat,D.sc,ab]);try simp only [go_sem])|fail)
   all_goals first
    |(exfalso;omega)
    |(refine ak rfl rfl (by simp [am,lk]) ?_;first|rfl|(simp;done)|(simp_all;done))
 ·rw [aG h0] at hc0
  rw [aG (show ¬ (dK c p f) from fun h=>h0 h.1)]
  repeat' (first|((with_reducible first|(refine hK _ ?_;clear hK K)|refine aj fun U O=>?_|apply ah|(apply Z<;>(intro hc;try simp at hc;try omega)))<;>try simp only [go_sem])|(with_reducible first|apply ag|(refine O _ ?_;clear O U)|refine kN vr fun K hK=>?_|refine kO fun K hK=>?_|refine aI ?_)|(refine xS rfl fun U O=>?_;simp only [go_sem])|((with_reducible apply CallK.eq);(· with_reducible first|exact hc0|exact hc1);(· simp [RV.flat,D.sc,ab]);try simp only [go_sem])|fail)
  all_goals first
   |(exfalso;omega)
   |(refine ak rfl rfl (by simp [am,lk]) ?_;first|rfl|(simp;done)|(simp_all;done))
theorem ov {c:CodeD} {p:PerfD} (h:cB c p):(cb c p.items p.marks.grades).length≤1048576:=by rw [lu];have:=h.2.1.1;omega
theorem ld (c:CodeD) (p:PerfD) (h:cB c p):FnEq Tryz.prog 163 [.agg c.cs,.agg p.cs] [.d (.int .i64 (dk c p))]:=by
 have hsc:=oC c p.items p.marks h.1 h.2.1 h.2.2.1 h.2.2.2.1 h.2.2.2.2.1
 have hsu:=gF (cb c p.items p.marks.grades) 15000000 (by omega) (by omega) (jk h) (ov h)
 have e:dk c p = (cb c p.items p.marks.grades).sum:=rfl
 rw [e]
 refine aO aa Tryz.func163 rfl rfl ?_;simp only [Tryz.ntmps163,aR,aM,Nat.reduceAdd,Nat.reduceSub,aW]
 repeat' (first|((with_reducible first|(refine hK _ ?_;clear hK K)|refine aj fun U O=>?_|apply ah|(apply Z<;>(intro hc;try simp at hc;try omega)))<;>try simp only [go_sem])|(with_reducible first|apply ag|(refine O _ ?_;clear O U)|refine kN xZ fun K hK=>?_|refine kO fun K hK=>?_|refine aI ?_)|((with_reducible apply CallK.eq);(· with_reducible first|exact hsc|exact hsu);(· simp [RV.flat,D.sc,ab]);try simp only [go_sem])|fail)
 all_goals first
  |(exfalso;omega)
  |(refine ak rfl rfl (by simp [am,lk]) ?_;rfl)
theorem tG (c:CodeD) (p:PerfD) (f:Int) (h:dK c p f):FnEq Tryz.prog 129 [.agg c.cs,.agg p.cs,.d (.int .i64 f)] [.row 3 1 ([dk c p,dj p.marks f p.slips.falls,d4 c p.slips,eh c p f].map ab)]:=by
 have hte:=ld c p h.1
 have hsl:=h.1.2.2.2.2.2
 have hcn:=h.1.1.2.2
 have hfa:=m6 p.marks f p.slips.falls h.1.2.2.2.1 h.2 hsl.1
 have hsp:=oJ c p.slips hcn hsl
 have h7:=hcn.2.2.2.2.2.2.2.2.2
 have hfb:=gf h7.1 h7.2 hsl.1 hsl.2.1
 have htb:=l5 hsl.2.2.1 hsl.2.2.2.1
 have hob:=hsl.2.2.2.2
 have hsu:=gF [eE c.fall p.slips.falls,eQ p.slips.seconds,p.slips.other] 20000 (by omega) (by omega) (fun x hx=>by
  simp only [List.mem_cons,List.not_mem_nil,or_false] at hx
  rcases hx with rfl|rfl|rfl<;>omega) (by simp)
 rw [show [eE c.fall p.slips.falls,eQ p.slips.seconds,p.slips.other].sum = d4 c p.slips by simp [d4];omega] at hsu
 have h1:=pW h.1
 have h2:=pR h.1.2.2.2.1 h.2 p.slips.falls
 have h3:=rH hcn hsl
 have e:eh c p f = max (dk c p + dj p.marks f p.slips.falls - d4 c p.slips) 0:=rfl
 rw [e]
 generalize [eE c.fall p.slips.falls,eQ p.slips.seconds,p.slips.other] = sl at hsp hsu
 refine aO aa Tryz.func129 rfl rfl ?_;simp only [Tryz.ntmps129,aR,aM,Nat.reduceAdd,Nat.reduceSub,aW]
 generalize dk c p = a at hte h1
 generalize dj p.marks f p.slips.falls = b at hfa h2
 generalize d4 c p.slips = d at hsu h3
 repeat' (first|((with_reducible first|(refine hK _ ?_;clear hK K)|refine aj fun U O=>?_|apply ah|(apply Z<;>(intro hc;try simp at hc;try omega)))<;>try simp only [go_sem])|(with_reducible first|apply ag|(refine O _ ?_;clear O U)|refine kN wi fun K hK=>?_|refine kO fun K hK=>?_|refine aI ?_)|((with_reducible first|apply CallK.eq|apply CallQ.eqs);(· with_reducible first|exact hte|exact hfa|exact hsp|exact hsu);(· first|exact rfl|(simp [RV.flat,D.sc,ab];done));try simp only [go_sem])|(with_reducible refine dY wi aa 0 13 ax (by kernel_rfl) (fun K hK=>?_);simp only [List.take_succ_cons,List.take_zero,List.drop_succ_cons,List.drop_zero])|fail)
 all_goals first
  |(exfalso;omega)
  |(refine ak rfl (by simp only [bl,bn,ae,lk,an,aM,List.length_append,List.length_take,if_true,if_false,Nat.reduceEqDiff,Nat.reduceBEq,Bool.false_eq_true,Option.some.injEq];rfl) (by simp [am,lk]) ?_;rfl)
theorem iz (c:CodeD) (p:PerfD) (f:Int) (h:dK c p f):FnEq Tryz.prog 76 [.agg c.cs,.agg p.cs,.d (.int .i64 f)] [.d (.int .i64 (eh c p f))]:=by
 have hp:=tG c p f h
 refine aO aa Tryz.func76 rfl rfl ?_;simp only [Tryz.ntmps76,aR,aM,Nat.reduceAdd,Nat.reduceSub,aW]
 have hl3:[dk c p,dj p.marks f p.slips.falls,d4 c p.slips,eh c p f][3]? = some (eh c p f):=rfl
 have hl4:[dk c p,dj p.marks f p.slips.falls,d4 c p.slips,eh c p f].length = 4:=rfl
 generalize [dk c p,dj p.marks f p.slips.falls,d4 c p.slips,eh c p f] = q at hp hl3 hl4
 have h34:(3:Nat) < 4:=by decide
 have ht3:Int.toNat 3 = 3:=rfl
 generalize eh c p f = s at hl3
 repeat' (first|((with_reducible first|(refine hK _ ?_;clear hK K)|refine aj fun U O=>?_|apply ah|(apply Z<;>(intro hc;try simp at hc;try omega)))<;>try simp only [go_sem,ap,hl3,hl4,h34,ht3,aq,ab])|(with_reducible first|apply ag|(refine O _ ?_;clear O U)|refine kN yO fun K hK=>?_|refine kO fun K hK=>?_|refine aI ?_)|((with_reducible apply CallK.eq);(· with_reducible first|exact hp);(· simp [RV.flat,D.sc,ab]);try simp only [go_sem,ap,hl3,hl4,h34,ht3,aq,ab])|fail)
 all_goals first
  |(exfalso;omega)
  |(refine ak rfl rfl (by simp [am,lk]) ?_;rfl)
theorem m9 (c:CodeD) (p:PerfD) (h:cB c p):FnEq Tryz.prog 158 [.agg c.cs,.agg p.cs] [.d (.int .i64 (dk c p))]:=by
 have hsc:=qU c p.items p.marks h.1 h.2.1 h.2.2.1 h.2.2.2.1 h.2.2.2.2.1
 have hsu:=lJ (cb c p.items p.marks.grades) 15000000 (by omega) (by omega) (jk h) (ov h)
 have e:dk c p = (cb c p.items p.marks.grades).sum:=rfl
 rw [e]
 refine aO aa Tryz.func158 rfl rfl ?_;simp only [Tryz.ntmps158,aR,aM,Nat.reduceAdd,Nat.reduceSub,aW]
 repeat' (first|((with_reducible first|(refine hK _ ?_;clear hK K)|refine aj fun U O=>?_|apply ah|(apply Z<;>(intro hc;try simp at hc;try omega)))<;>try simp only [go_sem])|(with_reducible first|apply ag|(refine O _ ?_;clear O U)|refine kN yh fun K hK=>?_|refine kO fun K hK=>?_|refine aI ?_)|((with_reducible apply CallK.eq);(· with_reducible first|exact hsc|exact hsu);(· simp [RV.flat,D.sc,ab]);try simp only [go_sem])|fail)
 all_goals first
  |(exfalso;omega)
  |(refine ak rfl rfl (by simp [am,lk]) ?_;rfl)
theorem s9 (c:CodeD) (p:PerfD) (f:Int) (h:dK c p f):FnEq Tryz.prog 122 [.agg c.cs,.agg p.cs,.d (.int .i64 f)] [.row 3 1 ([dk c p,dj p.marks f p.slips.falls,d4 c p.slips,eh c p f].map ab)]:=by
 have hte:=m9 c p h.1
 have hsl:=h.1.2.2.2.2.2
 have hcn:=h.1.1.2.2
 have hfa:=oL p.marks f p.slips.falls h.1.2.2.2.1 h.2
 have hsu:=vj c p.slips hcn hsl
 have h1:=pW h.1
 have h2:=pR h.1.2.2.2.1 h.2 p.slips.falls
 have h3:=rH hcn hsl
 have e:eh c p f = max (dk c p + dj p.marks f p.slips.falls - d4 c p.slips) 0:=rfl
 have e2:max (dk c p + dj p.marks f p.slips.falls - d4 c p.slips) 0 = max 0 (dk c p + dj p.marks f p.slips.falls - d4 c p.slips):=by omega
 rw [e,e2]
 refine aO aa Tryz.func122 rfl rfl ?_;simp only [Tryz.ntmps122,aR,aM,Nat.reduceAdd,Nat.reduceSub,aW]
 generalize dk c p = a at hte h1
 generalize dj p.marks f p.slips.falls = b at hfa h2
 generalize d4 c p.slips = d at hsu h3
 repeat' (first|((with_reducible first|(refine hK _ ?_;clear hK K)|refine aj fun U O=>?_|apply ah|(apply Z<;>(intro hc;try simp at hc;try omega)))<;>try simp only [go_sem])|(with_reducible first|apply ag|(refine O _ ?_;clear O U)|refine kN wm fun K hK=>?_|refine kO fun K hK=>?_|refine aI ?_)|((with_reducible first|apply CallK.eq|apply CallQ.eqs);(· with_reducible first|exact hte|exact hfa|exact hsu|exact ks _ _);(· first|exact rfl|(simp [RV.flat,D.sc,ab];done));try simp only [go_sem])|(with_reducible refine az wm aa ax (by kernel_rfl) (fun K hK=>?_))|(with_reducible refine aN aa ax (by kernel_rfl) ?_)|fail)
 all_goals first
  |(exfalso;omega)
  |(refine ak rfl (by simp only [bl,bn,ae,lk,an,aM,List.length_append,List.length_take,if_true,if_false,Nat.reduceEqDiff,Nat.reduceBEq,Bool.false_eq_true,Option.some.injEq];rfl) (by simp [am,lk]) ?_;rfl)
theorem sJ (c:CodeD) (p:PerfD) (f:Int) (h:dK c p f):FnEq Tryz.prog 66 [.agg c.cs,.agg p.cs,.d (.int .i64 f)] [.d (.int .i64 (eh c p f))]:=by
 have hp:=s9 c p f h
 refine aO aa Tryz.func66 rfl rfl ?_;simp only [Tryz.ntmps66,aR,aM,Nat.reduceAdd,Nat.reduceSub,aW]
 have hl3:[dk c p,dj p.marks f p.slips.falls,d4 c p.slips,eh c p f][3]? = some (eh c p f):=rfl
 have hl4:[dk c p,dj p.marks f p.slips.falls,d4 c p.slips,eh c p f].length = 4:=rfl
 generalize [dk c p,dj p.marks f p.slips.falls,d4 c p.slips,eh c p f] = q at hp hl3 hl4
 have h34:(3:Nat) < 4:=by decide
 have ht3:Int.toNat 3 = 3:=rfl
 generalize eh c p f = s at hl3
 repeat' (first|((with_reducible first|(refine hK _ ?_;clear hK K)|refine aj fun U O=>?_|apply ah|(apply Z<;>(intro hc;try simp at hc;try omega)))<;>try simp only [go_sem,ap,hl3,hl4,h34,ht3,aq,ab])|(with_reducible first|apply ag|(refine O _ ?_;clear O U)|refine kN yX fun K hK=>?_|refine kO fun K hK=>?_|refine aI ?_)|((with_reducible apply CallK.eq);(· with_reducible first|exact hp);(· simp [RV.flat,D.sc,ab]);try simp only [go_sem,ap,hl3,hl4,h34,ht3,aq,ab])|fail)
 all_goals first
  |(exfalso;omega)
  |(refine ak rfl rfl (by simp [am,lk]) ?_;rfl)
end Go.Proofs.YtphakidbddamfaaGreat
