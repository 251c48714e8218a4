/-
  Segment scores: the program's functions and the reference's, in the abstract machine.
-/
import Derived.Test.YtphakidbddamfaaGreatZSy
import Derived.Test.YtphakidbddamfaaGreatZSz
import Derived.Test.YtphakidbddamfaaGreatZSv
set_option linter.unusedSimpArgs false
set_option linter.unusedVariables false
set_option maxHeartbeats 2000000
set_option maxRecDepth 100000
namespace Go.Proofs.YtphakidbddamfaaGreat
open Go.RowKit
def fc (c:CodeD) (l:List ItemD) (m:MarksD):Prop:=CodeOk c∧ItsOk l∧bX c l∧eF m (l.length:Nat)
theorem perf_iff {c:CodeD} {p:PerfD}:di c p↔fc c p.items p.marks∧ey p.slips:=by
 unfold di fc eF
 constructor
 ·rintro ⟨h1,h2,h3,h4,h5,h6⟩;exact ⟨⟨h1,h2,h3,h4,by omega⟩,h6⟩
 ·rintro ⟨⟨h1,h2,h3,h4,h5⟩,h6⟩;exact ⟨h1,h2,h3,h4,by omega,h6⟩
theorem t5 (c:CodeD) (l:List ItemD) (m:MarksD) (hcf:CdFit 1048576 c) (hn:l.length≤1048576) (hs:∀ r ∈ l,ItFit 1048576 r) (hmf:MkFit 1048576 m):FnEq Tryz.prog 179 [.agg c.cs,.d (.lst 3 (l.map ItemD.dat)),.agg m.cs] [.d (.bool (bP (bX c l∧eF m (l.length:Nat))))]:=by
 have hcf63:CdFit 9223372036854775807 c:=hcf.mono (by decide)
 have hs63:∀ r ∈ l,ItFit 9223372036854775807 r:=fun r hr=>(hs r hr).mono (by decide)
 have hn63:l.length≤9223372036854775807:=by omega
 have hel:c.elements.length≤16777216:=by have:=hcf.1;omega
 have hc0:=tU c l hel hn63 hs63
 have hc1:=rH m (l.length:Nat) hmf
 refine aN ae Tryz.func179 rfl rfl ?_;simp only [Tryz.ntmps179,aP,aK,Nat.reduceAdd,Nat.reduceSub,aV]
 by_cases h0:bX c l
 ·rw [aW h0] at hc0
  by_cases h1:eF m (l.length:Nat)
  ·rw [aW h1] at hc1
   rw [aW (show bX c l∧eF m (l.length:Nat) from ⟨h0,h1⟩)]
   repeat' (first|((with_reducible first|(apply hK;clear hK K)|refine ah fun U O=>?_|apply ag|(apply Z<;>(intro hc;try simp at hc;try omega)))<;>try simp only [go_sem])|(with_reducible first|apply aj|(apply O;clear O U)|refine kN tR fun K hK=>?_|refine kO fun K hK=>?_|refine aI ?_)|(refine xS rfl fun U O=>?_;simp only [go_sem])|((with_reducible apply CallK.eq);(· with_reducible first|exact hc0|exact hc1);(· simp [RV.flat,D.sc,aa]);try simp only [go_sem])|fail)
   all_goals first
    |(exfalso;omega)
    |(refine ak rfl rfl (by simp [am,lk]) ?_;first|rfl|(simp;done)|(simp_all;done))
  ·rw [aL h1] at hc1
   rw [aL (show ¬ (bX c l∧eF m (l.length:Nat)) from fun h=>h1 h.2)]
   repeat' (first|((with_reducible first|(apply hK;clear hK K)|refine ah fun U O=>?_|apply ag|(apply Z<;>(intro hc;try simp at hc;try omega)))<;>try simp only [go_sem])|(with_reducible first|apply aj|(apply O;clear O U)|refine kN tR fun K hK=>?_|refine kO fun K hK=>?_|refine aI ?_)|(refine xS rfl fun U O=>?_;simp only [go_sem])|((with_reducible apply CallK.eq);(· with_reducible first|exact hc0|exact hc1);(· simp [RV.flat,D.sc,aa]);try simp only [go_sem])|fail)
   all_goals first
    |(exfalso;omega)
    |(refine ak rfl rfl (by simp [am,lk]) ?_;first|rfl|(simp;done)|(simp_all;done))
 ·rw [aL h0] at hc0
  rw [aL (show ¬ (bX c l∧eF m (l.length:Nat)) from fun h=>h0 h.1)]
  repeat' (first|((with_reducible first|(apply hK;clear hK K)|refine ah fun U O=>?_|apply ag|(apply Z<;>(intro hc;try simp at hc;try omega)))<;>try simp only [go_sem])|(with_reducible first|apply aj|(apply O;clear O U)|refine kN tR fun K hK=>?_|refine kO fun K hK=>?_|refine aI ?_)|(refine xS rfl fun U O=>?_;simp only [go_sem])|((with_reducible apply CallK.eq);(· with_reducible first|exact hc0|exact hc1);(· simp [RV.flat,D.sc,aa]);try simp only [go_sem])|fail)
  all_goals first
   |(exfalso;omega)
   |(refine ak rfl rfl (by simp [am,lk]) ?_;first|rfl|(simp;done)|(simp_all;done))
theorem qe (c:CodeD) (l:List ItemD) (m:MarksD) (hcf:CdFit 1048576 c) (hn:l.length≤1048576) (hs:∀ r ∈ l,ItFit 1048576 r) (hmf:MkFit 1048576 m):FnEq Tryz.prog 142 [.agg c.cs,.d (.lst 3 (l.map ItemD.dat)),.agg m.cs] [.d (.bool (bP (fc c l m)))]:=by
 have hcf63:CdFit 9223372036854775807 c:=hcf.mono (by decide)
 have hs63:∀ r ∈ l,ItFit 9223372036854775807 r:=fun r hr=>(hs r hr).mono (by decide)
 have hn63:l.length≤9223372036854775807:=by omega
 have hel:c.elements.length≤16777216:=by have:=hcf.1;omega
 have hc0:=uq c hcf63
 have hc1:=rD l hn63 hs63
 have hc2:=t5 c l m hcf hn hs hmf
 refine aN ae Tryz.func142 rfl rfl ?_;simp only [Tryz.ntmps142,aP,aK,Nat.reduceAdd,Nat.reduceSub,aV]
 by_cases h0:CodeOk c
 ·rw [aW h0] at hc0
  by_cases h1:ItsOk l
  ·rw [aW h1] at hc1
   by_cases h2:bX c l∧eF m (l.length:Nat)
   ·rw [aW h2] at hc2
    rw [aW (show fc c l m from ⟨h0,h1,h2.1,h2.2⟩)]
    repeat' (first|((with_reducible first|(apply hK;clear hK K)|refine ah fun U O=>?_|apply ag|(apply Z<;>(intro hc;try simp at hc;try omega)))<;>try simp only [go_sem])|(with_reducible first|apply aj|(apply O;clear O U)|refine kN oZ fun K hK=>?_|refine kO fun K hK=>?_|refine aI ?_)|(refine xS rfl fun U O=>?_;simp only [go_sem])|((with_reducible apply CallK.eq);(· with_reducible first|exact hc0|exact hc1|exact hc2);(· simp [RV.flat,D.sc,aa]);try simp only [go_sem])|fail)
    all_goals first
     |(exfalso;omega)
     |(refine ak rfl rfl (by simp [am,lk]) ?_;first|rfl|(simp;done)|(simp_all;done))
   ·rw [aL h2] at hc2
    rw [aL (show ¬ (fc c l m) from fun h=>h2 ⟨h.2.2.1,h.2.2.2⟩)]
    repeat' (first|((with_reducible first|(apply hK;clear hK K)|refine ah fun U O=>?_|apply ag|(apply Z<;>(intro hc;try simp at hc;try omega)))<;>try simp only [go_sem])|(with_reducible first|apply aj|(apply O;clear O U)|refine kN oZ fun K hK=>?_|refine kO fun K hK=>?_|refine aI ?_)|(refine xS rfl fun U O=>?_;simp only [go_sem])|((with_reducible apply CallK.eq);(· with_reducible first|exact hc0|exact hc1|exact hc2);(· simp [RV.flat,D.sc,aa]);try simp only [go_sem])|fail)
    all_goals first
     |(exfalso;omega)
     |(refine ak rfl rfl (by simp [am,lk]) ?_;first|rfl|(simp;done)|(simp_all;done))
  ·rw [aL h1] at hc1
   rw [aL (show ¬ (fc c l m) from fun h=>h1 h.2.1)]
   repeat' (first|((with_reducible first|(apply hK;clear hK K)|refine ah fun U O=>?_|apply ag|(apply Z<;>(intro hc;try simp at hc;try omega)))<;>try simp only [go_sem])|(with_reducible first|apply aj|(apply O;clear O U)|refine kN oZ fun K hK=>?_|refine kO fun K hK=>?_|refine aI ?_)|(refine xS rfl fun U O=>?_;simp only [go_sem])|((with_reducible apply CallK.eq);(· with_reducible first|exact hc0|exact hc1|exact hc2);(· simp [RV.flat,D.sc,aa]);try simp only [go_sem])|fail)
   all_goals first
    |(exfalso;omega)
    |(refine ak rfl rfl (by simp [am,lk]) ?_;first|rfl|(simp;done)|(simp_all;done))
 ·rw [aL h0] at hc0
  rw [aL (show ¬ (fc c l m) from fun h=>h0 h.1)]
  repeat' (first|((with_reducible first|(apply hK;clear hK K)|refine ah fun U O=>?_|apply ag|(apply Z<;>(intro hc;try simp at hc;try omega)))<;>try simp only [go_sem])|(with_reducible first|apply aj|(apply O;clear O U)|refine kN oZ fun K hK=>?_|refine kO fun K hK=>?_|refine aI ?_)|(refine xS rfl fun U O=>?_;simp only [go_sem])|((with_reducible apply CallK.eq);(· with_reducible first|exact hc0|exact hc1|exact hc2);(· simp [RV.flat,D.sc,aa]);try simp only [go_sem])|fail)
  all_goals first
   |(exfalso;omega)
   |(refine ak rfl rfl (by simp [am,lk]) ?_;first|rfl|(simp;done)|(simp_all;done))
theorem l_ (c:CodeD) (p:PerfD) (hcf:CdFit 1048576 c) (hpf:PfFit 1048576 p):FnEq Tryz.prog 98 [.agg c.cs,.agg p.cs] [.d (.bool (bP (di c p)))]:=by
 obtain ⟨⟨hn,hs⟩,hmf⟩:=hpf
 have hc0:=qe c p.items p.marks hcf hn hs hmf
 have hc1:=ru p.slips
 refine aN ae Tryz.func98 rfl rfl ?_;simp only [Tryz.ntmps98,aP,aK,Nat.reduceAdd,Nat.reduceSub,aV]
 by_cases h0:fc c p.items p.marks
 ·rw [aW h0] at hc0
  by_cases h1:ey p.slips
  ·rw [aW h1] at hc1
   rw [aW (show di c p from perf_iff.2 ⟨h0,h1⟩)]
   repeat' (first|((with_reducible first|(apply hK;clear hK K)|refine ah fun U O=>?_|apply ag|(apply Z<;>(intro hc;try simp at hc;try omega)))<;>try simp only [go_sem])|(with_reducible first|apply aj|(apply O;clear O U)|refine kN vH fun K hK=>?_|refine kO fun K hK=>?_|refine aI ?_)|(refine xS rfl fun U O=>?_;simp only [go_sem])|((with_reducible apply CallK.eq);(· with_reducible first|exact hc0|exact hc1);(· simp [RV.flat,D.sc,aa]);try simp only [go_sem])|fail)
   all_goals first
    |(exfalso;omega)
    |(refine ak rfl rfl (by simp [am,lk]) ?_;first|rfl|(simp;done)|(simp_all;done))
  ·rw [aL h1] at hc1
   rw [aL (show ¬ (di c p) from fun h=>h1 (perf_iff.1 h).2)]
   repeat' (first|((with_reducible first|(apply hK;clear hK K)|refine ah fun U O=>?_|apply ag|(apply Z<;>(intro hc;try simp at hc;try omega)))<;>try simp only [go_sem])|(with_reducible first|apply aj|(apply O;clear O U)|refine kN vH fun K hK=>?_|refine kO fun K hK=>?_|refine aI ?_)|(refine xS rfl fun U O=>?_;simp only [go_sem])|((with_reducible apply CallK.eq);(· with_reducible first|exact hc0|exact hc1);(· simp [RV.flat,D.sc,aa]);try simp only [go_sem])|fail)
   all_goals first
    |(exfalso;omega)
    |(refine ak rfl rfl (by simp [am,lk]) ?_;first|rfl|(simp;done)|(simp_all;done))
 ·rw [aL h0] at hc0
  rw [aL (show ¬ (di c p) from fun h=>h0 (perf_iff.1 h).1)]
  repeat' (first|((with_reducible first|(apply hK;clear hK K)|refine ah fun U O=>?_|apply ag|(apply Z<;>(intro hc;try simp at hc;try omega)))<;>try simp only [go_sem])|(with_reducible first|apply aj|(apply O;clear O U)|refine kN vH fun K hK=>?_|refine kO fun K hK=>?_|refine aI ?_)|(refine xS rfl fun U O=>?_;simp only [go_sem])|((with_reducible apply CallK.eq);(· with_reducible first|exact hc0|exact hc1);(· simp [RV.flat,D.sc,aa]);try simp only [go_sem])|fail)
  all_goals first
   |(exfalso;omega)
   |(refine ak rfl rfl (by simp [am,lk]) ?_;first|rfl|(simp;done)|(simp_all;done))
theorem rj (f:Int):FnEq Tryz.prog 126 [.d (.int .i64 f)] [.d (.bool (bP (ez f)))]:=by
 have e:bP (ez f) = (decide (10≤f) && decide (f≤400)):=by rw [Bool.eq_iff_iff,dw];simp [ez]
 rw [e]
 refine aN ae Tryz.func126 rfl rfl ?_;simp only [Tryz.ntmps126,aP,aK,Nat.reduceAdd,Nat.reduceSub,aV]
 repeat' (first|((with_reducible first|(apply hK;clear hK K)|refine ah fun U O=>?_|apply ag|(apply Z<;>(intro hc;try simp at hc;try omega)))<;>try simp only [go_sem])|(with_reducible first|apply aj|(apply O;clear O U)|refine kN xW fun K hK=>?_|refine kO fun K hK=>?_|refine aI ?_)|((with_reducible apply CallK.eq);(· with_reducible first|exact bM _ _ _);(· simp [RV.flat,D.sc,aa]);try simp only [go_sem])|fail)
 refine ak rfl rfl (by simp [am,lk]) ?_;rfl
theorem ee (c:CodeD) (p:PerfD) (f:Int) (hcf:CdFit 1048576 c) (hpf:PfFit 1048576 p):FnEq Tryz.prog 72 [.agg c.cs,.agg p.cs,.d (.int .i64 f)] [.d (.bool (bP (bO c p f)))]:=by
 have hc0:=l_ c p hcf hpf
 have hc1:=rj f
 refine aN ae Tryz.func72 rfl rfl ?_;simp only [Tryz.ntmps72,aP,aK,Nat.reduceAdd,Nat.reduceSub,aV]
 by_cases h0:di c p
 ·rw [aW h0] at hc0
  by_cases h1:ez f
  ·rw [aW h1] at hc1
   rw [aW (show bO c p f from ⟨h0,h1⟩)]
   repeat' (first|((with_reducible first|(apply hK;clear hK K)|refine ah fun U O=>?_|apply ag|(apply Z<;>(intro hc;try simp at hc;try omega)))<;>try simp only [go_sem])|(with_reducible first|apply aj|(apply O;clear O U)|refine kN vI fun K hK=>?_|refine kO fun K hK=>?_|refine aI ?_)|(refine xS rfl fun U O=>?_;simp only [go_sem])|((with_reducible apply CallK.eq);(· with_reducible first|exact hc0|exact hc1);(· simp [RV.flat,D.sc,aa]);try simp only [go_sem])|fail)
   all_goals first
    |(exfalso;omega)
    |(refine ak rfl rfl (by simp [am,lk]) ?_;first|rfl|(simp;done)|(simp_all;done))
  ·rw [aL h1] at hc1
   rw [aL (show ¬ (bO c p f) from fun h=>h1 h.2)]
   repeat' (first|((with_reducible first|(apply hK;clear hK K)|refine ah fun U O=>?_|apply ag|(apply Z<;>(intro hc;try simp at hc;try omega)))<;>try simp only [go_sem])|(with_reducible first|apply aj|(apply O;clear O U)|refine kN vI fun K hK=>?_|refine kO fun K hK=>?_|refine aI ?_)|(refine xS rfl fun U O=>?_;simp only [go_sem])|((with_reducible apply CallK.eq);(· with_reducible first|exact hc0|exact hc1);(· simp [RV.flat,D.sc,aa]);try simp only [go_sem])|fail)
   all_goals first
    |(exfalso;omega)
    |(refine ak rfl rfl (by simp [am,lk]) ?_;first|rfl|(simp;done)|(simp_all;done))
 ·rw [aL h0] at hc0
  rw [aL (show ¬ (bO c p f) from fun h=>h0 h.1)]
  repeat' (first|((with_reducible first|(apply hK;clear hK K)|refine ah fun U O=>?_|apply ag|(apply Z<;>(intro hc;try simp at hc;try omega)))<;>try simp only [go_sem])|(with_reducible first|apply aj|(apply O;clear O U)|refine kN vI fun K hK=>?_|refine kO fun K hK=>?_|refine aI ?_)|(refine xS rfl fun U O=>?_;simp only [go_sem])|((with_reducible apply CallK.eq);(· with_reducible first|exact hc0|exact hc1);(· simp [RV.flat,D.sc,aa]);try simp only [go_sem])|fail)
  all_goals first
   |(exfalso;omega)
   |(refine ak rfl rfl (by simp [am,lk]) ?_;first|rfl|(simp;done)|(simp_all;done))
theorem ut (c:CodeD) (l:List ItemD) (hcf:CdFit 1048576 c) (hn:l.length≤1048576) (hs:∀ r ∈ l,ItFit 1048576 r):FnEq Tryz.prog 181 [.agg c.cs,.d (.lst 3 (l.map ItemD.dat))] [.d (.bool (bP (CodeOk c∧ItsOk l∧bX c l)))]:=by
 have hcf63:CdFit 9223372036854775807 c:=hcf.mono (by decide)
 have hs63:∀ r ∈ l,ItFit 9223372036854775807 r:=fun r hr=>(hs r hr).mono (by decide)
 have hn63:l.length≤9223372036854775807:=by omega
 have hel:c.elements.length≤16777216:=by have:=hcf.1;omega
 have hc0:=oL c hcf63
 have hc1:=kd l hn63 hs63
 have hc2:=tc c l hel hn63 hs63
 refine aN ae Tryz.func181 rfl rfl ?_;simp only [Tryz.ntmps181,aP,aK,Nat.reduceAdd,Nat.reduceSub,aV]
 by_cases h0:CodeOk c
 ·rw [aW h0] at hc0
  by_cases h1:ItsOk l
  ·rw [aW h1] at hc1
   by_cases h2:bX c l
   ·rw [aW h2] at hc2
    rw [aW (show CodeOk c∧ItsOk l∧bX c l from ⟨h0,h1,h2⟩)]
    repeat' (first|((with_reducible first|(apply hK;clear hK K)|refine ah fun U O=>?_|apply ag|(apply Z<;>(intro hc;try simp at hc;try omega)))<;>try simp only [go_sem])|(with_reducible first|apply aj|(apply O;clear O U)|refine kN pf fun K hK=>?_|refine kO fun K hK=>?_|refine aI ?_)|(refine xS rfl fun U O=>?_;simp only [go_sem])|((with_reducible apply CallK.eq);(· with_reducible first|exact hc0|exact hc1|exact hc2);(· simp [RV.flat,D.sc,aa]);try simp only [go_sem])|fail)
    all_goals first
     |(exfalso;omega)
     |(refine ak rfl rfl (by simp [am,lk]) ?_;first|rfl|(simp;done)|(simp_all;done))
   ·rw [aL h2] at hc2
    rw [aL (show ¬ (CodeOk c∧ItsOk l∧bX c l) from fun h=>h2 h.2.2)]
    repeat' (first|((with_reducible first|(apply hK;clear hK K)|refine ah fun U O=>?_|apply ag|(apply Z<;>(intro hc;try simp at hc;try omega)))<;>try simp only [go_sem])|(with_reducible first|apply aj|(apply O;clear O U)|refine kN pf fun K hK=>?_|refine kO fun K hK=>?_|refine aI ?_)|(refine xS rfl fun U O=>?_;simp only [go_sem])|((with_reducible apply CallK.eq);(· with_reducible first|exact hc0|exact hc1|exact hc2);(· simp [RV.flat,D.sc,aa]);try simp only [go_sem])|fail)
    all_goals first
     |(exfalso;omega)
     |(refine ak rfl rfl (by simp [am,lk]) ?_;first|rfl|(simp;done)|(simp_all;done))
  ·rw [aL h1] at hc1
   rw [aL (show ¬ (CodeOk c∧ItsOk l∧bX c l) from fun h=>h1 h.2.1)]
   repeat' (first|((with_reducible first|(apply hK;clear hK K)|refine ah fun U O=>?_|apply ag|(apply Z<;>(intro hc;try simp at hc;try omega)))<;>try simp only [go_sem])|(with_reducible first|apply aj|(apply O;clear O U)|refine kN pf fun K hK=>?_|refine kO fun K hK=>?_|refine aI ?_)|(refine xS rfl fun U O=>?_;simp only [go_sem])|((with_reducible apply CallK.eq);(· with_reducible first|exact hc0|exact hc1|exact hc2);(· simp [RV.flat,D.sc,aa]);try simp only [go_sem])|fail)
   all_goals first
    |(exfalso;omega)
    |(refine ak rfl rfl (by simp [am,lk]) ?_;first|rfl|(simp;done)|(simp_all;done))
 ·rw [aL h0] at hc0
  rw [aL (show ¬ (CodeOk c∧ItsOk l∧bX c l) from fun h=>h0 h.1)]
  repeat' (first|((with_reducible first|(apply hK;clear hK K)|refine ah fun U O=>?_|apply ag|(apply Z<;>(intro hc;try simp at hc;try omega)))<;>try simp only [go_sem])|(with_reducible first|apply aj|(apply O;clear O U)|refine kN pf fun K hK=>?_|refine kO fun K hK=>?_|refine aI ?_)|(refine xS rfl fun U O=>?_;simp only [go_sem])|((with_reducible apply CallK.eq);(· with_reducible first|exact hc0|exact hc1|exact hc2);(· simp [RV.flat,D.sc,aa]);try simp only [go_sem])|fail)
  all_goals first
   |(exfalso;omega)
   |(refine ak rfl rfl (by simp [am,lk]) ?_;first|rfl|(simp;done)|(simp_all;done))
theorem ug (c:CodeD) (l:List ItemD) (m:MarksD) (hcf:CdFit 1048576 c) (hn:l.length≤1048576) (hs:∀ r ∈ l,ItFit 1048576 r) (hmf:MkFit 1048576 m):FnEq Tryz.prog 147 [.agg c.cs,.d (.lst 3 (l.map ItemD.dat)),.agg m.cs] [.d (.bool (bP (fc c l m)))]:=by
 have hcf63:CdFit 9223372036854775807 c:=hcf.mono (by decide)
 have hs63:∀ r ∈ l,ItFit 9223372036854775807 r:=fun r hr=>(hs r hr).mono (by decide)
 have hn63:l.length≤9223372036854775807:=by omega
 have hel:c.elements.length≤16777216:=by have:=hcf.1;omega
 have hc0:=ut c l hcf hn hs
 have hc1:=uP m (l.length:Nat) hmf
 refine aN ae Tryz.func147 rfl rfl ?_;simp only [Tryz.ntmps147,aP,aK,Nat.reduceAdd,Nat.reduceSub,aV]
 by_cases h0:CodeOk c∧ItsOk l∧bX c l
 ·rw [aW h0] at hc0
  by_cases h1:eF m (l.length:Nat)
  ·rw [aW h1] at hc1
   rw [aW (show fc c l m from ⟨h0.1,h0.2.1,h0.2.2,h1⟩)]
   repeat' (first|((with_reducible first|(apply hK;clear hK K)|refine ah fun U O=>?_|apply ag|(apply Z<;>(intro hc;try simp at hc;try omega)))<;>try simp only [go_sem])|(with_reducible first|apply aj|(apply O;clear O U)|refine kN tm fun K hK=>?_|refine kO fun K hK=>?_|refine aI ?_)|(refine xS rfl fun U O=>?_;simp only [go_sem])|((with_reducible apply CallK.eq);(· with_reducible first|exact hc0|exact hc1);(· simp [RV.flat,D.sc,aa]);try simp only [go_sem])|fail)
   all_goals first
    |(exfalso;omega)
    |(refine ak rfl rfl (by simp [am,lk]) ?_;first|rfl|(simp;done)|(simp_all;done))
  ·rw [aL h1] at hc1
   rw [aL (show ¬ (fc c l m) from fun h=>h1 h.2.2.2)]
   repeat' (first|((with_reducible first|(apply hK;clear hK K)|refine ah fun U O=>?_|apply ag|(apply Z<;>(intro hc;try simp at hc;try omega)))<;>try simp only [go_sem])|(with_reducible first|apply aj|(apply O;clear O U)|refine kN tm fun K hK=>?_|refine kO fun K hK=>?_|refine aI ?_)|(refine xS rfl fun U O=>?_;simp only [go_sem])|((with_reducible apply CallK.eq);(· with_reducible first|exact hc0|exact hc1);(· simp [RV.flat,D.sc,aa]);try simp only [go_sem])|fail)
   all_goals first
    |(exfalso;omega)
    |(refine ak rfl rfl (by simp [am,lk]) ?_;first|rfl|(simp;done)|(simp_all;done))
 ·rw [aL h0] at hc0
  rw [aL (show ¬ (fc c l m) from fun h=>h0 ⟨h.1,h.2.1,h.2.2.1⟩)]
  repeat' (first|((with_reducible first|(apply hK;clear hK K)|refine ah fun U O=>?_|apply ag|(apply Z<;>(intro hc;try simp at hc;try omega)))<;>try simp only [go_sem])|(with_reducible first|apply aj|(apply O;clear O U)|refine kN tm fun K hK=>?_|refine kO fun K hK=>?_|refine aI ?_)|(refine xS rfl fun U O=>?_;simp only [go_sem])|((with_reducible apply CallK.eq);(· with_reducible first|exact hc0|exact hc1);(· simp [RV.flat,D.sc,aa]);try simp only [go_sem])|fail)
  all_goals first
   |(exfalso;omega)
   |(refine ak rfl rfl (by simp [am,lk]) ?_;first|rfl|(simp;done)|(simp_all;done))
theorem u9 (c:CodeD) (p:PerfD) (hcf:CdFit 1048576 c) (hpf:PfFit 1048576 p):FnEq Tryz.prog 102 [.agg c.cs,.agg p.cs] [.d (.bool (bP (di c p)))]:=by
 obtain ⟨⟨hn,hs⟩,hmf⟩:=hpf
 have hc0:=ug c p.items p.marks hcf hn hs hmf
 have hc1:=ub p.slips
 refine aN ae Tryz.func102 rfl rfl ?_;simp only [Tryz.ntmps102,aP,aK,Nat.reduceAdd,Nat.reduceSub,aV]
 by_cases h0:fc c p.items p.marks
 ·rw [aW h0] at hc0
  by_cases h1:ey p.slips
  ·rw [aW h1] at hc1
   rw [aW (show di c p from perf_iff.2 ⟨h0,h1⟩)]
   repeat' (first|((with_reducible first|(apply hK;clear hK K)|refine ah fun U O=>?_|apply ag|(apply Z<;>(intro hc;try simp at hc;try omega)))<;>try simp only [go_sem])|(with_reducible first|apply aj|(apply O;clear O U)|refine kN tK fun K hK=>?_|refine kO fun K hK=>?_|refine aI ?_)|(refine xS rfl fun U O=>?_;simp only [go_sem])|((with_reducible apply CallK.eq);(· with_reducible first|exact hc0|exact hc1);(· simp [RV.flat,D.sc,aa]);try simp only [go_sem])|fail)
   all_goals first
    |(exfalso;omega)
    |(refine ak rfl rfl (by simp [am,lk]) ?_;first|rfl|(simp;done)|(simp_all;done))
  ·rw [aL h1] at hc1
   rw [aL (show ¬ (di c p) from fun h=>h1 (perf_iff.1 h).2)]
   repeat' (first|((with_reducible first|(apply hK;clear hK K)|refine ah fun U O=>?_|apply ag|(apply Z<;>(intro hc;try simp at hc;try omega)))<;>try simp only [go_sem])|(with_reducible first|apply aj|(apply O;clear O U)|refine kN tK fun K hK=>?_|refine kO fun K hK=>?_|refine aI ?_)|(refine xS rfl fun U O=>?_;simp only [go_sem])|((with_reducible apply CallK.eq);(· with_reducible first|exact hc0|exact hc1);(· simp [RV.flat,D.sc,aa]);try simp only [go_sem])|fail)
   all_goals first
    |(exfalso;omega)
    |(refine ak rfl rfl (by simp [am,lk]) ?_;first|rfl|(simp;done)|(simp_all;done))
 ·rw [aL h0] at hc0
  rw [aL (show ¬ (di c p) from fun h=>h0 (perf_iff.1 h).1)]
  repeat' (first|((with_reducible first|(apply hK;clear hK K)|refine ah fun U O=>?_|apply ag|(apply Z<;>(intro hc;try simp at hc;try omega)))<;>try simp only [go_sem])|(with_reducible first|apply aj|(apply O;clear O U)|refine kN tK fun K hK=>?_|refine kO fun K hK=>?_|refine aI ?_)|(refine xS rfl fun U O=>?_;simp only [go_sem])|((with_reducible apply CallK.eq);(· with_reducible first|exact hc0|exact hc1);(· simp [RV.flat,D.sc,aa]);try simp only [go_sem])|fail)
  all_goals first
   |(exfalso;omega)
   |(refine ak rfl rfl (by simp [am,lk]) ?_;first|rfl|(simp;done)|(simp_all;done))
theorem qY (f:Int):FnEq Tryz.prog 119 [.d (.int .i64 f)] [.d (.bool (bP (ez f)))]:=by
 have e:bP (ez f) = (decide (10≤f) && decide (f≤400)):=by rw [Bool.eq_iff_iff,dw];simp [ez]
 rw [e]
 refine aN ae Tryz.func119 rfl rfl ?_;simp only [Tryz.ntmps119,aP,aK,Nat.reduceAdd,Nat.reduceSub,aV]
 repeat' (first|((with_reducible first|(apply hK;clear hK K)|refine ah fun U O=>?_|apply ag|(apply Z<;>(intro hc;try simp at hc;try omega)))<;>try simp only [go_sem])|(with_reducible first|apply aj|(apply O;clear O U)|refine kN yi fun K hK=>?_|refine kO fun K hK=>?_|refine aI ?_)|((with_reducible apply CallK.eq);(· with_reducible first|exact ct _ _ _);(· simp [RV.flat,D.sc,aa]);try simp only [go_sem])|fail)
 refine ak rfl rfl (by simp [am,lk]) ?_;rfl
theorem e9 (c:CodeD) (p:PerfD) (f:Int) (hcf:CdFit 1048576 c) (hpf:PfFit 1048576 p):FnEq Tryz.prog 63 [.agg c.cs,.agg p.cs,.d (.int .i64 f)] [.d (.bool (bP (bO c p f)))]:=by
 have hc0:=u9 c p hcf hpf
 have hc1:=qY f
 refine aN ae Tryz.func63 rfl rfl ?_;simp only [Tryz.ntmps63,aP,aK,Nat.reduceAdd,Nat.reduceSub,aV]
 by_cases h0:di c p
 ·rw [aW h0] at hc0
  by_cases h1:ez f
  ·rw [aW h1] at hc1
   rw [aW (show bO c p f from ⟨h0,h1⟩)]
   repeat' (first|((with_reducible first|(apply hK;clear hK K)|refine ah fun U O=>?_|apply ag|(apply Z<;>(intro hc;try simp at hc;try omega)))<;>try simp only [go_sem])|(with_reducible first|apply aj|(apply O;clear O U)|refine kN vn fun K hK=>?_|refine kO fun K hK=>?_|refine aI ?_)|(refine xS rfl fun U O=>?_;simp only [go_sem])|((with_reducible apply CallK.eq);(· with_reducible first|exact hc0|exact hc1);(· simp [RV.flat,D.sc,aa]);try simp only [go_sem])|fail)
   all_goals first
    |(exfalso;omega)
    |(refine ak rfl rfl (by simp [am,lk]) ?_;first|rfl|(simp;done)|(simp_all;done))
  ·rw [aL h1] at hc1
   rw [aL (show ¬ (bO c p f) from fun h=>h1 h.2)]
   repeat' (first|((with_reducible first|(apply hK;clear hK K)|refine ah fun U O=>?_|apply ag|(apply Z<;>(intro hc;try simp at hc;try omega)))<;>try simp only [go_sem])|(with_reducible first|apply aj|(apply O;clear O U)|refine kN vn fun K hK=>?_|refine kO fun K hK=>?_|refine aI ?_)|(refine xS rfl fun U O=>?_;simp only [go_sem])|((with_reducible apply CallK.eq);(· with_reducible first|exact hc0|exact hc1);(· simp [RV.flat,D.sc,aa]);try simp only [go_sem])|fail)
   all_goals first
    |(exfalso;omega)
    |(refine ak rfl rfl (by simp [am,lk]) ?_;first|rfl|(simp;done)|(simp_all;done))
 ·rw [aL h0] at hc0
  rw [aL (show ¬ (bO c p f) from fun h=>h0 h.1)]
  repeat' (first|((with_reducible first|(apply hK;clear hK K)|refine ah fun U O=>?_|apply ag|(apply Z<;>(intro hc;try simp at hc;try omega)))<;>try simp only [go_sem])|(with_reducible first|apply aj|(apply O;clear O U)|refine kN vn fun K hK=>?_|refine kO fun K hK=>?_|refine aI ?_)|(refine xS rfl fun U O=>?_;simp only [go_sem])|((with_reducible apply CallK.eq);(· with_reducible first|exact hc0|exact hc1);(· simp [RV.flat,D.sc,aa]);try simp only [go_sem])|fail)
  all_goals first
   |(exfalso;omega)
   |(refine ak rfl rfl (by simp [am,lk]) ?_;first|rfl|(simp;done)|(simp_all;done))
theorem n7 {c:CodeD} {p:PerfD} (h:di c p):(cj c p.items p.marks.grades).length≤1048576:=by rw [lh];have:=h.2.1.1;omega
theorem k6 (c:CodeD) (p:PerfD) (h:di c p):FnEq Tryz.prog 163 [.agg c.cs,.agg p.cs] [.d (.int .i64 (dt c p))]:=by
 have hsc:=oS c p.items p.marks h.1 h.2.1 h.2.2.1 h.2.2.2.1 h.2.2.2.2.1
 have hsu:=il (cj c p.items p.marks.grades) 15000000 (by omega) (by omega) (jx h) (n7 h)
 have e:dt c p = (cj c p.items p.marks.grades).sum:=rfl
 rw [e]
 refine aN ae Tryz.func163 rfl rfl ?_;simp only [Tryz.ntmps163,aP,aK,Nat.reduceAdd,Nat.reduceSub,aV]
 repeat' (first|((with_reducible first|(apply hK;clear hK K)|refine ah fun U O=>?_|apply ag|(apply Z<;>(intro hc;try simp at hc;try omega)))<;>try simp only [go_sem])|(with_reducible first|apply aj|(apply O;clear O U)|refine kN yy fun K hK=>?_|refine kO fun K hK=>?_|refine aI ?_)|((with_reducible apply CallK.eq);(· with_reducible first|exact hsc|exact hsu);(· simp [RV.flat,D.sc,aa]);try simp only [go_sem])|fail)
 all_goals first
  |(exfalso;omega)
  |(refine ak rfl rfl (by simp [am,lk]) ?_;rfl)
theorem sZ (c:CodeD) (p:PerfD) (f:Int) (h:bO c p f):FnEq Tryz.prog 129 [.agg c.cs,.agg p.cs,.d (.int .i64 f)] [.row 3 1 ([dt c p,dq p.marks f p.slips.falls,dV c p.slips,bF c p f].map aa)]:=by
 have hte:=k6 c p h.1
 have hsl:=h.1.2.2.2.2.2
 have hcn:=h.1.1.2.2
 have hfa:=nr p.marks f p.slips.falls h.1.2.2.2.1 h.2 hsl.1
 have hsp:=oV c p.slips hcn hsl
 have h7:=hcn.2.2.2.2.2.2.2.2.2
 have hfb:=f_ h7.1 h7.2 hsl.1 hsl.2.1
 have htb:=lE hsl.2.2.1 hsl.2.2.2.1
 have hob:=hsl.2.2.2.2
 have hsu:=il [eE c.fall p.slips.falls,eN p.slips.seconds,p.slips.other] 20000 (by omega) (by omega) (fun x hx=>by
  simp only [List.mem_cons,List.not_mem_nil,or_false] at hx
  rcases hx with rfl|rfl|rfl<;>omega) (by simp)
 rw [show [eE c.fall p.slips.falls,eN p.slips.seconds,p.slips.other].sum = dV c p.slips by simp [dV];omega] at hsu
 have h1:=l6 h.1
 have h2:=lC h.1.2.2.2.1 h.2 p.slips.falls
 have h3:=nN hcn hsl
 have e:bF c p f = max (dt c p + dq p.marks f p.slips.falls - dV c p.slips) 0:=rfl
 rw [e]
 generalize [eE c.fall p.slips.falls,eN p.slips.seconds,p.slips.other] = sl at hsp hsu
 refine aN ae Tryz.func129 rfl rfl ?_;simp only [Tryz.ntmps129,aP,aK,Nat.reduceAdd,Nat.reduceSub,aV]
 generalize dt c p = a at hte h1
 generalize dq p.marks f p.slips.falls = b at hfa h2
 generalize dV c p.slips = d at hsu h3
 repeat' (first|((with_reducible first|(apply hK;clear hK K)|refine ah fun U O=>?_|apply ag|(apply Z<;>(intro hc;try simp at hc;try omega)))<;>try simp only [go_sem])|(with_reducible first|apply aj|(apply O;clear O U)|refine kN vV fun K hK=>?_|refine kO fun K hK=>?_|refine aI ?_)|((with_reducible first|apply CallK.eq|apply CallQ.eqs);(· with_reducible first|exact hte|exact hfa|exact hsp|exact hsu);(· first|exact rfl|(simp [RV.flat,D.sc,aa];done));try simp only [go_sem])|(with_reducible refine dP vV ae 0 13 ay (by kernel_rfl) (fun K hK=>?_);simp only [List.take_succ_cons,List.take_zero,List.drop_succ_cons,List.drop_zero])|fail)
 all_goals first
  |(exfalso;omega)
  |(refine ak rfl (by simp only [bj,bn,ab,lk,ao,aK,List.length_append,List.length_take,if_true,if_false,Nat.reduceEqDiff,Nat.reduceBEq,Bool.false_eq_true,Option.some.injEq];rfl) (by simp [am,lk]) ?_;rfl)
theorem d8 (c:CodeD) (p:PerfD) (f:Int) (h:bO c p f):FnEq Tryz.prog 76 [.agg c.cs,.agg p.cs,.d (.int .i64 f)] [.d (.int .i64 (bF c p f))]:=by
 have hp:=sZ c p f h
 refine aN ae Tryz.func76 rfl rfl ?_;simp only [Tryz.ntmps76,aP,aK,Nat.reduceAdd,Nat.reduceSub,aV]
 have hl3:[dt c p,dq p.marks f p.slips.falls,dV c p.slips,bF c p f][3]? = some (bF c p f):=rfl
 have hl4:[dt c p,dq p.marks f p.slips.falls,dV c p.slips,bF c p f].length = 4:=rfl
 generalize [dt c p,dq p.marks f p.slips.falls,dV c p.slips,bF c p f] = q at hp hl3 hl4
 have h34:(3:Nat) < 4:=by decide
 have ht3:Int.toNat 3 = 3:=rfl
 generalize bF c p f = s at hl3
 repeat' (first|((with_reducible first|(apply hK;clear hK K)|refine ah fun U O=>?_|apply ag|(apply Z<;>(intro hc;try simp at hc;try omega)))<;>try simp only [go_sem,ap,hl3,hl4,h34,ht3,ar,aa])|(with_reducible first|apply aj|(apply O;clear O U)|refine kN zc fun K hK=>?_|refine kO fun K hK=>?_|refine aI ?_)|((with_reducible apply CallK.eq);(· with_reducible first|exact hp);(· simp [RV.flat,D.sc,aa]);try simp only [go_sem,ap,hl3,hl4,h34,ht3,ar,aa])|fail)
 all_goals first
  |(exfalso;omega)
  |(refine ak rfl rfl (by simp [am,lk]) ?_;rfl)
theorem nz (c:CodeD) (p:PerfD) (h:di c p):FnEq Tryz.prog 158 [.agg c.cs,.agg p.cs] [.d (.int .i64 (dt c p))]:=by
 have hsc:=q_ c p.items p.marks h.1 h.2.1 h.2.2.1 h.2.2.2.1 h.2.2.2.2.1
 have hsu:=mb (cj c p.items p.marks.grades) 15000000 (by omega) (by omega) (jx h) (n7 h)
 have e:dt c p = (cj c p.items p.marks.grades).sum:=rfl
 rw [e]
 refine aN ae Tryz.func158 rfl rfl ?_;simp only [Tryz.ntmps158,aP,aK,Nat.reduceAdd,Nat.reduceSub,aV]
 repeat' (first|((with_reducible first|(apply hK;clear hK K)|refine ah fun U O=>?_|apply ag|(apply Z<;>(intro hc;try simp at hc;try omega)))<;>try simp only [go_sem])|(with_reducible first|apply aj|(apply O;clear O U)|refine kN yx fun K hK=>?_|refine kO fun K hK=>?_|refine aI ?_)|((with_reducible apply CallK.eq);(· with_reducible first|exact hsc|exact hsu);(· simp [RV.flat,D.sc,aa]);try simp only [go_sem])|fail)
 all_goals first
  |(exfalso;omega)
  |(refine ak rfl rfl (by simp [am,lk]) ?_;rfl)
theorem tH (c:CodeD) (p:PerfD) (f:Int) (h:bO c p f):FnEq Tryz.prog 122 [.agg c.cs,.agg p.cs,.d (.int .i64 f)] [.row 3 1 ([dt c p,dq p.marks f p.slips.falls,dV c p.slips,bF c p f].map aa)]:=by
 have hte:=nz c p h.1
 have hsl:=h.1.2.2.2.2.2
 have hcn:=h.1.1.2.2
 have hfa:=oM p.marks f p.slips.falls h.1.2.2.2.1 h.2
 have hsu:=vu c p.slips hcn hsl
 have h1:=l6 h.1
 have h2:=lC h.1.2.2.2.1 h.2 p.slips.falls
 have h3:=nN hcn hsl
 have e:bF c p f = max (dt c p + dq p.marks f p.slips.falls - dV c p.slips) 0:=rfl
 have e2:max (dt c p + dq p.marks f p.slips.falls - dV c p.slips) 0 = max 0 (dt c p + dq p.marks f p.slips.falls - dV c p.slips):=by omega
 rw [e,e2]
 refine aN ae Tryz.func122 rfl rfl ?_;simp only [Tryz.ntmps122,aP,aK,Nat.reduceAdd,Nat.reduceSub,aV]
 generalize dt c p = a at hte h1
 generalize dq p.marks f p.slips.falls = b at hfa h2
 generalize dV c p.slips = d at hsu h3
 repeat' (first|((with_reducible first|(apply hK;clear hK K)|refine ah fun U O=>?_|apply ag|(apply Z<;>(intro hc;try simp at hc;try omega)))<;>try simp only [go_sem])|(with_reducible first|apply aj|(apply O;clear O U)|refine kN wD fun K hK=>?_|refine kO fun K hK=>?_|refine aI ?_)|((with_reducible first|apply CallK.eq|apply CallQ.eqs);(· with_reducible first|exact hte|exact hfa|exact hsu|exact gC _ _);(· first|exact rfl|(simp [RV.flat,D.sc,aa];done));try simp only [go_sem])|(with_reducible refine az wD ae ay (by kernel_rfl) (fun K hK=>?_))|(with_reducible refine aO ae ay (by kernel_rfl) ?_)|fail)
 all_goals first
  |(exfalso;omega)
  |(refine ak rfl (by simp only [bj,bn,ab,lk,ao,aK,List.length_append,List.length_take,if_true,if_false,Nat.reduceEqDiff,Nat.reduceBEq,Bool.false_eq_true,Option.some.injEq];rfl) (by simp [am,lk]) ?_;rfl)
theorem ii (c:CodeD) (p:PerfD) (f:Int) (h:bO c p f):FnEq Tryz.prog 66 [.agg c.cs,.agg p.cs,.d (.int .i64 f)] [.d (.int .i64 (bF c p f))]:=by
 have hp:=tH c p f h
 refine aN ae Tryz.func66 rfl rfl ?_;simp only [Tryz.ntmps66,aP,aK,Nat.reduceAdd,Nat.reduceSub,aV]
 have hl3:[dt c p,dq p.marks f p.slips.falls,dV c p.slips,bF c p f][3]? = some (bF c p f):=rfl
 have hl4:[dt c p,dq p.marks f p.slips.falls,dV c p.slips,bF c p f].length = 4:=rfl
 generalize [dt c p,dq p.marks f p.slips.falls,dV c p.slips,bF c p f] = q at hp hl3 hl4
 have h34:(3:Nat) < 4:=by decide
 have ht3:Int.toNat 3 = 3:=rfl
 generalize bF c p f = s at hl3
 repeat' (first|((with_reducible first|(apply hK;clear hK K)|refine ah fun U O=>?_|apply ag|(apply Z<;>(intro hc;try simp at hc;try omega)))<;>try simp only [go_sem,ap,hl3,hl4,h34,ht3,ar,aa])|(with_reducible first|apply aj|(apply O;clear O U)|refine kN yU fun K hK=>?_|refine kO fun K hK=>?_|refine aI ?_)|((with_reducible apply CallK.eq);(· with_reducible first|exact hp);(· simp [RV.flat,D.sc,aa]);try simp only [go_sem,ap,hl3,hl4,h34,ht3,ar,aa])|fail)
 all_goals first
  |(exfalso;omega)
  |(refine ak rfl rfl (by simp [am,lk]) ?_;rfl)
end Go.Proofs.YtphakidbddamfaaGreat
