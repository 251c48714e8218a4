/-
  Segment scores: the program's functions and the reference's, in the abstract machine.
-/
import Derived.Test.YtphakidbddamfaaGreatZSy
import Derived.Test.YtphakidbddamfaaGreatZSz
import Derived.Test.YtphakidbddamfaaGreatZSv
set_option linter.unusedSimpArgs false
set_option linter.unusedVariables false
set_option maxHeartbeats 2000000
set_option maxRecDepth 100000
namespace Go.Proofs.YtphakidbddamfaaGreat
open Go.RowKit

def JudOk (c : CodeD) (l : List ItemD) (m : MarksD) : Prop := CodeOk c ∧ ItsOk l ∧ KnownL c l ∧ AreMk m (l.length : Nat)
theorem perf_iff {c : CodeD} {p : PerfD} : PerfOk c p ↔ JudOk c p.items p.marks ∧ SlipsOk p.slips := by
  unfold PerfOk JudOk AreMk
  constructor
  · rintro ⟨h1, h2, h3, h4, h5, h6⟩; exact ⟨⟨h1, h2, h3, h4, by omega⟩, h6⟩
  · rintro ⟨⟨h1, h2, h3, h4, h5⟩, h6⟩; exact ⟨h1, h2, h3, h4, by omega, h6⟩
theorem belong_ok (c : CodeD) (l : List ItemD) (m : MarksD) (hcf : CdFit 1048576 c) (hn : l.length ≤ 1048576) (hs : ∀ r ∈ l, ItFit 1048576 r) (hmf : MkFit 1048576 m) : FnEq Tryz.prog 179 [.agg c.cs, .d (.lst 3 (l.map ItemD.dat)), .agg m.cs] [.d (.bool (bP (KnownL c l ∧ AreMk m (l.length : Nat))))] := by
  have hcf63 : CdFit 9223372036854775807 c := hcf.mono (by decide)
  have hs63 : ∀ r ∈ l, ItFit 9223372036854775807 r := fun r hr => (hs r hr).mono (by decide)
  have hn63 : l.length ≤ 9223372036854775807 := by omega
  have hel : c.elements.length ≤ 16777216 := by have := hcf.1; omega
  have hc0 := isKnown_ok c l hel hn63 hs63
  have hc1 := AreMarks_ok m (l.length : Nat) hmf
  refine fn_ok G_ok Tryz.func179 rfl rfl ?_; simp only [Tryz.ntmps179, List.length_cons, List.length_nil, Nat.reduceAdd, Nat.reduceSub, enm]
  by_cases h0 : KnownL c l
  · rw [bP_true h0] at hc0
    by_cases h1 : AreMk m (l.length : Nat)
    · rw [bP_true h1] at hc1
      rw [bP_true (show KnownL c l ∧ AreMk m (l.length : Nat) from ⟨h0, h1⟩)]
      repeat' (first | ((with_reducible first | (refine hK _ ?_; clear hK K) | refine stq fun K' hK' => ?_ | refine stc ?_); try simp only [go_sem]) | (with_reducible first | refine stp ?_ | (refine hK' _ ?_; clear hK' K') | refine kN kl179 fun K hK => ?_ | refine kO fun K hK => ?_) | (refine xS rfl fun K' hK' => ?_; simp only [go_sem]) | ((with_reducible apply CallK.eq); (· with_reducible first | exact hc0 | exact hc1); (· simp [RV.flat, D.sc, datI]); try simp only [go_sem]) | (with_reducible refine pK_mk ?_ ?_ <;> (intro hc; (try simp only [go_sem]); (try simp at hc); try (exfalso; omega))) | with_reducible refine And.intro (by first | omega | (unfold inI; omega)) ?_)
      all_goals first
        | (exfalso; omega)
        | (refine retQ_ret rfl rfl (by simp [rowsOf, lk]) ?_; first | rfl | (simp; done) | (simp_all; done))
    · rw [bP_false h1] at hc1
      rw [bP_false (show ¬ (KnownL c l ∧ AreMk m (l.length : Nat)) from fun h => h1 h.2)]
      repeat' (first | ((with_reducible first | (refine hK _ ?_; clear hK K) | refine stq fun K' hK' => ?_ | refine stc ?_); try simp only [go_sem]) | (with_reducible first | refine stp ?_ | (refine hK' _ ?_; clear hK' K') | refine kN kl179 fun K hK => ?_ | refine kO fun K hK => ?_) | (refine xS rfl fun K' hK' => ?_; simp only [go_sem]) | ((with_reducible apply CallK.eq); (· with_reducible first | exact hc0 | exact hc1); (· simp [RV.flat, D.sc, datI]); try simp only [go_sem]) | (with_reducible refine pK_mk ?_ ?_ <;> (intro hc; (try simp only [go_sem]); (try simp at hc); try (exfalso; omega))) | with_reducible refine And.intro (by first | omega | (unfold inI; omega)) ?_)
      all_goals first
        | (exfalso; omega)
        | (refine retQ_ret rfl rfl (by simp [rowsOf, lk]) ?_; first | rfl | (simp; done) | (simp_all; done))
  · rw [bP_false h0] at hc0
    rw [bP_false (show ¬ (KnownL c l ∧ AreMk m (l.length : Nat)) from fun h => h0 h.1)]
    repeat' (first | ((with_reducible first | (refine hK _ ?_; clear hK K) | refine stq fun K' hK' => ?_ | refine stc ?_); try simp only [go_sem]) | (with_reducible first | refine stp ?_ | (refine hK' _ ?_; clear hK' K') | refine kN kl179 fun K hK => ?_ | refine kO fun K hK => ?_) | (refine xS rfl fun K' hK' => ?_; simp only [go_sem]) | ((with_reducible apply CallK.eq); (· with_reducible first | exact hc0 | exact hc1); (· simp [RV.flat, D.sc, datI]); try simp only [go_sem]) | (with_reducible refine pK_mk ?_ ?_ <;> (intro hc; (try simp only [go_sem]); (try simp at hc); try (exfalso; omega))) | with_reducible refine And.intro (by first | omega | (unfold inI; omega)) ?_)
    all_goals first
      | (exfalso; omega)
      | (refine retQ_ret rfl rfl (by simp [rowsOf, lk]) ?_; first | rfl | (simp; done) | (simp_all; done))
theorem areJudged_ok (c : CodeD) (l : List ItemD) (m : MarksD) (hcf : CdFit 1048576 c) (hn : l.length ≤ 1048576) (hs : ∀ r ∈ l, ItFit 1048576 r) (hmf : MkFit 1048576 m) : FnEq Tryz.prog 142 [.agg c.cs, .d (.lst 3 (l.map ItemD.dat)), .agg m.cs] [.d (.bool (bP (JudOk c l m)))] := by
  have hcf63 : CdFit 9223372036854775807 c := hcf.mono (by decide)
  have hs63 : ∀ r ∈ l, ItFit 9223372036854775807 r := fun r hr => (hs r hr).mono (by decide)
  have hn63 : l.length ≤ 9223372036854775807 := by omega
  have hel : c.elements.length ≤ 16777216 := by have := hcf.1; omega
  have hc0 := IsCode_ok c hcf63
  have hc1 := AreItems_ok l hn63 hs63
  have hc2 := belong_ok c l m hcf hn hs hmf
  refine fn_ok G_ok Tryz.func142 rfl rfl ?_; simp only [Tryz.ntmps142, List.length_cons, List.length_nil, Nat.reduceAdd, Nat.reduceSub, enm]
  by_cases h0 : CodeOk c
  · rw [bP_true h0] at hc0
    by_cases h1 : ItsOk l
    · rw [bP_true h1] at hc1
      by_cases h2 : KnownL c l ∧ AreMk m (l.length : Nat)
      · rw [bP_true h2] at hc2
        rw [bP_true (show JudOk c l m from ⟨h0, h1, h2.1, h2.2⟩)]
        repeat' (first | ((with_reducible first | (refine hK _ ?_; clear hK K) | refine stq fun K' hK' => ?_ | refine stc ?_); try simp only [go_sem]) | (with_reducible first | refine stp ?_ | (refine hK' _ ?_; clear hK' K') | refine kN kl142 fun K hK => ?_ | refine kO fun K hK => ?_) | (refine xS rfl fun K' hK' => ?_; simp only [go_sem]) | ((with_reducible apply CallK.eq); (· with_reducible first | exact hc0 | exact hc1 | exact hc2); (· simp [RV.flat, D.sc, datI]); try simp only [go_sem]) | (with_reducible refine pK_mk ?_ ?_ <;> (intro hc; (try simp only [go_sem]); (try simp at hc); try (exfalso; omega))) | with_reducible refine And.intro (by first | omega | (unfold inI; omega)) ?_)
        all_goals first
          | (exfalso; omega)
          | (refine retQ_ret rfl rfl (by simp [rowsOf, lk]) ?_; first | rfl | (simp; done) | (simp_all; done))
      · rw [bP_false h2] at hc2
        rw [bP_false (show ¬ (JudOk c l m) from fun h => h2 ⟨h.2.2.1, h.2.2.2⟩)]
        repeat' (first | ((with_reducible first | (refine hK _ ?_; clear hK K) | refine stq fun K' hK' => ?_ | refine stc ?_); try simp only [go_sem]) | (with_reducible first | refine stp ?_ | (refine hK' _ ?_; clear hK' K') | refine kN kl142 fun K hK => ?_ | refine kO fun K hK => ?_) | (refine xS rfl fun K' hK' => ?_; simp only [go_sem]) | ((with_reducible apply CallK.eq); (· with_reducible first | exact hc0 | exact hc1 | exact hc2); (· simp [RV.flat, D.sc, datI]); try simp only [go_sem]) | (with_reducible refine pK_mk ?_ ?_ <;> (intro hc; (try simp only [go_sem]); (try simp at hc); try (exfalso; omega))) | with_reducible refine And.intro (by first | omega | (unfold inI; omega)) ?_)
        all_goals first
          | (exfalso; omega)
          | (refine retQ_ret rfl rfl (by simp [rowsOf, lk]) ?_; first | rfl | (simp; done) | (simp_all; done))
    · rw [bP_false h1] at hc1
      rw [bP_false (show ¬ (JudOk c l m) from fun h => h1 h.2.1)]
      repeat' (first | ((with_reducible first | (refine hK _ ?_; clear hK K) | refine stq fun K' hK' => ?_ | refine stc ?_); try simp only [go_sem]) | (with_reducible first | refine stp ?_ | (refine hK' _ ?_; clear hK' K') | refine kN kl142 fun K hK => ?_ | refine kO fun K hK => ?_) | (refine xS rfl fun K' hK' => ?_; simp only [go_sem]) | ((with_reducible apply CallK.eq); (· with_reducible first | exact hc0 | exact hc1 | exact hc2); (· simp [RV.flat, D.sc, datI]); try simp only [go_sem]) | (with_reducible refine pK_mk ?_ ?_ <;> (intro hc; (try simp only [go_sem]); (try simp at hc); try (exfalso; omega))) | with_reducible refine And.intro (by first | omega | (unfold inI; omega)) ?_)
      all_goals first
        | (exfalso; omega)
        | (refine retQ_ret rfl rfl (by simp [rowsOf, lk]) ?_; first | rfl | (simp; done) | (simp_all; done))
  · rw [bP_false h0] at hc0
    rw [bP_false (show ¬ (JudOk c l m) from fun h => h0 h.1)]
    repeat' (first | ((with_reducible first | (refine hK _ ?_; clear hK K) | refine stq fun K' hK' => ?_ | refine stc ?_); try simp only [go_sem]) | (with_reducible first | refine stp ?_ | (refine hK' _ ?_; clear hK' K') | refine kN kl142 fun K hK => ?_ | refine kO fun K hK => ?_) | (refine xS rfl fun K' hK' => ?_; simp only [go_sem]) | ((with_reducible apply CallK.eq); (· with_reducible first | exact hc0 | exact hc1 | exact hc2); (· simp [RV.flat, D.sc, datI]); try simp only [go_sem]) | (with_reducible refine pK_mk ?_ ?_ <;> (intro hc; (try simp only [go_sem]); (try simp at hc); try (exfalso; omega))) | with_reducible refine And.intro (by first | omega | (unfold inI; omega)) ?_)
    all_goals first
      | (exfalso; omega)
      | (refine retQ_ret rfl rfl (by simp [rowsOf, lk]) ?_; first | rfl | (simp; done) | (simp_all; done))
theorem isPerformance_ok (c : CodeD) (p : PerfD) (hcf : CdFit 1048576 c) (hpf : PfFit 1048576 p) : FnEq Tryz.prog 98 [.agg c.cs, .agg p.cs] [.d (.bool (bP (PerfOk c p)))] := by
  obtain ⟨⟨hn, hs⟩, hmf⟩ := hpf
  have hc0 := areJudged_ok c p.items p.marks hcf hn hs hmf
  have hc1 := AreSlips_ok p.slips
  refine fn_ok G_ok Tryz.func98 rfl rfl ?_; simp only [Tryz.ntmps98, List.length_cons, List.length_nil, Nat.reduceAdd, Nat.reduceSub, enm]
  by_cases h0 : JudOk c p.items p.marks
  · rw [bP_true h0] at hc0
    by_cases h1 : SlipsOk p.slips
    · rw [bP_true h1] at hc1
      rw [bP_true (show PerfOk c p from perf_iff.2 ⟨h0, h1⟩)]
      repeat' (first | ((with_reducible first | (refine hK _ ?_; clear hK K) | refine stq fun K' hK' => ?_ | refine stc ?_); try simp only [go_sem]) | (with_reducible first | refine stp ?_ | (refine hK' _ ?_; clear hK' K') | refine kN kl98 fun K hK => ?_ | refine kO fun K hK => ?_) | (refine xS rfl fun K' hK' => ?_; simp only [go_sem]) | ((with_reducible apply CallK.eq); (· with_reducible first | exact hc0 | exact hc1); (· simp [RV.flat, D.sc, datI]); try simp only [go_sem]) | (with_reducible refine pK_mk ?_ ?_ <;> (intro hc; (try simp only [go_sem]); (try simp at hc); try (exfalso; omega))) | with_reducible refine And.intro (by first | omega | (unfold inI; omega)) ?_)
      all_goals first
        | (exfalso; omega)
        | (refine retQ_ret rfl rfl (by simp [rowsOf, lk]) ?_; first | rfl | (simp; done) | (simp_all; done))
    · rw [bP_false h1] at hc1
      rw [bP_false (show ¬ (PerfOk c p) from fun h => h1 (perf_iff.1 h).2)]
      repeat' (first | ((with_reducible first | (refine hK _ ?_; clear hK K) | refine stq fun K' hK' => ?_ | refine stc ?_); try simp only [go_sem]) | (with_reducible first | refine stp ?_ | (refine hK' _ ?_; clear hK' K') | refine kN kl98 fun K hK => ?_ | refine kO fun K hK => ?_) | (refine xS rfl fun K' hK' => ?_; simp only [go_sem]) | ((with_reducible apply CallK.eq); (· with_reducible first | exact hc0 | exact hc1); (· simp [RV.flat, D.sc, datI]); try simp only [go_sem]) | (with_reducible refine pK_mk ?_ ?_ <;> (intro hc; (try simp only [go_sem]); (try simp at hc); try (exfalso; omega))) | with_reducible refine And.intro (by first | omega | (unfold inI; omega)) ?_)
      all_goals first
        | (exfalso; omega)
        | (refine retQ_ret rfl rfl (by simp [rowsOf, lk]) ?_; first | rfl | (simp; done) | (simp_all; done))
  · rw [bP_false h0] at hc0
    rw [bP_false (show ¬ (PerfOk c p) from fun h => h0 (perf_iff.1 h).1)]
    repeat' (first | ((with_reducible first | (refine hK _ ?_; clear hK K) | refine stq fun K' hK' => ?_ | refine stc ?_); try simp only [go_sem]) | (with_reducible first | refine stp ?_ | (refine hK' _ ?_; clear hK' K') | refine kN kl98 fun K hK => ?_ | refine kO fun K hK => ?_) | (refine xS rfl fun K' hK' => ?_; simp only [go_sem]) | ((with_reducible apply CallK.eq); (· with_reducible first | exact hc0 | exact hc1); (· simp [RV.flat, D.sc, datI]); try simp only [go_sem]) | (with_reducible refine pK_mk ?_ ?_ <;> (intro hc; (try simp only [go_sem]); (try simp at hc); try (exfalso; omega))) | with_reducible refine And.intro (by first | omega | (unfold inI; omega)) ?_)
    all_goals first
      | (exfalso; omega)
      | (refine retQ_ret rfl rfl (by simp [rowsOf, lk]) ?_; first | rfl | (simp; done) | (simp_all; done))
theorem isFactor_ok (f : Int) : FnEq Tryz.prog 126 [.d (.int .i64 f)] [.d (.bool (bP (FactOk f)))] := by
  have e : bP (FactOk f) = (decide (10 ≤ f) && decide (f ≤ 400)) := by rw [Bool.eq_iff_iff, bP_iff]; simp [FactOk]
  rw [e]
  refine fn_ok G_ok Tryz.func126 rfl rfl ?_; simp only [Tryz.ntmps126, List.length_cons, List.length_nil, Nat.reduceAdd, Nat.reduceSub, enm]
  repeat' (first | ((with_reducible first | (refine hK _ ?_; clear hK K) | refine stq fun K' hK' => ?_ | refine stc ?_); try simp only [go_sem]) | (with_reducible first | refine stp ?_ | (refine hK' _ ?_; clear hK' K') | refine kN kl126 fun K hK => ?_ | refine kO fun K hK => ?_) | ((with_reducible apply CallK.eq); (· with_reducible first | exact within_ok _ _ _); (· simp [RV.flat, D.sc, datI]); try simp only [go_sem]) | (with_reducible refine pK_mk ?_ ?_ <;> (intro hc; (try simp only [go_sem]); (try simp at hc); try (exfalso; omega))) | with_reducible refine And.intro (by first | omega | (unfold inI; omega)) ?_)
  refine retQ_ret rfl rfl (by simp [rowsOf, lk]) ?_; rfl
theorem canScore_ok (c : CodeD) (p : PerfD) (f : Int) (hcf : CdFit 1048576 c) (hpf : PfFit 1048576 p) : FnEq Tryz.prog 72 [.agg c.cs, .agg p.cs, .d (.int .i64 f)] [.d (.bool (bP (AskP c p f)))] := by
  have hc0 := isPerformance_ok c p hcf hpf
  have hc1 := isFactor_ok f
  refine fn_ok G_ok Tryz.func72 rfl rfl ?_; simp only [Tryz.ntmps72, List.length_cons, List.length_nil, Nat.reduceAdd, Nat.reduceSub, enm]
  by_cases h0 : PerfOk c p
  · rw [bP_true h0] at hc0
    by_cases h1 : FactOk f
    · rw [bP_true h1] at hc1
      rw [bP_true (show AskP c p f from ⟨h0, h1⟩)]
      repeat' (first | ((with_reducible first | (refine hK _ ?_; clear hK K) | refine stq fun K' hK' => ?_ | refine stc ?_); try simp only [go_sem]) | (with_reducible first | refine stp ?_ | (refine hK' _ ?_; clear hK' K') | refine kN kl72 fun K hK => ?_ | refine kO fun K hK => ?_) | (refine xS rfl fun K' hK' => ?_; simp only [go_sem]) | ((with_reducible apply CallK.eq); (· with_reducible first | exact hc0 | exact hc1); (· simp [RV.flat, D.sc, datI]); try simp only [go_sem]) | (with_reducible refine pK_mk ?_ ?_ <;> (intro hc; (try simp only [go_sem]); (try simp at hc); try (exfalso; omega))) | with_reducible refine And.intro (by first | omega | (unfold inI; omega)) ?_)
      all_goals first
        | (exfalso; omega)
        | (refine retQ_ret rfl rfl (by simp [rowsOf, lk]) ?_; first | rfl | (simp; done) | (simp_all; done))
    · rw [bP_false h1] at hc1
      rw [bP_false (show ¬ (AskP c p f) from fun h => h1 h.2)]
      repeat' (first | ((with_reducible first | (refine hK _ ?_; clear hK K) | refine stq fun K' hK' => ?_ | refine stc ?_); try simp only [go_sem]) | (with_reducible first | refine stp ?_ | (refine hK' _ ?_; clear hK' K') | refine kN kl72 fun K hK => ?_ | refine kO fun K hK => ?_) | (refine xS rfl fun K' hK' => ?_; simp only [go_sem]) | ((with_reducible apply CallK.eq); (· with_reducible first | exact hc0 | exact hc1); (· simp [RV.flat, D.sc, datI]); try simp only [go_sem]) | (with_reducible refine pK_mk ?_ ?_ <;> (intro hc; (try simp only [go_sem]); (try simp at hc); try (exfalso; omega))) | with_reducible refine And.intro (by first | omega | (unfold inI; omega)) ?_)
      all_goals first
        | (exfalso; omega)
        | (refine retQ_ret rfl rfl (by simp [rowsOf, lk]) ?_; first | rfl | (simp; done) | (simp_all; done))
  · rw [bP_false h0] at hc0
    rw [bP_false (show ¬ (AskP c p f) from fun h => h0 h.1)]
    repeat' (first | ((with_reducible first | (refine hK _ ?_; clear hK K) | refine stq fun K' hK' => ?_ | refine stc ?_); try simp only [go_sem]) | (with_reducible first | refine stp ?_ | (refine hK' _ ?_; clear hK' K') | refine kN kl72 fun K hK => ?_ | refine kO fun K hK => ?_) | (refine xS rfl fun K' hK' => ?_; simp only [go_sem]) | ((with_reducible apply CallK.eq); (· with_reducible first | exact hc0 | exact hc1); (· simp [RV.flat, D.sc, datI]); try simp only [go_sem]) | (with_reducible refine pK_mk ?_ ?_ <;> (intro hc; (try simp only [go_sem]); (try simp at hc); try (exfalso; omega))) | with_reducible refine And.intro (by first | omega | (unfold inI; omega)) ?_)
    all_goals first
      | (exfalso; omega)
      | (refine retQ_ret rfl rfl (by simp [rowsOf, lk]) ?_; first | rfl | (simp; done) | (simp_all; done))
theorem bsGood_ok (c : CodeD) (l : List ItemD) (hcf : CdFit 1048576 c) (hn : l.length ≤ 1048576) (hs : ∀ r ∈ l, ItFit 1048576 r) : FnEq Tryz.prog 181 [.agg c.cs, .d (.lst 3 (l.map ItemD.dat))] [.d (.bool (bP (CodeOk c ∧ ItsOk l ∧ KnownL c l)))] := by
  have hcf63 : CdFit 9223372036854775807 c := hcf.mono (by decide)
  have hs63 : ∀ r ∈ l, ItFit 9223372036854775807 r := fun r hr => (hs r hr).mono (by decide)
  have hn63 : l.length ≤ 9223372036854775807 := by omega
  have hel : c.elements.length ≤ 16777216 := by have := hcf.1; omega
  have hc0 := cdGood_ok c hcf63
  have hc1 := itList_ok l hn63 hs63
  have hc2 := bsKnows_ok c l hel hn63 hs63
  refine fn_ok G_ok Tryz.func181 rfl rfl ?_; simp only [Tryz.ntmps181, List.length_cons, List.length_nil, Nat.reduceAdd, Nat.reduceSub, enm]
  by_cases h0 : CodeOk c
  · rw [bP_true h0] at hc0
    by_cases h1 : ItsOk l
    · rw [bP_true h1] at hc1
      by_cases h2 : KnownL c l
      · rw [bP_true h2] at hc2
        rw [bP_true (show CodeOk c ∧ ItsOk l ∧ KnownL c l from ⟨h0, h1, h2⟩)]
        repeat' (first | ((with_reducible first | (refine hK _ ?_; clear hK K) | refine stq fun K' hK' => ?_ | refine stc ?_); try simp only [go_sem]) | (with_reducible first | refine stp ?_ | (refine hK' _ ?_; clear hK' K') | refine kN kl181 fun K hK => ?_ | refine kO fun K hK => ?_) | (refine xS rfl fun K' hK' => ?_; simp only [go_sem]) | ((with_reducible apply CallK.eq); (· with_reducible first | exact hc0 | exact hc1 | exact hc2); (· simp [RV.flat, D.sc, datI]); try simp only [go_sem]) | (with_reducible refine pK_mk ?_ ?_ <;> (intro hc; (try simp only [go_sem]); (try simp at hc); try (exfalso; omega))) | with_reducible refine And.intro (by first | omega | (unfold inI; omega)) ?_)
        all_goals first
          | (exfalso; omega)
          | (refine retQ_ret rfl rfl (by simp [rowsOf, lk]) ?_; first | rfl | (simp; done) | (simp_all; done))
      · rw [bP_false h2] at hc2
        rw [bP_false (show ¬ (CodeOk c ∧ ItsOk l ∧ KnownL c l) from fun h => h2 h.2.2)]
        repeat' (first | ((with_reducible first | (refine hK _ ?_; clear hK K) | refine stq fun K' hK' => ?_ | refine stc ?_); try simp only [go_sem]) | (with_reducible first | refine stp ?_ | (refine hK' _ ?_; clear hK' K') | refine kN kl181 fun K hK => ?_ | refine kO fun K hK => ?_) | (refine xS rfl fun K' hK' => ?_; simp only [go_sem]) | ((with_reducible apply CallK.eq); (· with_reducible first | exact hc0 | exact hc1 | exact hc2); (· simp [RV.flat, D.sc, datI]); try simp only [go_sem]) | (with_reducible refine pK_mk ?_ ?_ <;> (intro hc; (try simp only [go_sem]); (try simp at hc); try (exfalso; omega))) | with_reducible refine And.intro (by first | omega | (unfold inI; omega)) ?_)
        all_goals first
          | (exfalso; omega)
          | (refine retQ_ret rfl rfl (by simp [rowsOf, lk]) ?_; first | rfl | (simp; done) | (simp_all; done))
    · rw [bP_false h1] at hc1
      rw [bP_false (show ¬ (CodeOk c ∧ ItsOk l ∧ KnownL c l) from fun h => h1 h.2.1)]
      repeat' (first | ((with_reducible first | (refine hK _ ?_; clear hK K) | refine stq fun K' hK' => ?_ | refine stc ?_); try simp only [go_sem]) | (with_reducible first | refine stp ?_ | (refine hK' _ ?_; clear hK' K') | refine kN kl181 fun K hK => ?_ | refine kO fun K hK => ?_) | (refine xS rfl fun K' hK' => ?_; simp only [go_sem]) | ((with_reducible apply CallK.eq); (· with_reducible first | exact hc0 | exact hc1 | exact hc2); (· simp [RV.flat, D.sc, datI]); try simp only [go_sem]) | (with_reducible refine pK_mk ?_ ?_ <;> (intro hc; (try simp only [go_sem]); (try simp at hc); try (exfalso; omega))) | with_reducible refine And.intro (by first | omega | (unfold inI; omega)) ?_)
      all_goals first
        | (exfalso; omega)
        | (refine retQ_ret rfl rfl (by simp [rowsOf, lk]) ?_; first | rfl | (simp; done) | (simp_all; done))
  · rw [bP_false h0] at hc0
    rw [bP_false (show ¬ (CodeOk c ∧ ItsOk l ∧ KnownL c l) from fun h => h0 h.1)]
    repeat' (first | ((with_reducible first | (refine hK _ ?_; clear hK K) | refine stq fun K' hK' => ?_ | refine stc ?_); try simp only [go_sem]) | (with_reducible first | refine stp ?_ | (refine hK' _ ?_; clear hK' K') | refine kN kl181 fun K hK => ?_ | refine kO fun K hK => ?_) | (refine xS rfl fun K' hK' => ?_; simp only [go_sem]) | ((with_reducible apply CallK.eq); (· with_reducible first | exact hc0 | exact hc1 | exact hc2); (· simp [RV.flat, D.sc, datI]); try simp only [go_sem]) | (with_reducible refine pK_mk ?_ ?_ <;> (intro hc; (try simp only [go_sem]); (try simp at hc); try (exfalso; omega))) | with_reducible refine And.intro (by first | omega | (unfold inI; omega)) ?_)
    all_goals first
      | (exfalso; omega)
      | (refine retQ_ret rfl rfl (by simp [rowsOf, lk]) ?_; first | rfl | (simp; done) | (simp_all; done))
theorem elGood_ok (c : CodeD) (l : List ItemD) (m : MarksD) (hcf : CdFit 1048576 c) (hn : l.length ≤ 1048576) (hs : ∀ r ∈ l, ItFit 1048576 r) (hmf : MkFit 1048576 m) : FnEq Tryz.prog 147 [.agg c.cs, .d (.lst 3 (l.map ItemD.dat)), .agg m.cs] [.d (.bool (bP (JudOk c l m)))] := by
  have hcf63 : CdFit 9223372036854775807 c := hcf.mono (by decide)
  have hs63 : ∀ r ∈ l, ItFit 9223372036854775807 r := fun r hr => (hs r hr).mono (by decide)
  have hn63 : l.length ≤ 9223372036854775807 := by omega
  have hel : c.elements.length ≤ 16777216 := by have := hcf.1; omega
  have hc0 := bsGood_ok c l hcf hn hs
  have hc1 := mkGood_ok m (l.length : Nat) hmf
  refine fn_ok G_ok Tryz.func147 rfl rfl ?_; simp only [Tryz.ntmps147, List.length_cons, List.length_nil, Nat.reduceAdd, Nat.reduceSub, enm]
  by_cases h0 : CodeOk c ∧ ItsOk l ∧ KnownL c l
  · rw [bP_true h0] at hc0
    by_cases h1 : AreMk m (l.length : Nat)
    · rw [bP_true h1] at hc1
      rw [bP_true (show JudOk c l m from ⟨h0.1, h0.2.1, h0.2.2, h1⟩)]
      repeat' (first | ((with_reducible first | (refine hK _ ?_; clear hK K) | refine stq fun K' hK' => ?_ | refine stc ?_); try simp only [go_sem]) | (with_reducible first | refine stp ?_ | (refine hK' _ ?_; clear hK' K') | refine kN kl147 fun K hK => ?_ | refine kO fun K hK => ?_) | (refine xS rfl fun K' hK' => ?_; simp only [go_sem]) | ((with_reducible apply CallK.eq); (· with_reducible first | exact hc0 | exact hc1); (· simp [RV.flat, D.sc, datI]); try simp only [go_sem]) | (with_reducible refine pK_mk ?_ ?_ <;> (intro hc; (try simp only [go_sem]); (try simp at hc); try (exfalso; omega))) | with_reducible refine And.intro (by first | omega | (unfold inI; omega)) ?_)
      all_goals first
        | (exfalso; omega)
        | (refine retQ_ret rfl rfl (by simp [rowsOf, lk]) ?_; first | rfl | (simp; done) | (simp_all; done))
    · rw [bP_false h1] at hc1
      rw [bP_false (show ¬ (JudOk c l m) from fun h => h1 h.2.2.2)]
      repeat' (first | ((with_reducible first | (refine hK _ ?_; clear hK K) | refine stq fun K' hK' => ?_ | refine stc ?_); try simp only [go_sem]) | (with_reducible first | refine stp ?_ | (refine hK' _ ?_; clear hK' K') | refine kN kl147 fun K hK => ?_ | refine kO fun K hK => ?_) | (refine xS rfl fun K' hK' => ?_; simp only [go_sem]) | ((with_reducible apply CallK.eq); (· with_reducible first | exact hc0 | exact hc1); (· simp [RV.flat, D.sc, datI]); try simp only [go_sem]) | (with_reducible refine pK_mk ?_ ?_ <;> (intro hc; (try simp only [go_sem]); (try simp at hc); try (exfalso; omega))) | with_reducible refine And.intro (by first | omega | (unfold inI; omega)) ?_)
      all_goals first
        | (exfalso; omega)
        | (refine retQ_ret rfl rfl (by simp [rowsOf, lk]) ?_; first | rfl | (simp; done) | (simp_all; done))
  · rw [bP_false h0] at hc0
    rw [bP_false (show ¬ (JudOk c l m) from fun h => h0 ⟨h.1, h.2.1, h.2.2.1⟩)]
    repeat' (first | ((with_reducible first | (refine hK _ ?_; clear hK K) | refine stq fun K' hK' => ?_ | refine stc ?_); try simp only [go_sem]) | (with_reducible first | refine stp ?_ | (refine hK' _ ?_; clear hK' K') | refine kN kl147 fun K hK => ?_ | refine kO fun K hK => ?_) | (refine xS rfl fun K' hK' => ?_; simp only [go_sem]) | ((with_reducible apply CallK.eq); (· with_reducible first | exact hc0 | exact hc1); (· simp [RV.flat, D.sc, datI]); try simp only [go_sem]) | (with_reducible refine pK_mk ?_ ?_ <;> (intro hc; (try simp only [go_sem]); (try simp at hc); try (exfalso; omega))) | with_reducible refine And.intro (by first | omega | (unfold inI; omega)) ?_)
    all_goals first
      | (exfalso; omega)
      | (refine retQ_ret rfl rfl (by simp [rowsOf, lk]) ?_; first | rfl | (simp; done) | (simp_all; done))
theorem sgGood_ok (c : CodeD) (p : PerfD) (hcf : CdFit 1048576 c) (hpf : PfFit 1048576 p) : FnEq Tryz.prog 102 [.agg c.cs, .agg p.cs] [.d (.bool (bP (PerfOk c p)))] := by
  obtain ⟨⟨hn, hs⟩, hmf⟩ := hpf
  have hc0 := elGood_ok c p.items p.marks hcf hn hs hmf
  have hc1 := dcGood_ok p.slips
  refine fn_ok G_ok Tryz.func102 rfl rfl ?_; simp only [Tryz.ntmps102, List.length_cons, List.length_nil, Nat.reduceAdd, Nat.reduceSub, enm]
  by_cases h0 : JudOk c p.items p.marks
  · rw [bP_true h0] at hc0
    by_cases h1 : SlipsOk p.slips
    · rw [bP_true h1] at hc1
      rw [bP_true (show PerfOk c p from perf_iff.2 ⟨h0, h1⟩)]
      repeat' (first | ((with_reducible first | (refine hK _ ?_; clear hK K) | refine stq fun K' hK' => ?_ | refine stc ?_); try simp only [go_sem]) | (with_reducible first | refine stp ?_ | (refine hK' _ ?_; clear hK' K') | refine kN kl102 fun K hK => ?_ | refine kO fun K hK => ?_) | (refine xS rfl fun K' hK' => ?_; simp only [go_sem]) | ((with_reducible apply CallK.eq); (· with_reducible first | exact hc0 | exact hc1); (· simp [RV.flat, D.sc, datI]); try simp only [go_sem]) | (with_reducible refine pK_mk ?_ ?_ <;> (intro hc; (try simp only [go_sem]); (try simp at hc); try (exfalso; omega))) | with_reducible refine And.intro (by first | omega | (unfold inI; omega)) ?_)
      all_goals first
        | (exfalso; omega)
        | (refine retQ_ret rfl rfl (by simp [rowsOf, lk]) ?_; first | rfl | (simp; done) | (simp_all; done))
    · rw [bP_false h1] at hc1
      rw [bP_false (show ¬ (PerfOk c p) from fun h => h1 (perf_iff.1 h).2)]
      repeat' (first | ((with_reducible first | (refine hK _ ?_; clear hK K) | refine stq fun K' hK' => ?_ | refine stc ?_); try simp only [go_sem]) | (with_reducible first | refine stp ?_ | (refine hK' _ ?_; clear hK' K') | refine kN kl102 fun K hK => ?_ | refine kO fun K hK => ?_) | (refine xS rfl fun K' hK' => ?_; simp only [go_sem]) | ((with_reducible apply CallK.eq); (· with_reducible first | exact hc0 | exact hc1); (· simp [RV.flat, D.sc, datI]); try simp only [go_sem]) | (with_reducible refine pK_mk ?_ ?_ <;> (intro hc; (try simp only [go_sem]); (try simp at hc); try (exfalso; omega))) | with_reducible refine And.intro (by first | omega | (unfold inI; omega)) ?_)
      all_goals first
        | (exfalso; omega)
        | (refine retQ_ret rfl rfl (by simp [rowsOf, lk]) ?_; first | rfl | (simp; done) | (simp_all; done))
  · rw [bP_false h0] at hc0
    rw [bP_false (show ¬ (PerfOk c p) from fun h => h0 (perf_iff.1 h).1)]
    repeat' (first | ((with_reducible first | (refine hK _ ?_; clear hK K) | refine stq fun K' hK' => ?_ | refine stc ?_); try simp only [go_sem]) | (with_reducible first | refine stp ?_ | (refine hK' _ ?_; clear hK' K') | refine kN kl102 fun K hK => ?_ | refine kO fun K hK => ?_) | (refine xS rfl fun K' hK' => ?_; simp only [go_sem]) | ((with_reducible apply CallK.eq); (· with_reducible first | exact hc0 | exact hc1); (· simp [RV.flat, D.sc, datI]); try simp only [go_sem]) | (with_reducible refine pK_mk ?_ ?_ <;> (intro hc; (try simp only [go_sem]); (try simp at hc); try (exfalso; omega))) | with_reducible refine And.intro (by first | omega | (unfold inI; omega)) ?_)
    all_goals first
      | (exfalso; omega)
      | (refine retQ_ret rfl rfl (by simp [rowsOf, lk]) ?_; first | rfl | (simp; done) | (simp_all; done))
theorem cpFactor_ok (f : Int) : FnEq Tryz.prog 119 [.d (.int .i64 f)] [.d (.bool (bP (FactOk f)))] := by
  have e : bP (FactOk f) = (decide (10 ≤ f) && decide (f ≤ 400)) := by rw [Bool.eq_iff_iff, bP_iff]; simp [FactOk]
  rw [e]
  refine fn_ok G_ok Tryz.func119 rfl rfl ?_; simp only [Tryz.ntmps119, List.length_cons, List.length_nil, Nat.reduceAdd, Nat.reduceSub, enm]
  repeat' (first | ((with_reducible first | (refine hK _ ?_; clear hK K) | refine stq fun K' hK' => ?_ | refine stc ?_); try simp only [go_sem]) | (with_reducible first | refine stp ?_ | (refine hK' _ ?_; clear hK' K') | refine kN kl119 fun K hK => ?_ | refine kO fun K hK => ?_) | ((with_reducible apply CallK.eq); (· with_reducible first | exact l1In_ok _ _ _); (· simp [RV.flat, D.sc, datI]); try simp only [go_sem]) | (with_reducible refine pK_mk ?_ ?_ <;> (intro hc; (try simp only [go_sem]); (try simp at hc); try (exfalso; omega))) | with_reducible refine And.intro (by first | omega | (unfold inI; omega)) ?_)
  refine retQ_ret rfl rfl (by simp [rowsOf, lk]) ?_; rfl
theorem sgAsked_ok (c : CodeD) (p : PerfD) (f : Int) (hcf : CdFit 1048576 c) (hpf : PfFit 1048576 p) : FnEq Tryz.prog 63 [.agg c.cs, .agg p.cs, .d (.int .i64 f)] [.d (.bool (bP (AskP c p f)))] := by
  have hc0 := sgGood_ok c p hcf hpf
  have hc1 := cpFactor_ok f
  refine fn_ok G_ok Tryz.func63 rfl rfl ?_; simp only [Tryz.ntmps63, List.length_cons, List.length_nil, Nat.reduceAdd, Nat.reduceSub, enm]
  by_cases h0 : PerfOk c p
  · rw [bP_true h0] at hc0
    by_cases h1 : FactOk f
    · rw [bP_true h1] at hc1
      rw [bP_true (show AskP c p f from ⟨h0, h1⟩)]
      repeat' (first | ((with_reducible first | (refine hK _ ?_; clear hK K) | refine stq fun K' hK' => ?_ | refine stc ?_); try simp only [go_sem]) | (with_reducible first | refine stp ?_ | (refine hK' _ ?_; clear hK' K') | refine kN kl63 fun K hK => ?_ | refine kO fun K hK => ?_) | (refine xS rfl fun K' hK' => ?_; simp only [go_sem]) | ((with_reducible apply CallK.eq); (· with_reducible first | exact hc0 | exact hc1); (· simp [RV.flat, D.sc, datI]); try simp only [go_sem]) | (with_reducible refine pK_mk ?_ ?_ <;> (intro hc; (try simp only [go_sem]); (try simp at hc); try (exfalso; omega))) | with_reducible refine And.intro (by first | omega | (unfold inI; omega)) ?_)
      all_goals first
        | (exfalso; omega)
        | (refine retQ_ret rfl rfl (by simp [rowsOf, lk]) ?_; first | rfl | (simp; done) | (simp_all; done))
    · rw [bP_false h1] at hc1
      rw [bP_false (show ¬ (AskP c p f) from fun h => h1 h.2)]
      repeat' (first | ((with_reducible first | (refine hK _ ?_; clear hK K) | refine stq fun K' hK' => ?_ | refine stc ?_); try simp only [go_sem]) | (with_reducible first | refine stp ?_ | (refine hK' _ ?_; clear hK' K') | refine kN kl63 fun K hK => ?_ | refine kO fun K hK => ?_) | (refine xS rfl fun K' hK' => ?_; simp only [go_sem]) | ((with_reducible apply CallK.eq); (· with_reducible first | exact hc0 | exact hc1); (· simp [RV.flat, D.sc, datI]); try simp only [go_sem]) | (with_reducible refine pK_mk ?_ ?_ <;> (intro hc; (try simp only [go_sem]); (try simp at hc); try (exfalso; omega))) | with_reducible refine And.intro (by first | omega | (unfold inI; omega)) ?_)
      all_goals first
        | (exfalso; omega)
        | (refine retQ_ret rfl rfl (by simp [rowsOf, lk]) ?_; first | rfl | (simp; done) | (simp_all; done))
  · rw [bP_false h0] at hc0
    rw [bP_false (show ¬ (AskP c p f) from fun h => h0 h.1)]
    repeat' (first | ((with_reducible first | (refine hK _ ?_; clear hK K) | refine stq fun K' hK' => ?_ | refine stc ?_); try simp only [go_sem]) | (with_reducible first | refine stp ?_ | (refine hK' _ ?_; clear hK' K') | refine kN kl63 fun K hK => ?_ | refine kO fun K hK => ?_) | (refine xS rfl fun K' hK' => ?_; simp only [go_sem]) | ((with_reducible apply CallK.eq); (· with_reducible first | exact hc0 | exact hc1); (· simp [RV.flat, D.sc, datI]); try simp only [go_sem]) | (with_reducible refine pK_mk ?_ ?_ <;> (intro hc; (try simp only [go_sem]); (try simp at hc); try (exfalso; omega))) | with_reducible refine And.intro (by first | omega | (unfold inI; omega)) ?_)
    all_goals first
      | (exfalso; omega)
      | (refine retQ_ret rfl rfl (by simp [rowsOf, lk]) ?_; first | rfl | (simp; done) | (simp_all; done))
theorem perf_nums {c : CodeD} {p : PerfD} (h : PerfOk c p) : (scoresW c p.items p.marks.grades).length ≤ 1048576 := by rw [scoresW_len]; have := h.2.1.1; omega
theorem technicalScore_ok (c : CodeD) (p : PerfD) (h : PerfOk c p) : FnEq Tryz.prog 163 [.agg c.cs, .agg p.cs] [.d (.int .i64 (techW c p))] := by
  have hsc := itemScores_ok c p.items p.marks h.1 h.2.1 h.2.2.1 h.2.2.2.1 h.2.2.2.2.1
  have hsu := sumInts_ok (scoresW c p.items p.marks.grades) 15000000 (by omega) (by omega) (scoresW_bd h) (perf_nums h)
  have e : techW c p = (scoresW c p.items p.marks.grades).sum := rfl
  rw [e]
  refine fn_ok G_ok Tryz.func163 rfl rfl ?_; simp only [Tryz.ntmps163, List.length_cons, List.length_nil, Nat.reduceAdd, Nat.reduceSub, enm]
  repeat' (first | ((with_reducible first | (refine hK _ ?_; clear hK K) | refine stq fun K' hK' => ?_ | refine stc ?_); try simp only [go_sem]) | (with_reducible first | refine stp ?_ | (refine hK' _ ?_; clear hK' K') | refine kN kl163 fun K hK => ?_ | refine kO fun K hK => ?_) | ((with_reducible apply CallK.eq); (· with_reducible first | exact hsc | exact hsu); (· simp [RV.flat, D.sc, datI]); try simp only [go_sem]) | (with_reducible refine pK_mk ?_ ?_ <;> (intro hc; (try simp only [go_sem]); (try simp at hc); try (exfalso; omega))) | with_reducible refine And.intro (by first | omega | (unfold inI; omega)) ?_)
  all_goals first
    | (exfalso; omega)
    | (refine retQ_ret rfl rfl (by simp [rowsOf, lk]) ?_; rfl)
theorem partsOf_ok (c : CodeD) (p : PerfD) (f : Int) (h : AskP c p f) : FnEq Tryz.prog 129 [.agg c.cs, .agg p.cs, .d (.int .i64 f)] [.row 3 1 ([techW c p, factW p.marks f p.slips.falls, dedW c p.slips, segW c p f].map datI)] := by
  have hte := technicalScore_ok c p h.1
  have hsl := h.1.2.2.2.2.2
  have hcn := h.1.1.2.2
  have hfa := factoredSum_ok p.marks f p.slips.falls h.1.2.2.2.1 h.2 hsl.1
  have hsp := slipPoints_ok c p.slips hcn hsl
  have h7 := hcn.2.2.2.2.2.2.2.2.2
  have hfb := fallW_bd h7.1 h7.2 hsl.1 hsl.2.1
  have htb := timeW_bd hsl.2.2.1 hsl.2.2.2.1
  have hob := hsl.2.2.2.2
  have hsu := sumInts_ok [fallW c.fall p.slips.falls, timeW p.slips.seconds, p.slips.other] 20000 (by omega) (by omega) (fun x hx => by
    simp only [List.mem_cons, List.not_mem_nil, or_false] at hx
    rcases hx with rfl | rfl | rfl <;> omega) (by simp)
  rw [show [fallW c.fall p.slips.falls, timeW p.slips.seconds, p.slips.other].sum = dedW c p.slips by simp [dedW]; omega] at hsu
  have h1 := techW_bd h.1
  have h2 := factW_bd h.1.2.2.2.1 h.2 p.slips.falls
  have h3 := dedW_bd hcn hsl
  have e : segW c p f = max (techW c p + factW p.marks f p.slips.falls - dedW c p.slips) 0 := rfl
  rw [e]
  generalize [fallW c.fall p.slips.falls, timeW p.slips.seconds, p.slips.other] = sl at hsp hsu
  refine fn_ok G_ok Tryz.func129 rfl rfl ?_; simp only [Tryz.ntmps129, List.length_cons, List.length_nil, Nat.reduceAdd, Nat.reduceSub, enm]
  generalize techW c p = a at hte h1
  generalize factW p.marks f p.slips.falls = b at hfa h2
  generalize dedW c p.slips = d at hsu h3
  repeat' (first | ((with_reducible first | (refine hK _ ?_; clear hK K) | refine stq fun K' hK' => ?_ | refine stc ?_); try simp only [go_sem]) | (with_reducible first | refine stp ?_ | (refine hK' _ ?_; clear hK' K') | refine kN kl129 fun K hK => ?_ | refine kO fun K hK => ?_) | ((with_reducible first | apply CallK.eq | apply CallQ.eqs); (· with_reducible first | exact hte | exact hfa | exact hsp | exact hsu); (· first | exact rfl | (simp [RV.flat, D.sc, datI]; done)); try simp only [go_sem]) | (with_reducible refine pw_seq_tailK kl129 G_ok 0 13 mixed (by kernel_rfl) (fun K hK => ?_); simp only [List.take_succ_cons, List.take_zero, List.drop_succ_cons, List.drop_zero]) | (with_reducible refine pK_mk ?_ ?_ <;> (intro hc; (try simp only [go_sem]); (try simp at hc); try (exfalso; omega))) | with_reducible refine And.intro (by first | omega | (unfold inI; omega)) ?_)
  all_goals first
    | (exfalso; omega)
    | (refine retQ_ret rfl (by simp only [retL, ret1, hget, lk, List.length_map, List.length_nil, List.length_append, List.length_take, if_true, if_false, Nat.reduceEqDiff, Nat.reduceBEq, Bool.false_eq_true, Option.some.injEq]; rfl) (by simp [rowsOf, lk]) ?_; rfl)
theorem segmentScore_ok (c : CodeD) (p : PerfD) (f : Int) (h : AskP c p f) : FnEq Tryz.prog 76 [.agg c.cs, .agg p.cs, .d (.int .i64 f)] [.d (.int .i64 (segW c p f))] := by
  have hp := partsOf_ok c p f h
  refine fn_ok G_ok Tryz.func76 rfl rfl ?_; simp only [Tryz.ntmps76, List.length_cons, List.length_nil, Nat.reduceAdd, Nat.reduceSub, enm]
  have hl3 : [techW c p, factW p.marks f p.slips.falls, dedW c p.slips, segW c p f][3]? = some (segW c p f) := rfl
  have hl4 : [techW c p, factW p.marks f p.slips.falls, dedW c p.slips, segW c p f].length = 4 := rfl
  generalize [techW c p, factW p.marks f p.slips.falls, dedW c p.slips, segW c p f] = q at hp hl3 hl4
  have h34 : (3 : Nat) < 4 := by decide
  have ht3 : Int.toNat 3 = 3 := rfl
  generalize segW c p f = s at hl3
  repeat' (first | ((with_reducible first | (refine hK _ ?_; clear hK K) | refine stq fun K' hK' => ?_ | refine stc ?_); try simp only [go_sem, List.getElem?_map, hl3, hl4, h34, ht3, Option.map_some, datI]) | (with_reducible first | refine stp ?_ | (refine hK' _ ?_; clear hK' K') | refine kN kl76 fun K hK => ?_ | refine kO fun K hK => ?_) | ((with_reducible apply CallK.eq); (· with_reducible first | exact hp); (· simp [RV.flat, D.sc, datI]); try simp only [go_sem, List.getElem?_map, hl3, hl4, h34, ht3, Option.map_some, datI]) | (with_reducible refine pK_mk ?_ ?_ <;> (intro hc; (try simp only [go_sem, List.getElem?_map, hl3, hl4, h34, ht3, Option.map_some, datI]); (try simp at hc); try (exfalso; omega))) | with_reducible refine And.intro (by first | omega | (unfold inI; omega)) ?_)
  all_goals first
    | (exfalso; omega)
    | (refine retQ_ret rfl rfl (by simp [rowsOf, lk]) ?_; rfl)
theorem sgTechnical_ok (c : CodeD) (p : PerfD) (h : PerfOk c p) : FnEq Tryz.prog 158 [.agg c.cs, .agg p.cs] [.d (.int .i64 (techW c p))] := by
  have hsc := elScores_ok c p.items p.marks h.1 h.2.1 h.2.2.1 h.2.2.2.1 h.2.2.2.2.1
  have hsu := poSum_ok (scoresW c p.items p.marks.grades) 15000000 (by omega) (by omega) (scoresW_bd h) (perf_nums h)
  have e : techW c p = (scoresW c p.items p.marks.grades).sum := rfl
  rw [e]
  refine fn_ok G_ok Tryz.func158 rfl rfl ?_; simp only [Tryz.ntmps158, List.length_cons, List.length_nil, Nat.reduceAdd, Nat.reduceSub, enm]
  repeat' (first | ((with_reducible first | (refine hK _ ?_; clear hK K) | refine stq fun K' hK' => ?_ | refine stc ?_); try simp only [go_sem]) | (with_reducible first | refine stp ?_ | (refine hK' _ ?_; clear hK' K') | refine kN kl158 fun K hK => ?_ | refine kO fun K hK => ?_) | ((with_reducible apply CallK.eq); (· with_reducible first | exact hsc | exact hsu); (· simp [RV.flat, D.sc, datI]); try simp only [go_sem]) | (with_reducible refine pK_mk ?_ ?_ <;> (intro hc; (try simp only [go_sem]); (try simp at hc); try (exfalso; omega))) | with_reducible refine And.intro (by first | omega | (unfold inI; omega)) ?_)
  all_goals first
    | (exfalso; omega)
    | (refine retQ_ret rfl rfl (by simp [rowsOf, lk]) ?_; rfl)
theorem sgParts_ok (c : CodeD) (p : PerfD) (f : Int) (h : AskP c p f) : FnEq Tryz.prog 122 [.agg c.cs, .agg p.cs, .d (.int .i64 f)] [.row 3 1 ([techW c p, factW p.marks f p.slips.falls, dedW c p.slips, segW c p f].map datI)] := by
  have hte := sgTechnical_ok c p h.1
  have hsl := h.1.2.2.2.2.2
  have hcn := h.1.1.2.2
  have hfa := cpFactored_ok p.marks f p.slips.falls h.1.2.2.2.1 h.2
  have hsu := dcSum_ok c p.slips hcn hsl
  have h1 := techW_bd h.1
  have h2 := factW_bd h.1.2.2.2.1 h.2 p.slips.falls
  have h3 := dedW_bd hcn hsl
  have e : segW c p f = max (techW c p + factW p.marks f p.slips.falls - dedW c p.slips) 0 := rfl
  have e2 : max (techW c p + factW p.marks f p.slips.falls - dedW c p.slips) 0 = max 0 (techW c p + factW p.marks f p.slips.falls - dedW c p.slips) := by omega
  rw [e, e2]
  refine fn_ok G_ok Tryz.func122 rfl rfl ?_; simp only [Tryz.ntmps122, List.length_cons, List.length_nil, Nat.reduceAdd, Nat.reduceSub, enm]
  generalize techW c p = a at hte h1
  generalize factW p.marks f p.slips.falls = b at hfa h2
  generalize dedW c p.slips = d at hsu h3
  repeat' (first | ((with_reducible first | (refine hK _ ?_; clear hK K) | refine stq fun K' hK' => ?_ | refine stc ?_); try simp only [go_sem]) | (with_reducible first | refine stp ?_ | (refine hK' _ ?_; clear hK' K') | refine kN kl122 fun K hK => ?_ | refine kO fun K hK => ?_) | ((with_reducible first | apply CallK.eq | apply CallQ.eqs); (· with_reducible first | exact hte | exact hfa | exact hsu | exact l1Most_ok _ _); (· first | exact rfl | (simp [RV.flat, D.sc, datI]; done)); try simp only [go_sem]) | (with_reducible refine pw_seq_drawK kl122 G_ok mixed (by kernel_rfl) (fun K hK => ?_)) | (with_reducible refine pw_draw G_ok mixed (by kernel_rfl) ?_) | (with_reducible refine pK_mk ?_ ?_ <;> (intro hc; (try simp only [go_sem]); (try simp at hc); try (exfalso; omega))) | with_reducible refine And.intro (by first | omega | (unfold inI; omega)) ?_)
  all_goals first
    | (exfalso; omega)
    | (refine retQ_ret rfl (by simp only [retL, ret1, hget, lk, List.length_map, List.length_nil, List.length_append, List.length_take, if_true, if_false, Nat.reduceEqDiff, Nat.reduceBEq, Bool.false_eq_true, Option.some.injEq]; rfl) (by simp [rowsOf, lk]) ?_; rfl)
theorem sgScore_ok (c : CodeD) (p : PerfD) (f : Int) (h : AskP c p f) : FnEq Tryz.prog 66 [.agg c.cs, .agg p.cs, .d (.int .i64 f)] [.d (.int .i64 (segW c p f))] := by
  have hp := sgParts_ok c p f h
  refine fn_ok G_ok Tryz.func66 rfl rfl ?_; simp only [Tryz.ntmps66, List.length_cons, List.length_nil, Nat.reduceAdd, Nat.reduceSub, enm]
  have hl3 : [techW c p, factW p.marks f p.slips.falls, dedW c p.slips, segW c p f][3]? = some (segW c p f) := rfl
  have hl4 : [techW c p, factW p.marks f p.slips.falls, dedW c p.slips, segW c p f].length = 4 := rfl
  generalize [techW c p, factW p.marks f p.slips.falls, dedW c p.slips, segW c p f] = q at hp hl3 hl4
  have h34 : (3 : Nat) < 4 := by decide
  have ht3 : Int.toNat 3 = 3 := rfl
  generalize segW c p f = s at hl3
  repeat' (first | ((with_reducible first | (refine hK _ ?_; clear hK K) | refine stq fun K' hK' => ?_ | refine stc ?_); try simp only [go_sem, List.getElem?_map, hl3, hl4, h34, ht3, Option.map_some, datI]) | (with_reducible first | refine stp ?_ | (refine hK' _ ?_; clear hK' K') | refine kN kl66 fun K hK => ?_ | refine kO fun K hK => ?_) | ((with_reducible apply CallK.eq); (· with_reducible first | exact hp); (· simp [RV.flat, D.sc, datI]); try simp only [go_sem, List.getElem?_map, hl3, hl4, h34, ht3, Option.map_some, datI]) | (with_reducible refine pK_mk ?_ ?_ <;> (intro hc; (try simp only [go_sem, List.getElem?_map, hl3, hl4, h34, ht3, Option.map_some, datI]); (try simp at hc); try (exfalso; omega))) | with_reducible refine And.intro (by first | omega | (unfold inI; omega)) ?_)
  all_goals first
    | (exfalso; omega)
    | (refine retQ_ret rfl rfl (by simp [rowsOf, lk]) ?_; rfl)
end Go.Proofs.YtphakidbddamfaaGreat
