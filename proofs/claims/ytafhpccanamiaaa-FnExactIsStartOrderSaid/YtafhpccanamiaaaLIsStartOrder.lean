/- IsStartOrder of the program returns what the reference returns, for all entrants, sizes and orders: the statement's row, proved. No conditions. -/
import Derived.Test.YtafhpccanamiaaaRows
import Derived.Test.YtafhpccanamiaaaGs
import Derived.Test.YtafhpccanamiaaaEn
namespace Go.Proofs.Ytafhpccanamiaaa.lawIsStartOrder
open Go.ChangeShapes Go.WideShapes Go.ChangeAt Go.RowKit Go.Deep

set_option linter.unusedSimpArgs false in set_option linter.unusedVariables false in set_option maxHeartbeats 2000000 in set_option maxRecDepth 100000 in
theorem law_IsStartOrder_ok (xs0 : List EntrantD) (m0 : xs0.length ≤ maxLen ∧ ∀ r ∈ xs0, True) (a1 : Int) (w1 : inI a1) (xs2 : List Int) (m2 : xs2.length ≤ maxLen ∧ ∀ x ∈ xs2, True) : FnEq Try.prog 7 [.d (.lst 2 (xs0.map EntrantD.dat)), .d (.int .i64 a1), .d (.lst 1 (xs2.map datI))] [.d (.bool true)] := by
  have hn0 := m0.1
  have hn2 := m2.1
  unfold maxLen at hn0 hn2
  refine fn_ok G_ok Try.func7 rfl rfl ?_; simp only [Try.ntmps7, List.length_cons, List.length_nil, Nat.reduceAdd, Nat.reduceSub, enm]
  by_cases hl2 : xs2.length ≤ 1048576
  · have hT : bP True = true := bP_true trivial
    by_cases hle0 : ((xs0.length : Nat) : Int) ≤ ((1048576 : Int))
    · have hz0 := szOf_ge hle0
      have hl0 : xs0.length ≤ 1048576 := by omega
      have hspec := spec_IsStartOrder_ok xs0 a1 xs2 hl0 hl2
      have himpl := impl_IsStartOrder_ok xs0 a1 xs2 hl0 hl2
      generalize bP (IsFit xs0 a1 xs2) = b at hspec himpl
      generalize bP (IsOk xs0 a1 xs2) = b2 at hspec himpl
      repeat' (first | (with_reducible refine execL_step (fun K' hK' => ?_); (first | with_reducible refine s_none rfl ?_ | refine s_some2 rfl ?_); simp only [go_sem, Nat.reduceEqDiff, Nat.reduceLT, Nat.reduceAdd, Nat.reduceSub, Nat.reduceMul, Nat.reduceLeDiff, hz0, hT]) | (with_reducible refine hK' _ ?_; clear hK' K') | with_reducible refine execL_nil ?_ | (with_reducible refine hK _ ?_; clear hK K; try simp only [go_sem, Nat.reduceEqDiff, Nat.reduceLT, Nat.reduceAdd, Nat.reduceSub, Nat.reduceMul, Nat.reduceLeDiff, hz0, hT]) | with_reducible refine pw_seq_opsK kl7 G_ok (fun K hK => ?_) | (with_reducible refine CallK.eq (szEntrantS_ok xs0 hn0 _ (by omega) (by omega)) ?_ ?_; (focus (simp [RV.flat, D.sc, datI]; done)); try simp only [go_sem, Nat.reduceEqDiff, Nat.reduceLT, Nat.reduceAdd, Nat.reduceSub, Nat.reduceMul, Nat.reduceLeDiff, hz0, hT]) | (with_reducible refine CallK.eq (toEntrantS_ok xs0 hl0) ?_ ?_; (focus (simp [RV.flat, D.sc, datI]; done)); try simp only [go_sem, Nat.reduceEqDiff, Nat.reduceLT, Nat.reduceAdd, Nat.reduceSub, Nat.reduceMul, Nat.reduceLeDiff, hz0, hT]) | (with_reducible refine CallK.eq (toIntS_ok xs2 hl2) ?_ ?_; (focus (simp [RV.flat, D.sc, datI]; done)); try simp only [go_sem, Nat.reduceEqDiff, Nat.reduceLT, Nat.reduceAdd, Nat.reduceSub, Nat.reduceMul, Nat.reduceLeDiff, hz0, hT]) | (with_reducible refine CallK.eq (hspec) ?_ ?_; (focus (simp [RV.flat, D.sc, datI]; done)); try simp only [go_sem, Nat.reduceEqDiff, Nat.reduceLT, Nat.reduceAdd, Nat.reduceSub, Nat.reduceMul, Nat.reduceLeDiff, hz0, hT]) | (with_reducible refine CallK.eq (himpl) ?_ ?_; (focus (simp [RV.flat, D.sc, datI]; done)); try simp only [go_sem, Nat.reduceEqDiff, Nat.reduceLT, Nat.reduceAdd, Nat.reduceSub, Nat.reduceMul, Nat.reduceLeDiff, hz0, hT]) | (with_reducible refine CallK.eq (eqEntrantS_ok xs0 xs0 hl0 hn0) ?_ ?_; (focus (simp [RV.flat, D.sc, datI]; done)); try simp only [go_sem, Nat.reduceEqDiff, Nat.reduceLT, Nat.reduceAdd, Nat.reduceSub, Nat.reduceMul, Nat.reduceLeDiff, hz0, hT]) | (with_reducible refine CallK.eq (eqIntS_ok xs2 xs2 hl2 hn2) ?_ ?_; (focus (simp [RV.flat, D.sc, datI]; done)); try simp only [go_sem, Nat.reduceEqDiff, Nat.reduceLT, Nat.reduceAdd, Nat.reduceSub, Nat.reduceMul, Nat.reduceLeDiff, hz0, hT]) | with_reducible refine pw_seq (x := .seq _ _) ?_ | with_reducible refine thenA_normal ?_ | with_reducible refine thenA_exit ?_ | with_reducible refine thenA_ret ?_ | with_reducible refine inBlockA_same ?_ | with_reducible refine inBlockA_ret ?_ | with_reducible refine inBlockA_normal ?_ | refine inBlockA_other (by decide) ?_ | with_reducible refine pw_seq (pw_block ?_) | with_reducible refine pw_seq (pw_skip (thenA_normal ?_)) | with_reducible refine pw_skip ?_ | with_reducible refine pw_exit ?_ | with_reducible refine pw_ret ?_ | with_reducible refine pw_ops G_ok (fun K hK => ?_) | with_reducible refine pw_block ?_ | (with_reducible refine pK_mk (fun hc => ?_) (fun hc => ?_) <;> (try simp only [go_sem, Nat.reduceEqDiff, Nat.reduceLT, Nat.reduceAdd, Nat.reduceSub, Nat.reduceMul, Nat.reduceLeDiff, hz0, hT]) <;> (try simp at hc) <;> (try (exfalso; omega))) | (refine pw_seq (pw_cond rfl (fun hc => ?_) (fun hc => ?_)) <;> (try simp at hc) <;> (try (exfalso; omega))) | (refine pw_cond rfl (fun hc => ?_) (fun hc => ?_) <;> (try simp at hc) <;> (try (exfalso; omega))) | with_reducible refine And.intro (by first | omega | (unfold inI; omega)) ?_)
      all_goals first
        | (exfalso; omega)
        | (refine retQ_ret rfl rfl (by simp [rowsOf, lk]) ?_; rfl)
    · have hz0 := szOf_lt (left := (1048576 : Int)) (n := ((xs0.length : Nat) : Int)) (by omega)
      repeat' (first | (with_reducible refine execL_step (fun K' hK' => ?_); (first | with_reducible refine s_none rfl ?_ | refine s_some2 rfl ?_); simp only [go_sem, Nat.reduceEqDiff, Nat.reduceLT, Nat.reduceAdd, Nat.reduceSub, Nat.reduceMul, Nat.reduceLeDiff, hz0]) | (with_reducible refine hK' _ ?_; clear hK' K') | with_reducible refine execL_nil ?_ | (with_reducible refine hK _ ?_; clear hK K; try simp only [go_sem, Nat.reduceEqDiff, Nat.reduceLT, Nat.reduceAdd, Nat.reduceSub, Nat.reduceMul, Nat.reduceLeDiff, hz0]) | with_reducible refine pw_seq_opsK kl7 G_ok (fun K hK => ?_) | (with_reducible refine CallK.eq (szEntrantS_ok xs0 hn0 _ (by omega) (by omega)) ?_ ?_; (focus (simp [RV.flat, D.sc, datI]; done)); try simp only [go_sem, Nat.reduceEqDiff, Nat.reduceLT, Nat.reduceAdd, Nat.reduceSub, Nat.reduceMul, Nat.reduceLeDiff, hz0]) | with_reducible refine pw_seq (x := .seq _ _) ?_ | with_reducible refine thenA_normal ?_ | with_reducible refine thenA_exit ?_ | with_reducible refine thenA_ret ?_ | with_reducible refine inBlockA_same ?_ | with_reducible refine inBlockA_ret ?_ | with_reducible refine inBlockA_normal ?_ | refine inBlockA_other (by decide) ?_ | with_reducible refine pw_seq (pw_block ?_) | with_reducible refine pw_seq (pw_skip (thenA_normal ?_)) | with_reducible refine pw_skip ?_ | with_reducible refine pw_exit ?_ | with_reducible refine pw_ret ?_ | with_reducible refine pw_ops G_ok (fun K hK => ?_) | with_reducible refine pw_block ?_ | (with_reducible refine pK_mk (fun hc => ?_) (fun hc => ?_) <;> (try simp only [go_sem, Nat.reduceEqDiff, Nat.reduceLT, Nat.reduceAdd, Nat.reduceSub, Nat.reduceMul, Nat.reduceLeDiff, hz0]) <;> (try simp at hc) <;> (try (exfalso; omega))) | (refine pw_seq (pw_cond rfl (fun hc => ?_) (fun hc => ?_)) <;> (try simp at hc) <;> (try (exfalso; omega))) | (refine pw_cond rfl (fun hc => ?_) (fun hc => ?_) <;> (try simp at hc) <;> (try (exfalso; omega))) | with_reducible refine And.intro (by first | omega | (unfold inI; omega)) ?_)
      all_goals first
        | (exfalso; omega)
        | (refine retQ_ret rfl rfl (by simp [rowsOf, lk]) ?_; rfl)
  · repeat' (first | (with_reducible refine execL_step (fun K' hK' => ?_); (first | with_reducible refine s_none rfl ?_ | refine s_some2 rfl ?_); simp only [go_sem, Nat.reduceEqDiff, Nat.reduceLT, Nat.reduceAdd, Nat.reduceSub, Nat.reduceMul, Nat.reduceLeDiff]) | (with_reducible refine hK' _ ?_; clear hK' K') | with_reducible refine execL_nil ?_ | (with_reducible refine hK _ ?_; clear hK K; try simp only [go_sem, Nat.reduceEqDiff, Nat.reduceLT, Nat.reduceAdd, Nat.reduceSub, Nat.reduceMul, Nat.reduceLeDiff]) | with_reducible refine pw_seq_opsK kl7 G_ok (fun K hK => ?_) | with_reducible refine pw_seq (x := .seq _ _) ?_ | with_reducible refine thenA_normal ?_ | with_reducible refine thenA_exit ?_ | with_reducible refine thenA_ret ?_ | with_reducible refine inBlockA_same ?_ | with_reducible refine inBlockA_ret ?_ | with_reducible refine inBlockA_normal ?_ | refine inBlockA_other (by decide) ?_ | with_reducible refine pw_seq (pw_block ?_) | with_reducible refine pw_seq (pw_skip (thenA_normal ?_)) | with_reducible refine pw_skip ?_ | with_reducible refine pw_exit ?_ | with_reducible refine pw_ret ?_ | with_reducible refine pw_ops G_ok (fun K hK => ?_) | with_reducible refine pw_block ?_ | (with_reducible refine pK_mk (fun hc => ?_) (fun hc => ?_) <;> (try simp only [go_sem, Nat.reduceEqDiff, Nat.reduceLT, Nat.reduceAdd, Nat.reduceSub, Nat.reduceMul, Nat.reduceLeDiff]) <;> (try simp at hc) <;> (try (exfalso; omega))) | (refine pw_seq (pw_cond rfl (fun hc => ?_) (fun hc => ?_)) <;> (try simp at hc) <;> (try (exfalso; omega))) | (refine pw_cond rfl (fun hc => ?_) (fun hc => ?_) <;> (try simp at hc) <;> (try (exfalso; omega))) | with_reducible refine And.intro (by first | omega | (unfold inI; omega)) ?_)
    all_goals first
      | (exfalso; omega)
      | (refine retQ_ret rfl rfl (by simp [rowsOf, lk]) ?_; rfl)

theorem own : ownKnob Try.prog.godebug = none := by kernel_rfl
theorem laidOut : laidOutB Try.prog = true := by kernel_rfl
set_option linter.unusedVariables false in
set_option maxRecDepth 100000 in
theorem lifted (os : Os) (started : os.Started) (H : Type) (enc : TypeId × Value → H) :
    ReturnsInHanded {} Try.checked os 7 .any (Rows.fnExactIsStartOrderSpec.pre6 enc Try.prog Try.f7 Rows.fnExactIsStartOrderRow.domain false) (Rows.fnExactIsStartOrderSpec.post enc Try.prog Try.f7 false true false false) := by
  refine returnsInHanded_of_change (C := Try.checked) own started (by kernel_rfl) Try.func7
    (ChangeSpec.witness6 (enc := enc) (C := Try.checked) false ⟨#[], #[.slice none 0 0, .int .i64 0, .slice none 0 0], []⟩ 8 (by kernel_rfl) (by kernel_rfl) (by kernel_rfl) (by kernel_rfl)) ?_
  intro W base args ds gs before hval0 hW hcnd _
  have hval : ∀ (j : Nat) t v, Try.f7.params[j]? = some t → args[j]? = some v → Value.okWide Try.prog W .any base t v := hval0
  have hW' := hW
  obtain ⟨p, q, hA0, hV, rfl, hfz, hnd⟩ := hW
  have hA : DataW.TrodAll enc Try.prog W 0 (fun _ => true) true Try.f7.params.toList args.toList ds p := hA0
  rw [Try.params7] at hA hval
  obtain ⟨v0, vs0, d0, ds0, p0, q0, hargs, rfl, rfl, h0, r0⟩ := trodAll_cons hA
  obtain ⟨v1, vs1, d1, ds1, p1, q1, rfl, rfl, rfl, h1, r1⟩ := trodAll_cons r0
  obtain ⟨v2, vs2, d2, ds2, p2, q2, rfl, rfl, rfl, h2, r2⟩ := trodAll_cons r1
  obtain ⟨rfl, rfl, rfl⟩ := trodAll_nil r2
  obtain rfl : args = #[v0, v1, v2] := by cases args; simp_all
  obtain ⟨rfl, rfl⟩ := trodVars_none hV
  have k0 := h0
  have lt0 := below_lt k0
  obtain ⟨s0, len0, cap0, rfl⟩ := okWide_slice Try.underlying44 (hval 0 44 v0 rfl rfl)
  obtain ⟨fuel0, hf0⟩ := h0
  obtain ⟨x0, m0, rd0⟩ := open_EntrantS.2 _ _ _ hf0
  have R0 := R_of_crd1 rfl rd0
  clear hf0
  obtain ⟨a1, rfl, rfl, rfl, w1⟩ := open_int Try.underlying3 (hval 1 3 v1 rfl rfl) h1
  have k2 := h2
  have lt2 := below_lt k2
  obtain ⟨s2, len2, cap2, rfl⟩ := okWide_slice Try.underlying56 (hval 2 56 v2 rfl rfl)
  obtain ⟨fuel2, hf2⟩ := h2
  obtain ⟨x2, m2, rd2⟩ := open_intS0.2 _ _ _ hf2
  have R2 := R_of_crd1 rfl rd2
  clear hf2
  clear hA0 hval0
  refine (mwalk (law_IsStartOrder_ok x0 m0 a1 (inI_of_wf w1) x2 m2) W _ rfl (args3 R0 (R_int W a1) R2)).mono fun e W' ⟨he, bel⟩ => ?_
  subst he
  exact ⟨_, rfl, _, _, _, [], _, [], hW', trodAll_mk1 (shut_bool Try.underlying4 _), (trodAll_cons_mk (Below.trod laidOut (by kernel_rfl) (of_decide_eq_true (by kernel_rfl)) k0 bel lt0) (trodAll_cons_mk (shut_int Try.underlying3 w1) (trodAll_cons_mk (Below.trod laidOut (by kernel_rfl) (of_decide_eq_true (by kernel_rfl)) k2 bel lt2) trodAll_mk0))), rfl, bel.frame _, fun h => by cases h⟩
theorem over : Rows.fnExactIsStartOrderRow.holds Try.pinned (OpenSpec.ofChange Rows.fnExactIsStartOrderSpec) :=
  OpenClaim.holds_of_wide 7 Try.f7 rfl rfl rfl rfl rfl rfl rfl ⟨rfl, rfl, rfl, rfl, rfl⟩ rfl rfl rfl rfl rfl (by kernel_rfl) Try.func7 (by kernel_rfl)
    (of_decide_eq_true (by kernel_rfl)) (by unfold Func.isWrapper; first | (rw [if_pos (by decide +kernel)]; kernel_rfl) | (rw [if_neg (by decide +kernel)]; exact ⟨rfl, rfl⟩))
    (fun os started H enc _ => lifted os started H enc)
theorem proved : Rows.FnExactIsStartOrderSaid := over
end Go.Proofs.Ytafhpccanamiaaa.lawIsStartOrder
