/- EdgeOf of the program returns what the reference returns, for all results and numbers, in memory of its own: the statement's row, proved. No conditions. -/
import Derived.Test.YtnjmnehnpjldpaaRows
import Derived.Test.YtnjmnehnpjldpaaQe
import Derived.Test.YtnjmnehnpjldpaaRsL
namespace Go.Proofs.Ytnjmnehnpjldpaa.lawEdgeOf
open Go.ChangeShapes Go.WideShapes Go.ChangeAt Go.RowKit Go.Deep

theorem len (l : List ResultD) (n : Int) : ((ansEdgeOf l n).getD (0, [])).2.length ≤ 40 := by
  by_cases hv : ResultsOk l ∧ FldOk n ∧ 0 < (quR l n).length
  · simp only [ansEdgeOf]; rw [optP_pos hv]; simp only [Option.getD_some]; rw [List.length_map]; exact Nat.le_trans (fm_len _ _ _) (Nat.le_trans (quR_len l n) hv.1.1)
  · simp only [ansEdgeOf]; rw [optP_neg hv]; simp
set_option linter.unusedSimpArgs false in set_option linter.unusedVariables false in set_option maxHeartbeats 2000000 in set_option maxRecDepth 100000 in
theorem law_EdgeOf_ok (xs0 : List ResultD) (m0 : xs0.length ≤ maxLen ∧ ∀ r ∈ xs0, r.scores.length ≤ maxLen) (a1 : Int) (w1 : inI a1) : FnEq Try.prog 7 [.d (.lst 2 (xs0.map ResultD.dat)), .d (.int .i64 a1)] [.d (.bool true)] := by
  obtain ⟨hn0, hs0⟩ := m0
  replace hs0 := rs_le hs0
  unfold maxLen at hn0
  refine fn_ok G_ok Try.func7 rfl rfl ?_; simp only [Try.ntmps7, List.length_cons, List.length_nil, Nat.reduceAdd, Nat.reduceSub, enm]
  by_cases hle0 : ((xs0.length + cntR xs0 : Nat) : Int) ≤ ((1048576 : Int))
  · have hz0 := szOf_ge hle0
    have hl0 : xs0.length ≤ 1048576 := by omega
    have hk0 : ∀ r ∈ xs0, r.scores.length ≤ 1048576 := fun r hr => by have := cntR_mem hr; omega
    have hspec := spec_EdgeOf_ok xs0 a1 hl0 hk0
    have himpl := impl_EdgeOf_ok xs0 a1 hl0 hk0
    have hlen := len xs0 a1
    generalize (ansEdgeOf xs0 a1).isSome = b at hspec himpl
    generalize ((ansEdgeOf xs0 a1).getD (0, [])).1 = g0 at hspec himpl
    generalize ((ansEdgeOf xs0 a1).getD (0, [])).2 = g1 at hspec himpl hlen
    have hlen1 := hlen
    have hT : bP True = true := bP_true trivial
    have hm1 := mkI_len (1) g1.length
    repeat' (first | (with_reducible refine execL_step (fun K' hK' => ?_); (first | with_reducible refine s_none rfl ?_ | refine s_some2 rfl ?_); simp only [go_sem, Nat.reduceEqDiff, Nat.reduceLT, Nat.reduceAdd, Nat.reduceSub, Nat.reduceMul, Nat.reduceLeDiff, hz0, hT]) | (with_reducible refine hK' _ ?_; clear hK' K') | with_reducible refine execL_nil ?_ | (with_reducible refine hK _ ?_; clear hK K; try simp only [go_sem, Nat.reduceEqDiff, Nat.reduceLT, Nat.reduceAdd, Nat.reduceSub, Nat.reduceMul, Nat.reduceLeDiff, hz0, hT]) | with_reducible refine pw_seq_opsK kl7 G_ok (fun K hK => ?_) | (with_reducible refine CallK.eq (szResultS_ok xs0 hn0 hs0 _ (by omega) (by omega)) ?_ ?_; (focus (simp [RV.flat, D.sc, datI]; done)); try simp only [go_sem, Nat.reduceEqDiff, Nat.reduceLT, Nat.reduceAdd, Nat.reduceSub, Nat.reduceMul, Nat.reduceLeDiff, hz0, hT]) | (with_reducible refine CallK.eq (toResultS_ok xs0 hl0 hk0) ?_ ?_; (focus (simp [RV.flat, D.sc, datI]; done)); try simp only [go_sem, Nat.reduceEqDiff, Nat.reduceLT, Nat.reduceAdd, Nat.reduceSub, Nat.reduceMul, Nat.reduceLeDiff, hz0, hT]) | (with_reducible refine CallK.eq (hspec) ?_ ?_; (focus (simp [RV.flat, D.sc, datI]; done)); try simp only [go_sem, Nat.reduceEqDiff, Nat.reduceLT, Nat.reduceAdd, Nat.reduceSub, Nat.reduceMul, Nat.reduceLeDiff, hz0, hT]) | (with_reducible refine CallK.eq (himpl) ?_ ?_; (focus (simp [RV.flat, D.sc, datI]; done)); try simp only [go_sem, Nat.reduceEqDiff, Nat.reduceLT, Nat.reduceAdd, Nat.reduceSub, Nat.reduceMul, Nat.reduceLeDiff, hz0, hT]) | (with_reducible refine CallK.eq (eqIntS_ok g1 g1 (by omega) (by omega)) ?_ ?_; (focus (simp [RV.flat, D.sc, datI]; done)); try simp only [go_sem, Nat.reduceEqDiff, Nat.reduceLT, Nat.reduceAdd, Nat.reduceSub, Nat.reduceMul, Nat.reduceLeDiff, hz0, hT]) | (with_reducible refine CallK.eq (eqResultS_ok xs0 xs0 hl0 hn0 hk0 hs0) ?_ ?_; (focus (simp [RV.flat, D.sc, datI]; done)); try simp only [go_sem, Nat.reduceEqDiff, Nat.reduceLT, Nat.reduceAdd, Nat.reduceSub, Nat.reduceMul, Nat.reduceLeDiff, hz0, hT]) | with_reducible refine pw_seq (x := .seq _ _) ?_ | with_reducible refine thenA_normal ?_ | with_reducible refine thenA_exit ?_ | with_reducible refine thenA_ret ?_ | with_reducible refine inBlockA_same ?_ | with_reducible refine inBlockA_ret ?_ | with_reducible refine inBlockA_normal ?_ | refine inBlockA_other (by decide) ?_ | with_reducible refine pw_seq (pw_block ?_) | with_reducible refine pw_seq (pw_skip (thenA_normal ?_)) | with_reducible refine pw_skip ?_ | with_reducible refine pw_exit ?_ | with_reducible refine pw_ret ?_ | with_reducible refine pw_ops G_ok (fun K hK => ?_) | with_reducible refine pw_block ?_ | (with_reducible refine pK_mk (fun hc => ?_) (fun hc => ?_) <;> (try simp only [go_sem, Nat.reduceEqDiff, Nat.reduceLT, Nat.reduceAdd, Nat.reduceSub, Nat.reduceMul, Nat.reduceLeDiff, hz0, hT]) <;> (try simp at hc) <;> (try (exfalso; omega))) | (refine pw_seq (pw_cond rfl (fun hc => ?_) (fun hc => ?_)) <;> (try simp at hc) <;> (try (exfalso; omega))) | (refine pw_cond rfl (fun hc => ?_) (fun hc => ?_) <;> (try simp at hc) <;> (try (exfalso; omega))) | with_reducible refine And.intro (by first | omega | (unfold inI; omega)) ?_)
    refine CallK.po (po_callM rfl rfl rfl rfl rfl (by simp [D.sc]) (by simp [D.sc]) rfl (by simp) (markResultS_ok xs0 (1) (by omega) (by omega)) ?_)
    repeat' (first | (with_reducible refine execL_step (fun K' hK' => ?_); (first | with_reducible refine s_none rfl ?_ | refine s_some2 rfl ?_); simp only [go_sem, Nat.reduceEqDiff, Nat.reduceLT, Nat.reduceAdd, Nat.reduceSub, Nat.reduceMul, Nat.reduceLeDiff, hT]) | (with_reducible refine hK' _ ?_; clear hK' K') | with_reducible refine execL_nil ?_ | (with_reducible refine hK _ ?_; clear hK K; try simp only [go_sem, Nat.reduceEqDiff, Nat.reduceLT, Nat.reduceAdd, Nat.reduceSub, Nat.reduceMul, Nat.reduceLeDiff, hT]) | with_reducible refine pw_seq_opsK kl7 G_ok (fun K hK => ?_) | (with_reducible refine CallK.eq (eqIntS_ok g1 g1 (by omega) (by omega)) ?_ ?_; (focus (simp [RV.flat, D.sc, datI]; done)); try simp only [go_sem, Nat.reduceEqDiff, Nat.reduceLT, Nat.reduceAdd, Nat.reduceSub, Nat.reduceMul, Nat.reduceLeDiff, hT]) | with_reducible refine pw_seq (x := .seq _ _) ?_ | with_reducible refine thenA_normal ?_ | with_reducible refine thenA_exit ?_ | with_reducible refine thenA_ret ?_ | with_reducible refine inBlockA_same ?_ | with_reducible refine inBlockA_ret ?_ | with_reducible refine inBlockA_normal ?_ | refine inBlockA_other (by decide) ?_ | with_reducible refine pw_seq (pw_block ?_) | with_reducible refine pw_seq (pw_skip (thenA_normal ?_)) | with_reducible refine pw_skip ?_ | with_reducible refine pw_exit ?_ | with_reducible refine pw_ret ?_ | with_reducible refine pw_ops G_ok (fun K hK => ?_) | with_reducible refine pw_block ?_ | (with_reducible refine pK_mk (fun hc => ?_) (fun hc => ?_) <;> (try simp only [go_sem, Nat.reduceEqDiff, Nat.reduceLT, Nat.reduceAdd, Nat.reduceSub, Nat.reduceMul, Nat.reduceLeDiff, hT]) <;> (try simp at hc) <;> (try (exfalso; omega))) | (refine pw_seq (pw_cond rfl (fun hc => ?_) (fun hc => ?_)) <;> (try simp at hc) <;> (try (exfalso; omega))) | (refine pw_cond rfl (fun hc => ?_) (fun hc => ?_) <;> (try simp at hc) <;> (try (exfalso; omega))) | with_reducible refine And.intro (by first | omega | (unfold inI; omega)) ?_)
    refine CallK.po (po_callMr rfl rfl rfl rfl rfl (by simp [D.sc]) (by simp [D.sc]) rfl (by simp) (flatE_datI _) (flatE_datI _) (markIntS_ok g1 (1) (by omega) (by omega)) ?_)
    repeat' (first | (with_reducible refine execL_step (fun K' hK' => ?_); (first | with_reducible refine s_none rfl ?_ | refine s_some2 rfl ?_); simp only [go_sem, Nat.reduceEqDiff, Nat.reduceLT, Nat.reduceAdd, Nat.reduceSub, Nat.reduceMul, Nat.reduceLeDiff, hT, hm1]) | (with_reducible refine hK' _ ?_; clear hK' K') | with_reducible refine execL_nil ?_ | (with_reducible refine hK _ ?_; clear hK K; try simp only [go_sem, Nat.reduceEqDiff, Nat.reduceLT, Nat.reduceAdd, Nat.reduceSub, Nat.reduceMul, Nat.reduceLeDiff, hT, hm1]) | with_reducible refine pw_seq_opsK kl7 G_ok (fun K hK => ?_) | (with_reducible refine CallK.eq (heldIntS_ok (1) g1.length (by omega) (by omega)) ?_ ?_; (focus (simp [RV.flat, D.sc, datI]; done)); try simp only [go_sem, Nat.reduceEqDiff, Nat.reduceLT, Nat.reduceAdd, Nat.reduceSub, Nat.reduceMul, Nat.reduceLeDiff, hT, hm1]) | (with_reducible refine CallK.eq (toResultS_ok xs0 hl0 hk0) ?_ ?_; (focus (simp [RV.flat, D.sc, datI]; done)); try simp only [go_sem, Nat.reduceEqDiff, Nat.reduceLT, Nat.reduceAdd, Nat.reduceSub, Nat.reduceMul, Nat.reduceLeDiff, hT, hm1]) | (with_reducible refine CallK.eq (himpl) ?_ ?_; (focus (simp [RV.flat, D.sc, datI]; done)); try simp only [go_sem, Nat.reduceEqDiff, Nat.reduceLT, Nat.reduceAdd, Nat.reduceSub, Nat.reduceMul, Nat.reduceLeDiff, hT, hm1]) | (with_reducible refine CallK.eq (eqIntS_ok g1 g1 (by omega) (by omega)) ?_ ?_; (focus (simp [RV.flat, D.sc, datI]; done)); try simp only [go_sem, Nat.reduceEqDiff, Nat.reduceLT, Nat.reduceAdd, Nat.reduceSub, Nat.reduceMul, Nat.reduceLeDiff, hT, hm1]) | with_reducible refine pw_seq (x := .seq _ _) ?_ | with_reducible refine thenA_normal ?_ | with_reducible refine thenA_exit ?_ | with_reducible refine thenA_ret ?_ | with_reducible refine inBlockA_same ?_ | with_reducible refine inBlockA_ret ?_ | with_reducible refine inBlockA_normal ?_ | refine inBlockA_other (by decide) ?_ | with_reducible refine pw_seq (pw_block ?_) | with_reducible refine pw_seq (pw_skip (thenA_normal ?_)) | with_reducible refine pw_skip ?_ | with_reducible refine pw_exit ?_ | with_reducible refine pw_ret ?_ | with_reducible refine pw_ops G_ok (fun K hK => ?_) | with_reducible refine pw_block ?_ | (with_reducible refine pK_mk (fun hc => ?_) (fun hc => ?_) <;> (try simp only [go_sem, Nat.reduceEqDiff, Nat.reduceLT, Nat.reduceAdd, Nat.reduceSub, Nat.reduceMul, Nat.reduceLeDiff, hT, hm1]) <;> (try simp at hc) <;> (try (exfalso; omega))) | (refine pw_seq (pw_cond rfl (fun hc => ?_) (fun hc => ?_)) <;> (try simp at hc) <;> (try (exfalso; omega))) | (refine pw_cond rfl (fun hc => ?_) (fun hc => ?_) <;> (try simp at hc) <;> (try (exfalso; omega))) | with_reducible refine And.intro (by first | omega | (unfold inI; omega)) ?_)
    all_goals first
      | (exfalso; omega)
      | (refine retQ_ret rfl rfl (by simp [rowsOf, lk]) ?_; rfl)
  · have hz0 := szOf_lt (left := ((1048576 : Int))) (n := ((xs0.length + cntR xs0 : Nat) : Int)) (by omega)
    repeat' (first | (with_reducible refine execL_step (fun K' hK' => ?_); (first | with_reducible refine s_none rfl ?_ | refine s_some2 rfl ?_); simp only [go_sem, Nat.reduceEqDiff, Nat.reduceLT, Nat.reduceAdd, Nat.reduceSub, Nat.reduceMul, Nat.reduceLeDiff, hz0]) | (with_reducible refine hK' _ ?_; clear hK' K') | with_reducible refine execL_nil ?_ | (with_reducible refine hK _ ?_; clear hK K; try simp only [go_sem, Nat.reduceEqDiff, Nat.reduceLT, Nat.reduceAdd, Nat.reduceSub, Nat.reduceMul, Nat.reduceLeDiff, hz0]) | with_reducible refine pw_seq_opsK kl7 G_ok (fun K hK => ?_) | (with_reducible refine CallK.eq (szResultS_ok xs0 hn0 hs0 _ (by omega) (by omega)) ?_ ?_; (focus (simp [RV.flat, D.sc, datI]; done)); try simp only [go_sem, Nat.reduceEqDiff, Nat.reduceLT, Nat.reduceAdd, Nat.reduceSub, Nat.reduceMul, Nat.reduceLeDiff, hz0]) | with_reducible refine pw_seq (x := .seq _ _) ?_ | with_reducible refine thenA_normal ?_ | with_reducible refine thenA_exit ?_ | with_reducible refine thenA_ret ?_ | with_reducible refine inBlockA_same ?_ | with_reducible refine inBlockA_ret ?_ | with_reducible refine inBlockA_normal ?_ | refine inBlockA_other (by decide) ?_ | with_reducible refine pw_seq (pw_block ?_) | with_reducible refine pw_seq (pw_skip (thenA_normal ?_)) | with_reducible refine pw_skip ?_ | with_reducible refine pw_exit ?_ | with_reducible refine pw_ret ?_ | with_reducible refine pw_ops G_ok (fun K hK => ?_) | with_reducible refine pw_block ?_ | (with_reducible refine pK_mk (fun hc => ?_) (fun hc => ?_) <;> (try simp only [go_sem, Nat.reduceEqDiff, Nat.reduceLT, Nat.reduceAdd, Nat.reduceSub, Nat.reduceMul, Nat.reduceLeDiff, hz0]) <;> (try simp at hc) <;> (try (exfalso; omega))) | (refine pw_seq (pw_cond rfl (fun hc => ?_) (fun hc => ?_)) <;> (try simp at hc) <;> (try (exfalso; omega))) | (refine pw_cond rfl (fun hc => ?_) (fun hc => ?_) <;> (try simp at hc) <;> (try (exfalso; omega))) | with_reducible refine And.intro (by first | omega | (unfold inI; omega)) ?_)
    all_goals (refine retQ_ret rfl rfl (by simp [rowsOf, lk]) ?_; rfl)

theorem own : ownKnob Try.prog.godebug = none := by kernel_rfl
theorem laidOut : laidOutB Try.prog = true := by kernel_rfl
set_option linter.unusedVariables false in
set_option maxRecDepth 100000 in
theorem lifted (os : Os) (started : os.Started) (H : Type) (enc : TypeId × Value → H) :
    ReturnsInHanded {} Try.checked os 7 .any (Rows.fnExactEdgeOfSpec.pre6 enc Try.prog Try.f7 Rows.fnExactEdgeOfRow.domain false) (Rows.fnExactEdgeOfSpec.post enc Try.prog Try.f7 false true false false) := by
  refine returnsInHanded_of_change (C := Try.checked) own started (by kernel_rfl) Try.func7
    (ChangeSpec.witness6 (enc := enc) (C := Try.checked) false ⟨#[], #[.slice none 0 0, .int .i64 0], []⟩ 8 (by kernel_rfl) (by kernel_rfl) (by kernel_rfl) (by kernel_rfl)) ?_
  intro W base args ds gs before hval0 hW hcnd _
  have hval : ∀ (j : Nat) t v, Try.f7.params[j]? = some t → args[j]? = some v → Value.okWide Try.prog W .any base t v := hval0
  have hW' := hW
  obtain ⟨p, q, hA0, hV, rfl, hfz, hnd⟩ := hW
  have hA : DataW.TrodAll enc Try.prog W 0 (fun _ => true) true Try.f7.params.toList args.toList ds p := hA0
  rw [Try.params7] at hA hval
  obtain ⟨v0, vs0, d0, ds0, p0, q0, hargs, rfl, rfl, h0, r0⟩ := trodAll_cons hA
  obtain ⟨v1, vs1, d1, ds1, p1, q1, rfl, rfl, rfl, h1, r1⟩ := trodAll_cons r0
  obtain ⟨rfl, rfl, rfl⟩ := trodAll_nil r1
  obtain rfl : args = #[v0, v1] := by cases args; simp_all
  obtain ⟨rfl, rfl⟩ := trodVars_none hV
  have k0 := h0
  have lt0 := below_lt k0
  obtain ⟨s0, len0, cap0, rfl⟩ := okWide_slice Try.underlying22 (hval 0 22 v0 rfl rfl)
  obtain ⟨fuel0, hf0⟩ := h0
  obtain ⟨x0, m0, rd0⟩ := open_resultS.2 _ _ _ hf0
  have R0 := R_of_crd1 rfl rd0
  clear hf0
  obtain ⟨a1, rfl, rfl, rfl, w1⟩ := open_int Try.underlying3 (hval 1 3 v1 rfl rfl) h1
  clear hA0 hval0
  refine (mwalk (law_EdgeOf_ok x0 m0 a1 (inI_of_wf w1)) W _ rfl (args2 R0 (R_int W a1))).mono fun e W' ⟨he, bel⟩ => ?_
  subst he
  exact ⟨_, rfl, _, _, _, [], _, [], hW', trodAll_mk1 (shut_bool Try.underlying4 _), (trodAll_cons_mk (Below.trod laidOut (by kernel_rfl) (of_decide_eq_true (by kernel_rfl)) k0 bel lt0) (trodAll_cons_mk (shut_int Try.underlying3 w1) trodAll_mk0)), rfl, bel.frame _, fun h => by cases h⟩
theorem over : Rows.fnExactEdgeOfRow.holds Try.pinned (OpenSpec.ofChange Rows.fnExactEdgeOfSpec) :=
  OpenClaim.holds_of_wide 7 Try.f7 rfl rfl rfl rfl rfl rfl rfl ⟨rfl, rfl, rfl, rfl, rfl⟩ rfl rfl rfl rfl rfl (by kernel_rfl) Try.func7 (by kernel_rfl)
    (of_decide_eq_true (by kernel_rfl)) (by unfold Func.isWrapper; first | (rw [if_pos (by decide +kernel)]; kernel_rfl) | (rw [if_neg (by decide +kernel)]; exact ⟨rfl, rfl⟩))
    (fun os started H enc _ => lifted os started H enc)
theorem proved : Rows.FnExactEdgeOfSaid := over
end Go.Proofs.Ytnjmnehnpjldpaa.lawEdgeOf
