/- WithdrawnBefore of the program returns what the reference returns, for all notes and segments, in memory of its own: the statement's row, proved. No conditions. -/
import Derived.Test.YtnjmnehnpjldpaaRows
import Derived.Test.YtnjmnehnpjldpaaWb
import Derived.Test.YtnjmnehnpjldpaaNm
namespace Go.Proofs.Ytnjmnehnpjldpaa.lawWithdrawnBefore
open Go.ChangeShapes Go.WideShapes Go.ChangeAt Go.RowKit Go.Deep

theorem len (l : List NoteD) (s : Int) : ((ansWithdrawnBefore l s).getD []).length ≤ 40 := by
  by_cases hv : NotesOk l ∧ 0 ≤ s ∧ s ≤ 2
  · simp only [ansWithdrawnBefore]; rw [optP_pos hv]; simp only [Option.getD_some]; exact Nat.le_trans (wbA_len hv.1 s) hv.1.1
  · simp only [ansWithdrawnBefore]; rw [optP_neg hv]; simp
set_option linter.unusedSimpArgs false in set_option linter.unusedVariables false in set_option maxHeartbeats 2000000 in set_option maxRecDepth 100000 in
theorem law_WithdrawnBefore_ok (xs0 : List NoteD) (m0 : xs0.length ≤ maxLen ∧ ∀ r ∈ xs0, True) (a1 : Int) (w1 : inI a1) : FnEq Try.prog 4 [.d (.lst 3 (xs0.map NoteD.dat)), .d (.int .i64 a1)] [.d (.bool true)] := by
  have hn0 := m0.1
  unfold maxLen at hn0
  refine fn_ok G_ok Try.func4 rfl rfl ?_; simp only [Try.ntmps4, List.length_cons, List.length_nil, Nat.reduceAdd, Nat.reduceSub, enm]
  by_cases hle0 : ((xs0.length : Nat) : Int) ≤ ((1048576 : Int))
  · have hz0 := szOf_ge hle0
    have hl0 : xs0.length ≤ 1048576 := by omega
    have hspec := spec_WithdrawnBefore_ok xs0 a1 hl0
    have himpl := impl_WithdrawnBefore_ok xs0 a1 hl0
    have hlen := len xs0 a1
    generalize (ansWithdrawnBefore xs0 a1).isSome = b at hspec himpl
    generalize ((ansWithdrawnBefore xs0 a1).getD []) = g0 at hspec himpl hlen
    have hlen0 := hlen
    have hT : bP True = true := bP_true trivial
    have hm0 := mkI_len (1) g0.length
    repeat' (first | (with_reducible refine execL_step (fun K' hK' => ?_); (first | with_reducible refine s_none rfl ?_ | refine s_some2 rfl ?_); simp only [go_sem, Nat.reduceEqDiff, Nat.reduceLT, Nat.reduceAdd, Nat.reduceSub, Nat.reduceMul, Nat.reduceLeDiff, hz0, hT]) | (with_reducible refine hK' _ ?_; clear hK' K') | with_reducible refine execL_nil ?_ | (with_reducible refine hK _ ?_; clear hK K; try simp only [go_sem, Nat.reduceEqDiff, Nat.reduceLT, Nat.reduceAdd, Nat.reduceSub, Nat.reduceMul, Nat.reduceLeDiff, hz0, hT]) | with_reducible refine pw_seq_opsK kl4 G_ok (fun K hK => ?_) | (with_reducible refine CallK.eq (szNoteS_ok xs0 hn0 _ (by omega) (by omega)) ?_ ?_; (focus (simp [RV.flat, D.sc, datI]; done)); try simp only [go_sem, Nat.reduceEqDiff, Nat.reduceLT, Nat.reduceAdd, Nat.reduceSub, Nat.reduceMul, Nat.reduceLeDiff, hz0, hT]) | (with_reducible refine CallK.eq (toNoteS_ok xs0 hl0) ?_ ?_; (focus (simp [RV.flat, D.sc, datI]; done)); try simp only [go_sem, Nat.reduceEqDiff, Nat.reduceLT, Nat.reduceAdd, Nat.reduceSub, Nat.reduceMul, Nat.reduceLeDiff, hz0, hT]) | (with_reducible refine CallK.eq (hspec) ?_ ?_; (focus (simp [RV.flat, D.sc, datI]; done)); try simp only [go_sem, Nat.reduceEqDiff, Nat.reduceLT, Nat.reduceAdd, Nat.reduceSub, Nat.reduceMul, Nat.reduceLeDiff, hz0, hT]) | (with_reducible refine CallK.eq (himpl) ?_ ?_; (focus (simp [RV.flat, D.sc, datI]; done)); try simp only [go_sem, Nat.reduceEqDiff, Nat.reduceLT, Nat.reduceAdd, Nat.reduceSub, Nat.reduceMul, Nat.reduceLeDiff, hz0, hT]) | (with_reducible refine CallK.eq (eqIntS_ok g0 g0 (by omega) (by omega)) ?_ ?_; (focus (simp [RV.flat, D.sc, datI]; done)); try simp only [go_sem, Nat.reduceEqDiff, Nat.reduceLT, Nat.reduceAdd, Nat.reduceSub, Nat.reduceMul, Nat.reduceLeDiff, hz0, hT]) | (with_reducible refine CallK.eq (eqNoteS_ok xs0 xs0 hl0 hn0) ?_ ?_; (focus (simp [RV.flat, D.sc, datI]; done)); try simp only [go_sem, Nat.reduceEqDiff, Nat.reduceLT, Nat.reduceAdd, Nat.reduceSub, Nat.reduceMul, Nat.reduceLeDiff, hz0, hT]) | with_reducible refine pw_seq (x := .seq _ _) ?_ | with_reducible refine thenA_normal ?_ | with_reducible refine thenA_exit ?_ | with_reducible refine thenA_ret ?_ | with_reducible refine inBlockA_same ?_ | with_reducible refine inBlockA_ret ?_ | with_reducible refine inBlockA_normal ?_ | refine inBlockA_other (by decide) ?_ | with_reducible refine pw_seq (pw_block ?_) | with_reducible refine pw_seq (pw_skip (thenA_normal ?_)) | with_reducible refine pw_skip ?_ | with_reducible refine pw_exit ?_ | with_reducible refine pw_ret ?_ | with_reducible refine pw_ops G_ok (fun K hK => ?_) | with_reducible refine pw_block ?_ | (with_reducible refine pK_mk (fun hc => ?_) (fun hc => ?_) <;> (try simp only [go_sem, Nat.reduceEqDiff, Nat.reduceLT, Nat.reduceAdd, Nat.reduceSub, Nat.reduceMul, Nat.reduceLeDiff, hz0, hT]) <;> (try simp at hc) <;> (try (exfalso; omega))) | (refine pw_seq (pw_cond rfl (fun hc => ?_) (fun hc => ?_)) <;> (try simp at hc) <;> (try (exfalso; omega))) | (refine pw_cond rfl (fun hc => ?_) (fun hc => ?_) <;> (try simp at hc) <;> (try (exfalso; omega))) | with_reducible refine And.intro (by first | omega | (unfold inI; omega)) ?_)
    refine CallK.po (po_callMr rfl rfl rfl rfl rfl (by simp [D.sc]) (by simp [D.sc]) rfl (by simp) (flatE_Note _) (flatE_Note _) (markNoteS_ok xs0 (1) (by omega) (by omega)) ?_)
    simp only [nAtNote]
    repeat' (first | (with_reducible refine execL_step (fun K' hK' => ?_); (first | with_reducible refine s_none rfl ?_ | refine s_some2 rfl ?_); simp only [go_sem, Nat.reduceEqDiff, Nat.reduceLT, Nat.reduceAdd, Nat.reduceSub, Nat.reduceMul, Nat.reduceLeDiff, hT]) | (with_reducible refine hK' _ ?_; clear hK' K') | with_reducible refine execL_nil ?_ | (with_reducible refine hK _ ?_; clear hK K; try simp only [go_sem, Nat.reduceEqDiff, Nat.reduceLT, Nat.reduceAdd, Nat.reduceSub, Nat.reduceMul, Nat.reduceLeDiff, hT]) | with_reducible refine pw_seq_opsK kl4 G_ok (fun K hK => ?_) | (with_reducible refine CallK.eq (eqIntS_ok g0 g0 (by omega) (by omega)) ?_ ?_; (focus (simp [RV.flat, D.sc, datI]; done)); try simp only [go_sem, Nat.reduceEqDiff, Nat.reduceLT, Nat.reduceAdd, Nat.reduceSub, Nat.reduceMul, Nat.reduceLeDiff, hT]) | with_reducible refine pw_seq (x := .seq _ _) ?_ | with_reducible refine thenA_normal ?_ | with_reducible refine thenA_exit ?_ | with_reducible refine thenA_ret ?_ | with_reducible refine inBlockA_same ?_ | with_reducible refine inBlockA_ret ?_ | with_reducible refine inBlockA_normal ?_ | refine inBlockA_other (by decide) ?_ | with_reducible refine pw_seq (pw_block ?_) | with_reducible refine pw_seq (pw_skip (thenA_normal ?_)) | with_reducible refine pw_skip ?_ | with_reducible refine pw_exit ?_ | with_reducible refine pw_ret ?_ | with_reducible refine pw_ops G_ok (fun K hK => ?_) | with_reducible refine pw_block ?_ | (with_reducible refine pK_mk (fun hc => ?_) (fun hc => ?_) <;> (try simp only [go_sem, Nat.reduceEqDiff, Nat.reduceLT, Nat.reduceAdd, Nat.reduceSub, Nat.reduceMul, Nat.reduceLeDiff, hT]) <;> (try simp at hc) <;> (try (exfalso; omega))) | (refine pw_seq (pw_cond rfl (fun hc => ?_) (fun hc => ?_)) <;> (try simp at hc) <;> (try (exfalso; omega))) | (refine pw_cond rfl (fun hc => ?_) (fun hc => ?_) <;> (try simp at hc) <;> (try (exfalso; omega))) | with_reducible refine And.intro (by first | omega | (unfold inI; omega)) ?_)
    refine CallK.po (po_callMr rfl rfl rfl rfl rfl (by simp [D.sc]) (by simp [D.sc]) rfl (by simp) (flatE_datI _) (flatE_datI _) (markIntS_ok g0 (1) (by omega) (by omega)) ?_)
    repeat' (first | (with_reducible refine execL_step (fun K' hK' => ?_); (first | with_reducible refine s_none rfl ?_ | refine s_some2 rfl ?_); simp only [go_sem, Nat.reduceEqDiff, Nat.reduceLT, Nat.reduceAdd, Nat.reduceSub, Nat.reduceMul, Nat.reduceLeDiff, hT, hm0]) | (with_reducible refine hK' _ ?_; clear hK' K') | with_reducible refine execL_nil ?_ | (with_reducible refine hK _ ?_; clear hK K; try simp only [go_sem, Nat.reduceEqDiff, Nat.reduceLT, Nat.reduceAdd, Nat.reduceSub, Nat.reduceMul, Nat.reduceLeDiff, hT, hm0]) | with_reducible refine pw_seq_opsK kl4 G_ok (fun K hK => ?_) | (with_reducible refine CallK.eq (heldIntS_ok (1) g0.length (by omega) (by omega)) ?_ ?_; (focus (simp [RV.flat, D.sc, datI]; done)); try simp only [go_sem, Nat.reduceEqDiff, Nat.reduceLT, Nat.reduceAdd, Nat.reduceSub, Nat.reduceMul, Nat.reduceLeDiff, hT, hm0]) | (with_reducible refine CallK.eq (toNoteS_ok xs0 hl0) ?_ ?_; (focus (simp [RV.flat, D.sc, datI]; done)); try simp only [go_sem, Nat.reduceEqDiff, Nat.reduceLT, Nat.reduceAdd, Nat.reduceSub, Nat.reduceMul, Nat.reduceLeDiff, hT, hm0]) | (with_reducible refine CallK.eq (himpl) ?_ ?_; (focus (simp [RV.flat, D.sc, datI]; done)); try simp only [go_sem, Nat.reduceEqDiff, Nat.reduceLT, Nat.reduceAdd, Nat.reduceSub, Nat.reduceMul, Nat.reduceLeDiff, hT, hm0]) | (with_reducible refine CallK.eq (eqIntS_ok g0 g0 (by omega) (by omega)) ?_ ?_; (focus (simp [RV.flat, D.sc, datI]; done)); try simp only [go_sem, Nat.reduceEqDiff, Nat.reduceLT, Nat.reduceAdd, Nat.reduceSub, Nat.reduceMul, Nat.reduceLeDiff, hT, hm0]) | with_reducible refine pw_seq (x := .seq _ _) ?_ | with_reducible refine thenA_normal ?_ | with_reducible refine thenA_exit ?_ | with_reducible refine thenA_ret ?_ | with_reducible refine inBlockA_same ?_ | with_reducible refine inBlockA_ret ?_ | with_reducible refine inBlockA_normal ?_ | refine inBlockA_other (by decide) ?_ | with_reducible refine pw_seq (pw_block ?_) | with_reducible refine pw_seq (pw_skip (thenA_normal ?_)) | with_reducible refine pw_skip ?_ | with_reducible refine pw_exit ?_ | with_reducible refine pw_ret ?_ | with_reducible refine pw_ops G_ok (fun K hK => ?_) | with_reducible refine pw_block ?_ | (with_reducible refine pK_mk (fun hc => ?_) (fun hc => ?_) <;> (try simp only [go_sem, Nat.reduceEqDiff, Nat.reduceLT, Nat.reduceAdd, Nat.reduceSub, Nat.reduceMul, Nat.reduceLeDiff, hT, hm0]) <;> (try simp at hc) <;> (try (exfalso; omega))) | (refine pw_seq (pw_cond rfl (fun hc => ?_) (fun hc => ?_)) <;> (try simp at hc) <;> (try (exfalso; omega))) | (refine pw_cond rfl (fun hc => ?_) (fun hc => ?_) <;> (try simp at hc) <;> (try (exfalso; omega))) | with_reducible refine And.intro (by first | omega | (unfold inI; omega)) ?_)
    all_goals first
      | (exfalso; omega)
      | (refine retQ_ret rfl rfl (by simp [rowsOf, lk]) ?_; rfl)
  · have hz0 := szOf_lt (left := ((1048576 : Int))) (n := ((xs0.length : Nat) : Int)) (by omega)
    repeat' (first | (with_reducible refine execL_step (fun K' hK' => ?_); (first | with_reducible refine s_none rfl ?_ | refine s_some2 rfl ?_); simp only [go_sem, Nat.reduceEqDiff, Nat.reduceLT, Nat.reduceAdd, Nat.reduceSub, Nat.reduceMul, Nat.reduceLeDiff, hz0]) | (with_reducible refine hK' _ ?_; clear hK' K') | with_reducible refine execL_nil ?_ | (with_reducible refine hK _ ?_; clear hK K; try simp only [go_sem, Nat.reduceEqDiff, Nat.reduceLT, Nat.reduceAdd, Nat.reduceSub, Nat.reduceMul, Nat.reduceLeDiff, hz0]) | with_reducible refine pw_seq_opsK kl4 G_ok (fun K hK => ?_) | (with_reducible refine CallK.eq (szNoteS_ok xs0 hn0 _ (by omega) (by omega)) ?_ ?_; (focus (simp [RV.flat, D.sc, datI]; done)); try simp only [go_sem, Nat.reduceEqDiff, Nat.reduceLT, Nat.reduceAdd, Nat.reduceSub, Nat.reduceMul, Nat.reduceLeDiff, hz0]) | with_reducible refine pw_seq (x := .seq _ _) ?_ | with_reducible refine thenA_normal ?_ | with_reducible refine thenA_exit ?_ | with_reducible refine thenA_ret ?_ | with_reducible refine inBlockA_same ?_ | with_reducible refine inBlockA_ret ?_ | with_reducible refine inBlockA_normal ?_ | refine inBlockA_other (by decide) ?_ | with_reducible refine pw_seq (pw_block ?_) | with_reducible refine pw_seq (pw_skip (thenA_normal ?_)) | with_reducible refine pw_skip ?_ | with_reducible refine pw_exit ?_ | with_reducible refine pw_ret ?_ | with_reducible refine pw_ops G_ok (fun K hK => ?_) | with_reducible refine pw_block ?_ | (with_reducible refine pK_mk (fun hc => ?_) (fun hc => ?_) <;> (try simp only [go_sem, Nat.reduceEqDiff, Nat.reduceLT, Nat.reduceAdd, Nat.reduceSub, Nat.reduceMul, Nat.reduceLeDiff, hz0]) <;> (try simp at hc) <;> (try (exfalso; omega))) | (refine pw_seq (pw_cond rfl (fun hc => ?_) (fun hc => ?_)) <;> (try simp at hc) <;> (try (exfalso; omega))) | (refine pw_cond rfl (fun hc => ?_) (fun hc => ?_) <;> (try simp at hc) <;> (try (exfalso; omega))) | with_reducible refine And.intro (by first | omega | (unfold inI; omega)) ?_)
    all_goals (refine retQ_ret rfl rfl (by simp [rowsOf, lk]) ?_; rfl)

theorem own : ownKnob Try.prog.godebug = none := by kernel_rfl
theorem laidOut : laidOutB Try.prog = true := by kernel_rfl
set_option linter.unusedVariables false in
set_option maxRecDepth 100000 in
theorem lifted (os : Os) (started : os.Started) (H : Type) (enc : TypeId × Value → H) :
    ReturnsInHanded {} Try.checked os 4 .any (Rows.fnExactWithdrawnBeforeSpec.pre6 enc Try.prog Try.f4 Rows.fnExactWithdrawnBeforeRow.domain false) (Rows.fnExactWithdrawnBeforeSpec.post enc Try.prog Try.f4 false true false false) := by
  refine returnsInHanded_of_change (C := Try.checked) own started (by kernel_rfl) Try.func4
    (ChangeSpec.witness6 (enc := enc) (C := Try.checked) false ⟨#[], #[.slice none 0 0, .int .i64 0], []⟩ 8 (by kernel_rfl) (by kernel_rfl) (by kernel_rfl) (by kernel_rfl)) ?_
  intro W base args ds gs before hval0 hW hcnd _
  have hval : ∀ (j : Nat) t v, Try.f4.params[j]? = some t → args[j]? = some v → Value.okWide Try.prog W .any base t v := hval0
  have hW' := hW
  obtain ⟨p, q, hA0, hV, rfl, hfz, hnd⟩ := hW
  have hA : DataW.TrodAll enc Try.prog W 0 (fun _ => true) true Try.f4.params.toList args.toList ds p := hA0
  rw [Try.params4] at hA hval
  obtain ⟨v0, vs0, d0, ds0, p0, q0, hargs, rfl, rfl, h0, r0⟩ := trodAll_cons hA
  obtain ⟨v1, vs1, d1, ds1, p1, q1, rfl, rfl, rfl, h1, r1⟩ := trodAll_cons r0
  obtain ⟨rfl, rfl, rfl⟩ := trodAll_nil r1
  obtain rfl : args = #[v0, v1] := by cases args; simp_all
  obtain ⟨rfl, rfl⟩ := trodVars_none hV
  have k0 := h0
  have lt0 := below_lt k0
  obtain ⟨s0, len0, cap0, rfl⟩ := okWide_slice Try.underlying35 (hval 0 35 v0 rfl rfl)
  obtain ⟨fuel0, hf0⟩ := h0
  obtain ⟨x0, m0, rd0⟩ := open_NoteS.2 _ _ _ hf0
  have R0 := R_of_crd1 rfl rd0
  clear hf0
  obtain ⟨a1, rfl, rfl, rfl, w1⟩ := open_int Try.underlying3 (hval 1 3 v1 rfl rfl) h1
  clear hA0 hval0
  refine (mwalk (law_WithdrawnBefore_ok x0 m0 a1 (inI_of_wf w1)) W _ rfl (args2 R0 (R_int W a1))).mono fun e W' ⟨he, bel⟩ => ?_
  subst he
  exact ⟨_, rfl, _, _, _, [], _, [], hW', trodAll_mk1 (shut_bool Try.underlying4 _), (trodAll_cons_mk (Below.trod laidOut (by kernel_rfl) (of_decide_eq_true (by kernel_rfl)) k0 bel lt0) (trodAll_cons_mk (shut_int Try.underlying3 w1) trodAll_mk0)), rfl, bel.frame _, fun h => by cases h⟩
theorem over : Rows.fnExactWithdrawnBeforeRow.holds Try.pinned (OpenSpec.ofChange Rows.fnExactWithdrawnBeforeSpec) :=
  OpenClaim.holds_of_wide 4 Try.f4 rfl rfl rfl rfl rfl rfl rfl ⟨rfl, rfl, rfl, rfl, rfl⟩ rfl rfl rfl rfl rfl (by kernel_rfl) Try.func4 (by kernel_rfl)
    (of_decide_eq_true (by kernel_rfl)) (by unfold Func.isWrapper; first | (rw [if_pos (by decide +kernel)]; kernel_rfl) | (rw [if_neg (by decide +kernel)]; exact ⟨rfl, rfl⟩))
    (fun os started H enc _ => lifted os started H enc)
theorem proved : Rows.FnExactWithdrawnBeforeSaid := over
end Go.Proofs.Ytnjmnehnpjldpaa.lawWithdrawnBefore
