/- AsHistory of the program returns what the reference returns, for all items and inquiries, in memory of its own: the statement's row, proved. No conditions. -/
import Derived.Test.YteinekbgnleohaaRows
import Derived.Test.YteinekbgnleohaaIh
import Derived.Test.YteinekbgnleohaaInm
import Derived.Test.YteinekbgnleohaaMi
set_option linter.unusedSimpArgs false
set_option linter.unusedVariables false
set_option maxHeartbeats 2000000
set_option maxRecDepth 100000
namespace Go.Proofs.Yteinekbgnleohaa.lawAsHistory
open Go.ChangeShapes Go.WideShapes Go.ChangeAt Go.RowKit Go.Deep

theorem flat_rb {b : Bool} {ty : TypeId} {sz : Nat} {es : List (List D)} {v : Bool} (h : flatE es) : b = true → ∀ r ∈ [RV.row ty sz es, RV.d (.bool v)], r.flat := by
  intro _ r hr
  simp only [List.mem_cons, List.not_mem_nil, or_false] at hr
  rcases hr with rfl | rfl
  · exact h
  · simp [RV.flat, D.sc]
theorem gC_cnt (l : List ItemD) : gC szM l ≤ l.length + cntI l := by
  induction l with
  | nil => simp [gC, cntI]
  | cons x l ih => simp only [gC, cntI, List.map_cons, List.sum_cons, List.length_cons, szM, cntI1] at ih ⊢; omega
theorem hist_len (l : List ItemD) (q : List InquiryD) : ((ansAsHistory l q).getD []).length ≤ q.length := by
  by_cases h : IaOk l q
  · rw [show ansAsHistory l q = _ from optP_pos h]; exact fm_len _ _ _
  · rw [show ansAsHistory l q = _ from optP_neg h]; simp
theorem law_AsHistory_ok (xs0 : List ItemD) (m0 : xs0.length ≤ maxLen ∧ ∀ r ∈ xs0, ItFit maxLen r) (xs1 : List InquiryD) (m1 : xs1.length ≤ maxLen ∧ ∀ r ∈ xs1, True) : FnEq Try.prog 5 [.d (.lst 3 (xs0.map ItemD.dat)), .d (.lst 5 (xs1.map InquiryD.dat))] [.d (.bool true)] := by
  obtain ⟨hn0, hs0⟩ := m0
  replace hs0 : ∀ r ∈ xs0, ItFit 9223372036854775807 r := fun r hr => (hs0 r hr).mono (by decide)
  have hn1 := m1.1
  unfold maxLen at hn0 hn1
  refine fn_ok G_ok Try.func5 rfl rfl ?_; simp only [Try.ntmps5, List.length_cons, List.length_nil, Nat.reduceAdd, Nat.reduceSub, enm]
  by_cases hle0 : ((xs0.length + cntI xs0 : Nat) : Int) ≤ ((1048576 : Int))
  · have hz0 := szOf_ge hle0
    by_cases hle1 : ((xs1.length : Nat) : Int) ≤ ((1048576 : Int) - ((xs0.length + cntI xs0 : Nat) : Int))
    · have hz1 := szOf_ge hle1
      have hl0 : xs0.length ≤ 1048576 := by omega
      have hk0 : ∀ r ∈ xs0, ItFit 1048576 r := fun r hr => itFit_of (by have := cntI_mem hr; omega)
      have hl1 : xs1.length ≤ 1048576 := by omega
      have hT : bP True = true := bP_true trivial
      have hg0 := gC_cnt xs0
      have hspec := spec_AsHistory_ok xs0 xs1 hl0 hk0 hl1
      have himpl := impl_AsHistory_ok xs0 xs1 hl0 hk0 hl1
      have hgl := hist_len xs0 xs1
      generalize (ansAsHistory xs0 xs1).getD [] = g at hspec himpl hgl
      generalize (ansAsHistory xs0 xs1).isSome = b at hspec himpl
      have hgn : g.length ≤ 1048576 := by omega
      have hgn2 : g.length ≤ 9223372036854775807 := by omega
      have hmr := mkChange_len 1 g.length
      have hfl := flatE_Change g
      repeat' (first | ((with_reducible first | refine execL_step (fun K' hK' => ?_)); (first | with_reducible refine s_none rfl ?_ | refine s_some2 rfl ?_); simp only [go_sem, hz0, hz1, hT]) | (with_reducible refine hK' _ ?_; clear hK' K') | (with_reducible refine hK _ ?_; clear hK K; try simp only [go_sem, hz0, hz1, hT]) | with_reducible (first | refine stp ?_ | refine pw_seq_opsK kl5 G_ok (fun K hK => ?_) | refine pw_ops G_ok (fun K hK => ?_)) | ((with_reducible first | apply CallK.eq); (focus (with_reducible first | exact szItemS_ok xs0 hn0 hs0 _ (by omega) (by omega) | exact szInquiryS_ok xs1 hn1 _ (by omega) (by omega) | exact toItemS_ok xs0 hl0 hk0 | exact toInquiryS_ok xs1 hl1 | exact hspec | exact himpl | exact eqItemS_ok xs0 xs0 hl0 hn0 hk0 hs0 | exact eqInquiryS_ok xs1 xs1 hl1 hn1 | exact eqChangeS_ok g g hgn hgn2)); (focus (first | exact rfl | (simp [RV.flat, D.sc, datI]; done) | exact flat_rb (by assumption))); try simp only [go_sem, hz0, hz1, hT]) | refine inBlockA_other (by decide) ?_ | (with_reducible refine pK_mk (fun hc => ?_) (fun hc => ?_) <;> (try simp only [go_sem, hz0, hz1, hT]) <;> (try simp at hc) <;> (try (exfalso; omega))) | ((first | refine pw_seq (pw_cond rfl (fun hc => ?_) (fun hc => ?_)) | refine pw_cond rfl (fun hc => ?_) (fun hc => ?_)) <;> (try simp at hc) <;> (try (exfalso; omega))) | with_reducible refine And.intro (by first | omega | (unfold inI; omega) | exact andI_inI _) ?_)
      refine CallK.po (po_callM rfl rfl rfl rfl rfl (by simp [D.sc]) (by simp [D.sc]) rfl (by simp) (markItemS_ok xs0 1 (by omega) (by omega)) ?_)
      repeat' (first | ((with_reducible first | refine execL_step (fun K' hK' => ?_)); (first | with_reducible refine s_none rfl ?_ | refine s_some2 rfl ?_); simp only [go_sem]) | (with_reducible refine hK' _ ?_; clear hK' K') | (with_reducible refine hK _ ?_; clear hK K; try simp only [go_sem]) | with_reducible (first | refine stp ?_ | refine pw_seq_opsK kl5 G_ok (fun K hK => ?_) | refine pw_ops G_ok (fun K hK => ?_)) | refine inBlockA_other (by decide) ?_ | (with_reducible refine pK_mk (fun hc => ?_) (fun hc => ?_) <;> (try simp only [go_sem]) <;> (try simp at hc) <;> (try (exfalso; omega))) | ((first | refine pw_seq (pw_cond rfl (fun hc => ?_) (fun hc => ?_)) | refine pw_cond rfl (fun hc => ?_) (fun hc => ?_)) <;> (try simp at hc) <;> (try (exfalso; omega))) | with_reducible refine And.intro (by first | omega | (unfold inI; omega) | exact andI_inI _) ?_)
      refine CallK.po (po_callMr rfl rfl rfl rfl rfl (by simp [D.sc]) (by simp [D.sc]) rfl (by simp) (flatE_Inquiry _) (flatE_Inquiry _) (markInquiryS_ok xs1 (1 + (gC szM xs0 : Int)) (by omega) (by omega)) ?_)
      simp only [nAtInquiry]
      repeat' (first | ((with_reducible first | refine execL_step (fun K' hK' => ?_)); (first | with_reducible refine s_none rfl ?_ | refine s_some2 rfl ?_); simp only [go_sem, hT]) | (with_reducible refine hK' _ ?_; clear hK' K') | (with_reducible refine hK _ ?_; clear hK K; try simp only [go_sem, hT]) | with_reducible (first | refine stp ?_ | refine pw_seq_opsK kl5 G_ok (fun K hK => ?_) | refine pw_ops G_ok (fun K hK => ?_)) | ((with_reducible first | apply CallK.eq); (focus (with_reducible first | exact eqChangeS_ok g g hgn hgn2)); (focus (first | exact rfl | (simp [RV.flat, D.sc, datI]; done) | exact flat_rb (by assumption))); try simp only [go_sem, hT]) | refine inBlockA_other (by decide) ?_ | (with_reducible refine pK_mk (fun hc => ?_) (fun hc => ?_) <;> (try simp only [go_sem, hT]) <;> (try simp at hc) <;> (try (exfalso; omega))) | ((first | refine pw_seq (pw_cond rfl (fun hc => ?_) (fun hc => ?_)) | refine pw_cond rfl (fun hc => ?_) (fun hc => ?_)) <;> (try simp at hc) <;> (try (exfalso; omega))) | with_reducible refine And.intro (by first | omega | (unfold inI; omega) | exact andI_inI _) ?_)
      all_goals first
        | (exfalso; omega)
        | skip
      refine CallK.po (po_callMr rfl rfl rfl rfl rfl (by simp [D.sc]) (by simp [D.sc]) rfl (by simp) (flatE_Change _) (flatE_Change _) (markChangeS_ok g 1 (by omega) (by omega)) ?_)
      have hna : nAtChange 1 g.length = 1 + 6 * (g.length : Int) := rfl
      repeat' (first | ((with_reducible first | refine execL_step (fun K' hK' => ?_)); (first | with_reducible refine s_none rfl ?_ | refine s_some2 rfl ?_); simp only [go_sem, hT, hmr]) | (with_reducible refine hK' _ ?_; clear hK' K') | (with_reducible refine hK _ ?_; clear hK K; try simp only [go_sem, hT, hmr]) | with_reducible (first | refine stp ?_ | refine pw_seq_opsK kl5 G_ok (fun K hK => ?_) | refine pw_ops G_ok (fun K hK => ?_)) | ((with_reducible first | apply CallK.eq); (focus (with_reducible first | exact heldChangeS_ok 1 g.length (by omega) (by omega) | exact toItemS_ok xs0 hl0 hk0 | exact toInquiryS_ok xs1 hl1 | exact himpl | exact eqChangeS_ok g g hgn hgn2)); (focus (first | exact rfl | (simp [RV.flat, D.sc, datI]; done) | exact flat_rb (by assumption))); try simp only [go_sem, hT, hmr]) | refine inBlockA_other (by decide) ?_ | (with_reducible refine pK_mk (fun hc => ?_) (fun hc => ?_) <;> (try simp only [go_sem, hT, hmr]) <;> (try simp at hc) <;> (try (exfalso; omega))) | ((first | refine pw_seq (pw_cond rfl (fun hc => ?_) (fun hc => ?_)) | refine pw_cond rfl (fun hc => ?_) (fun hc => ?_)) <;> (try simp at hc) <;> (try (exfalso; omega))) | with_reducible refine And.intro (by first | omega | (unfold inI; omega) | exact andI_inI _) ?_)
      all_goals first
        | (exfalso; omega)
        | (refine retQ_ret rfl rfl (by simp [rowsOf, lk]) ?_; rfl)
    · have hz1 := szOf_lt (left := ((1048576 : Int) - ((xs0.length + cntI xs0 : Nat) : Int))) (n := ((xs1.length : Nat) : Int)) (by omega)
      repeat' (first | ((with_reducible first | refine execL_step (fun K' hK' => ?_)); (first | with_reducible refine s_none rfl ?_ | refine s_some2 rfl ?_); simp only [go_sem, hz0, hz1]) | (with_reducible refine hK' _ ?_; clear hK' K') | (with_reducible refine hK _ ?_; clear hK K; try simp only [go_sem, hz0, hz1]) | with_reducible (first | refine stp ?_ | refine pw_seq_opsK kl5 G_ok (fun K hK => ?_) | refine pw_ops G_ok (fun K hK => ?_)) | ((with_reducible first | apply CallK.eq); (focus (with_reducible first | exact szItemS_ok xs0 hn0 hs0 _ (by omega) (by omega) | exact szInquiryS_ok xs1 hn1 _ (by omega) (by omega))); (focus (first | exact rfl | (simp [RV.flat, D.sc, datI]; done) | exact flat_rb (by assumption))); try simp only [go_sem, hz0, hz1]) | refine inBlockA_other (by decide) ?_ | (with_reducible refine pK_mk (fun hc => ?_) (fun hc => ?_) <;> (try simp only [go_sem, hz0, hz1]) <;> (try simp at hc) <;> (try (exfalso; omega))) | ((first | refine pw_seq (pw_cond rfl (fun hc => ?_) (fun hc => ?_)) | refine pw_cond rfl (fun hc => ?_) (fun hc => ?_)) <;> (try simp at hc) <;> (try (exfalso; omega))) | with_reducible refine And.intro (by first | omega | (unfold inI; omega) | exact andI_inI _) ?_)
      all_goals first
        | (exfalso; omega)
        | (refine retQ_ret rfl rfl (by simp [rowsOf, lk]) ?_; rfl)
  · have hz0 := szOf_lt (left := (1048576 : Int)) (n := ((xs0.length + cntI xs0 : Nat) : Int)) (by omega)
    repeat' (first | ((with_reducible first | refine execL_step (fun K' hK' => ?_)); (first | with_reducible refine s_none rfl ?_ | refine s_some2 rfl ?_); simp only [go_sem, hz0]) | (with_reducible refine hK' _ ?_; clear hK' K') | (with_reducible refine hK _ ?_; clear hK K; try simp only [go_sem, hz0]) | with_reducible (first | refine stp ?_ | refine pw_seq_opsK kl5 G_ok (fun K hK => ?_) | refine pw_ops G_ok (fun K hK => ?_)) | ((with_reducible first | apply CallK.eq); (focus (with_reducible first | exact szItemS_ok xs0 hn0 hs0 _ (by omega) (by omega))); (focus (first | exact rfl | (simp [RV.flat, D.sc, datI]; done) | exact flat_rb (by assumption))); try simp only [go_sem, hz0]) | refine inBlockA_other (by decide) ?_ | (with_reducible refine pK_mk (fun hc => ?_) (fun hc => ?_) <;> (try simp only [go_sem, hz0]) <;> (try simp at hc) <;> (try (exfalso; omega))) | ((first | refine pw_seq (pw_cond rfl (fun hc => ?_) (fun hc => ?_)) | refine pw_cond rfl (fun hc => ?_) (fun hc => ?_)) <;> (try simp at hc) <;> (try (exfalso; omega))) | with_reducible refine And.intro (by first | omega | (unfold inI; omega) | exact andI_inI _) ?_)
    all_goals first
      | (exfalso; omega)
      | (refine retQ_ret rfl rfl (by simp [rowsOf, lk]) ?_; rfl)

theorem own : ownKnob Try.prog.godebug = none := by kernel_rfl
theorem laidOut : laidOutB Try.prog = true := by kernel_rfl
set_option linter.unusedVariables false in
set_option maxRecDepth 100000 in
theorem lifted (os : Os) (started : os.Started) (H : Type) (enc : TypeId × Value → H) :
    ReturnsInHanded {} Try.checked os 5 .any (Rows.fnExactAsHistorySpec.pre6 enc Try.prog Try.f5 Rows.fnExactAsHistoryRow.domain false) (Rows.fnExactAsHistorySpec.post enc Try.prog Try.f5 false true false false) := by
  refine returnsInHanded_of_change (C := Try.checked) own started (by kernel_rfl) Try.func5
    (ChangeSpec.witness6 (enc := enc) (C := Try.checked) false ⟨#[], #[.slice none 0 0, .slice none 0 0], []⟩ 8 (by kernel_rfl) (by kernel_rfl) (by kernel_rfl) (by kernel_rfl)) ?_
  intro W base args ds gs before hval0 hW hcnd _
  have hval : ∀ (j : Nat) t v, Try.f5.params[j]? = some t → args[j]? = some v → Value.okWide Try.prog W .any base t v := hval0
  have hW' := hW
  obtain ⟨p, q, hA0, hV, rfl, hfz, hnd⟩ := hW
  have hA : DataW.TrodAll enc Try.prog W 0 (fun _ => true) true Try.f5.params.toList args.toList ds p := hA0
  rw [Try.params5] at hA hval
  obtain ⟨v0, vs0, d0, ds0, p0, q0, hargs, rfl, rfl, h0, r0⟩ := trodAll_cons hA
  obtain ⟨v1, vs1, d1, ds1, p1, q1, rfl, rfl, rfl, h1, r1⟩ := trodAll_cons r0
  obtain ⟨rfl, rfl, rfl⟩ := trodAll_nil r1
  obtain rfl : args = #[v0, v1] := by cases args; simp_all
  obtain ⟨rfl, rfl⟩ := trodVars_none hV
  have k0 := h0
  have lt0 := below_lt k0
  obtain ⟨s0, len0, cap0, rfl⟩ := okWide_slice Try.underlying22 (hval 0 22 v0 rfl rfl)
  obtain ⟨fuel0, hf0⟩ := h0
  obtain ⟨x0, m0, rd0⟩ := open_itemS.2 _ _ _ hf0
  have R0 := R_of_crd1 rfl rd0
  clear hf0
  have k1 := h1
  have lt1 := below_lt k1
  obtain ⟨s1, len1, cap1, rfl⟩ := okWide_slice Try.underlying23 (hval 1 23 v1 rfl rfl)
  obtain ⟨fuel1, hf1⟩ := h1
  obtain ⟨x1, m1, rd1⟩ := open_InquiryS.2 _ _ _ hf1
  have R1 := R_of_crd1 rfl rd1
  clear hf1
  clear hA0 hval0
  refine (mwalk (law_AsHistory_ok x0 m0 x1 m1) W _ rfl (args2 R0 R1)).mono fun e W' ⟨he, bel⟩ => ?_
  subst he
  exact ⟨_, rfl, _, _, _, [], _, [], hW', trodAll_mk1 (shut_bool Try.underlying4 _), (trodAll_cons_mk (Below.trod laidOut (by kernel_rfl) (of_decide_eq_true (by kernel_rfl)) k0 bel lt0) (trodAll_cons_mk (Below.trod laidOut (by kernel_rfl) (of_decide_eq_true (by kernel_rfl)) k1 bel lt1) trodAll_mk0)), rfl, bel.frame _, fun h => by cases h⟩
theorem over : Rows.fnExactAsHistoryRow.holds Try.pinned (OpenSpec.ofChange Rows.fnExactAsHistorySpec) :=
  OpenClaim.holds_of_wide 5 Try.f5 rfl rfl rfl rfl rfl rfl rfl ⟨rfl, rfl, rfl, rfl, rfl⟩ rfl rfl rfl rfl rfl (by kernel_rfl) Try.func5 (by kernel_rfl)
    (of_decide_eq_true (by kernel_rfl)) (by unfold Func.isWrapper; first | (rw [if_pos (by decide +kernel)]; kernel_rfl) | (rw [if_neg (by decide +kernel)]; exact ⟨rfl, rfl⟩))
    (fun os started H enc _ => lifted os started H enc)
theorem proved : Rows.FnExactAsHistorySaid := over
end Go.Proofs.Yteinekbgnleohaa.lawAsHistory
