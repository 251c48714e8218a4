/- AreInquiries of the program returns what the reference returns, for all items and inquiries: the statement's row, proved. No conditions. -/
import Derived.Test.YteinekbgnleohaaRows
import Derived.Test.YteinekbgnleohaaIv
set_option linter.unusedSimpArgs false
set_option linter.unusedVariables false
set_option maxHeartbeats 2000000
set_option maxRecDepth 100000
namespace Go.Proofs.Yteinekbgnleohaa.lawAreInquiries
open Go.ChangeShapes Go.WideShapes Go.ChangeAt Go.RowKit Go.Deep

theorem law_AreInquiries_ok (xs0 : List ItemD) (m0 : xs0.length ≤ maxLen ∧ ∀ r ∈ xs0, ItFit maxLen r) (xs1 : List InquiryD) (m1 : xs1.length ≤ maxLen ∧ ∀ r ∈ xs1, True) : FnEq Try.prog 3 [.d (.lst 3 (xs0.map ItemD.dat)), .d (.lst 5 (xs1.map InquiryD.dat))] [.d (.bool true)] := by
  obtain ⟨hn0, hs0⟩ := m0
  replace hs0 : ∀ r ∈ xs0, ItFit 9223372036854775807 r := fun r hr => (hs0 r hr).mono (by decide)
  unfold maxLen at hn0
  have hn1 := m1.1
  unfold maxLen at hn1
  refine fn_ok G_ok Try.func3 rfl rfl ?_; simp only [Try.ntmps3, List.length_cons, List.length_nil, Nat.reduceAdd, Nat.reduceSub, enm]
  by_cases hle0 : ((xs0.length + cntI xs0 : Nat) : Int) ≤ ((1048576 : Int))
  · have hz0 := szOf_ge hle0
    by_cases hle1 : ((xs1.length : Nat) : Int) ≤ ((1048576 : Int) - ((xs0.length + cntI xs0 : Nat) : Int))
    · have hz1 := szOf_ge hle1
      have hl0 : xs0.length ≤ 1048576 := by omega
      have hk0 : ∀ r ∈ xs0, ItFit 1048576 r := fun r hr => itFit_of (by have := cntI_mem hr; omega)
      have hl1 : xs1.length ≤ 1048576 := by omega
      repeat' (first | ((with_reducible first | refine execL_step (fun K' hK' => ?_)); (first | with_reducible refine s_none rfl ?_ | refine s_some2 rfl ?_); simp only [go_sem, hz0, hz1]) | (with_reducible refine hK' _ ?_; clear hK' K') | (with_reducible refine hK _ ?_; clear hK K; try simp only [go_sem, hz0, hz1]) | with_reducible (first | refine stp ?_ | refine pw_seq_opsK kl3 G_ok (fun K hK => ?_) | refine pw_ops G_ok (fun K hK => ?_)) | ((with_reducible first | apply CallK.eq); (focus (with_reducible first | exact szItemS_ok xs0 hn0 hs0 _ (by omega) (by omega) | exact szInquiryS_ok xs1 hn1 _ (by omega) (by omega) | exact toItemS_ok xs0 hl0 hk0 | exact toInquiryS_ok xs1 hl1 | exact spec_AreInquiries_ok xs0 xs1 hl0 hk0 hl1 | exact impl_AreInquiries_ok xs0 xs1 hl0 hk0 hl1 | exact eqItemS_ok xs0 xs0 hl0 hn0 hk0 hs0 | exact eqInquiryS_ok xs1 xs1 hl1 hn1)); (focus (first | exact rfl | (simp [RV.flat, D.sc, datI]; done))); try simp only [go_sem, hz0, hz1]) | refine inBlockA_other (by decide) ?_ | (with_reducible refine pK_mk (fun hc => ?_) (fun hc => ?_) <;> (try simp only [go_sem, hz0, hz1]) <;> (try simp at hc) <;> (try (exfalso; omega))) | ((first | refine pw_seq (pw_cond rfl (fun hc => ?_) (fun hc => ?_)) | refine pw_cond rfl (fun hc => ?_) (fun hc => ?_)) <;> (try simp at hc) <;> (try (exfalso; omega))) | with_reducible refine And.intro (by first | omega | (unfold inI; omega) | exact andI_inI _) ?_)
      all_goals first
        | (exfalso; rw [bP_true (by trivial)] at hc; cases hc; done)
        | (exfalso; simp_all; done)
        | (refine retQ_ret rfl rfl (by simp [rowsOf, lk]) ?_; rfl)
    · have hz1 := szOf_lt (left := ((1048576 : Int) - ((xs0.length + cntI xs0 : Nat) : Int))) (n := ((xs1.length : Nat) : Int)) (by omega)
      repeat' (first | ((with_reducible first | refine execL_step (fun K' hK' => ?_)); (first | with_reducible refine s_none rfl ?_ | refine s_some2 rfl ?_); simp only [go_sem, hz0, hz1]) | (with_reducible refine hK' _ ?_; clear hK' K') | (with_reducible refine hK _ ?_; clear hK K; try simp only [go_sem, hz0, hz1]) | with_reducible (first | refine stp ?_ | refine pw_seq_opsK kl3 G_ok (fun K hK => ?_) | refine pw_ops G_ok (fun K hK => ?_)) | ((with_reducible first | apply CallK.eq); (focus (with_reducible first | exact szItemS_ok xs0 hn0 hs0 _ (by omega) (by omega) | exact szInquiryS_ok xs1 hn1 _ (by omega) (by omega))); (focus (first | exact rfl | (simp [RV.flat, D.sc, datI]; done))); try simp only [go_sem, hz0, hz1]) | refine inBlockA_other (by decide) ?_ | (with_reducible refine pK_mk (fun hc => ?_) (fun hc => ?_) <;> (try simp only [go_sem, hz0, hz1]) <;> (try simp at hc) <;> (try (exfalso; omega))) | ((first | refine pw_seq (pw_cond rfl (fun hc => ?_) (fun hc => ?_)) | refine pw_cond rfl (fun hc => ?_) (fun hc => ?_)) <;> (try simp at hc) <;> (try (exfalso; omega))) | with_reducible refine And.intro (by first | omega | (unfold inI; omega) | exact andI_inI _) ?_)
      all_goals first
        | (exfalso; rw [bP_true (by trivial)] at hc; cases hc; done)
        | (exfalso; simp_all; done)
        | (refine retQ_ret rfl rfl (by simp [rowsOf, lk]) ?_; rfl)
  · have hz0 := szOf_lt (left := ((1048576 : Int))) (n := ((xs0.length + cntI xs0 : Nat) : Int)) (by omega)
    repeat' (first | ((with_reducible first | refine execL_step (fun K' hK' => ?_)); (first | with_reducible refine s_none rfl ?_ | refine s_some2 rfl ?_); simp only [go_sem, hz0]) | (with_reducible refine hK' _ ?_; clear hK' K') | (with_reducible refine hK _ ?_; clear hK K; try simp only [go_sem, hz0]) | with_reducible (first | refine stp ?_ | refine pw_seq_opsK kl3 G_ok (fun K hK => ?_) | refine pw_ops G_ok (fun K hK => ?_)) | ((with_reducible first | apply CallK.eq); (focus (with_reducible first | exact szItemS_ok xs0 hn0 hs0 _ (by omega) (by omega))); (focus (first | exact rfl | (simp [RV.flat, D.sc, datI]; done))); try simp only [go_sem, hz0]) | refine inBlockA_other (by decide) ?_ | (with_reducible refine pK_mk (fun hc => ?_) (fun hc => ?_) <;> (try simp only [go_sem, hz0]) <;> (try simp at hc) <;> (try (exfalso; omega))) | ((first | refine pw_seq (pw_cond rfl (fun hc => ?_) (fun hc => ?_)) | refine pw_cond rfl (fun hc => ?_) (fun hc => ?_)) <;> (try simp at hc) <;> (try (exfalso; omega))) | with_reducible refine And.intro (by first | omega | (unfold inI; omega) | exact andI_inI _) ?_)
    all_goals first
      | (exfalso; rw [bP_true (by trivial)] at hc; cases hc; done)
      | (exfalso; simp_all; done)
      | (refine retQ_ret rfl rfl (by simp [rowsOf, lk]) ?_; rfl)

theorem own : ownKnob Try.prog.godebug = none := by kernel_rfl
theorem laidOut : laidOutB Try.prog = true := by kernel_rfl
set_option linter.unusedVariables false in
set_option maxRecDepth 100000 in
theorem lifted (os : Os) (started : os.Started) (H : Type) (enc : TypeId × Value → H) :
    ReturnsInHanded {} Try.checked os 3 .any (Rows.fnExactAreInquiriesSpec.pre6 enc Try.prog Try.f3 Rows.fnExactAreInquiriesRow.domain false) (Rows.fnExactAreInquiriesSpec.post enc Try.prog Try.f3 false true false false) := by
  refine returnsInHanded_of_change (C := Try.checked) own started (by kernel_rfl) Try.func3
    (ChangeSpec.witness6 (enc := enc) (C := Try.checked) false ⟨#[], #[.slice none 0 0, .slice none 0 0], []⟩ 8 (by kernel_rfl) (by kernel_rfl) (by kernel_rfl) (by kernel_rfl)) ?_
  intro W base args ds gs before hval0 hW hcnd _
  have hval : ∀ (j : Nat) t v, Try.f3.params[j]? = some t → args[j]? = some v → Value.okWide Try.prog W .any base t v := hval0
  have hW' := hW
  obtain ⟨p, q, hA0, hV, rfl, hfz, hnd⟩ := hW
  have hA : DataW.TrodAll enc Try.prog W 0 (fun _ => true) true Try.f3.params.toList args.toList ds p := hA0
  rw [Try.params3] at hA hval
  obtain ⟨v0, vs0, d0, ds0, p0, q0, hargs, rfl, rfl, h0, r0⟩ := trodAll_cons hA
  obtain ⟨v1, vs1, d1, ds1, p1, q1, rfl, rfl, rfl, h1, r1⟩ := trodAll_cons r0
  obtain ⟨rfl, rfl, rfl⟩ := trodAll_nil r1
  obtain rfl : args = #[v0, v1] := by cases args; simp_all
  obtain ⟨rfl, rfl⟩ := trodVars_none hV
  have k0 := h0
  have lt0 := below_lt k0
  obtain ⟨s0, len0, cap0, rfl⟩ := okWide_slice Try.underlying22 (hval 0 22 v0 rfl rfl)
  obtain ⟨fuel0, hf0⟩ := h0
  obtain ⟨x0, m0, rd0⟩ := open_itemS.2 _ _ _ hf0
  have R0 := R_of_crd1 rfl rd0
  clear hf0
  have k1 := h1
  have lt1 := below_lt k1
  obtain ⟨s1, len1, cap1, rfl⟩ := okWide_slice Try.underlying23 (hval 1 23 v1 rfl rfl)
  obtain ⟨fuel1, hf1⟩ := h1
  obtain ⟨x1, m1, rd1⟩ := open_InquiryS.2 _ _ _ hf1
  have R1 := R_of_crd1 rfl rd1
  clear hf1
  clear hA0 hval0
  refine (mwalk (law_AreInquiries_ok x0 m0 x1 m1) W _ rfl (args2 R0 R1)).mono fun e W' ⟨he, bel⟩ => ?_
  subst he
  exact ⟨_, rfl, _, _, _, [], _, [], hW', trodAll_mk1 (shut_bool Try.underlying4 _), (trodAll_cons_mk (Below.trod laidOut (by kernel_rfl) (of_decide_eq_true (by kernel_rfl)) k0 bel lt0) (trodAll_cons_mk (Below.trod laidOut (by kernel_rfl) (of_decide_eq_true (by kernel_rfl)) k1 bel lt1) trodAll_mk0)), rfl, bel.frame _, fun h => by cases h⟩
theorem over : Rows.fnExactAreInquiriesRow.holds Try.pinned (OpenSpec.ofChange Rows.fnExactAreInquiriesSpec) :=
  OpenClaim.holds_of_wide 3 Try.f3 rfl rfl rfl rfl rfl rfl rfl ⟨rfl, rfl, rfl, rfl, rfl⟩ rfl rfl rfl rfl rfl (by kernel_rfl) Try.func3 (by kernel_rfl)
    (of_decide_eq_true (by kernel_rfl)) (by unfold Func.isWrapper; first | (rw [if_pos (by decide +kernel)]; kernel_rfl) | (rw [if_neg (by decide +kernel)]; exact ⟨rfl, rfl⟩))
    (fun os started H enc _ => lifted os started H enc)
theorem proved : Rows.FnExactAreInquiriesSaid := over
end Go.Proofs.Yteinekbgnleohaa.lawAreInquiries
