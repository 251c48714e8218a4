/- AreFinishes of the program answers what the reference answers, for all finishes: the statement's row, proved. No conditions. -/
import Derived.Test.YtjdbiifnnaedhaaRows
import Derived.Test.YtjdbiifnnaedhaaFinOk
import Derived.Test.YtjdbiifnnaedhaaFinOpen
namespace Go.Proofs.Ytjdbiifnnaedhaa.lawAreFinishes
open Go.ChangeShapes Go.WideShapes Go.ChangeAt Go.RowKit

set_option maxHeartbeats 1000000 in
theorem walk (A : Option Addr) (c : Nat) (xs : List Finish) (hm : xs.length ≤ maxLen) (w : World) (hr : RdS Finish.enc 2 w A xs) :
    Calls Try.prog 3 #[.slice A xs.length c] w fun e w' => e = .returned (.bool true) ∧ Below w.heap.size w w' := by
  unfold maxLen at hm
  by_cases hn : xs.length ≤ 1048576
  · go_enter Try.func3, Try.ntmps3
    go_wp2_with fail
    refine (szFinishS_any _ _ _ hm _ (by omega) (by omega) _).mono ?_
    rintro e w' ⟨rfl, rfl⟩
    rw [szOf_ge (by omega)]
    go_wp2_with fail
    refine (toFinishS_any _ _ _ hn _ hr).mono ?_
    rintro e w1 ⟨v1, rfl, hown1, hb1⟩
    obtain ⟨A1, c1, rfl, hr1⟩ := hown1.slice Finish.enc_len
    go_wp2_with fail
    refine (spec_AreFinishes _ _ _ hn _ hr1).mono ?_
    rintro e w2 ⟨b2, rfl, hp2, hb2⟩
    have hB2 := below_trans hb1 hb2
    go_wp2_with fail
    refine (toFinishS_any _ _ _ hn _ (hr.ext hB2)).mono ?_
    rintro e w3 ⟨v3, rfl, hown3, hb3⟩
    obtain ⟨A3, c3, rfl, hr3⟩ := hown3.slice Finish.enc_len
    go_wp2_with fail
    refine (impl_AreFinishes _ _ _ hn _ hr3).mono ?_
    rintro e w4 ⟨b4, rfl, hp4, hb4⟩
    have hB4 := below_trans (below_trans hB2 hb3) hb4
    obtain rfl : b4 = b2 := by have := hp4.trans hp2.symm; cases b4 <;> cases b2 <;> simp_all
    have hd : (b4 != b4) = false := by simp
    clear hp2 hp4
    go_wp2_with fail
    refine (toFinishS_any _ _ _ hn _ (hr.ext hB4)).mono ?_
    rintro e w5 ⟨v5, rfl, hown5, hb5⟩
    obtain ⟨A5, c5, rfl, hr5⟩ := hown5.slice Finish.enc_len
    go_wp2_with fail
    refine (RetB.yes (eqFinishS_any _ _ _ _ _ _ hn _ (hr3.ext (below_trans hb4 hb5)) hr5) rfl).mono ?_
    rintro e w6 ⟨rfl, hb6⟩
    go_wp2
    go_ret
    exact ⟨rfl, below_trans (below_trans hB4 hb5) hb6⟩
  · go_enter Try.func3, Try.ntmps3
    go_wp2_with fail
    refine (szFinishS_any _ _ _ hm _ (by omega) (by omega) _).mono ?_
    rintro e w' ⟨rfl, rfl⟩
    rw [szOf_lt (by omega)]
    go_wp2
    go_ret
    exact ⟨rfl, Below.refl _ _⟩

theorem own : ownKnob Try.prog.godebug = none := by kernel_rfl
theorem laidOut : laidOutB Try.prog = true := by kernel_rfl
set_option linter.unusedVariables false in
set_option maxRecDepth 100000 in
theorem lifted (os : Os) (started : os.Started) (H : Type) (enc : TypeId × Value → H) :
    ReturnsInHanded {} Try.checked os 3 .any (Rows.fnExactAreFinishesSpec.pre6 enc Try.prog Try.f3 Rows.fnExactAreFinishesRow.domain false) (Rows.fnExactAreFinishesSpec.post enc Try.prog Try.f3 false true false false) := by
  refine returnsInHanded_of_change (C := Try.checked) own started (by kernel_rfl) Try.func3
    (ChangeSpec.witness6 (enc := enc) (C := Try.checked) false ⟨#[], #[.slice none 0 0], []⟩ 8 (by kernel_rfl) (by kernel_rfl) (by kernel_rfl) (by kernel_rfl)) ?_
  intro W base args ds gs before hval0 hW hcnd _
  have hval : ∀ (j : Nat) t v, Try.f3.params[j]? = some t → args[j]? = some v → Value.okWide Try.prog W .any base t v := hval0
  have hW' := hW
  obtain ⟨p, q, hA0, hV, rfl, hfz, hnd⟩ := hW
  have hA : DataW.TrodAll enc Try.prog W 0 (fun _ => true) true Try.f3.params.toList args.toList ds p := hA0
  rw [Try.params3] at hA hval
  obtain ⟨v0, vs0, d0, ds0, p0, q0, hargs, rfl, rfl, h0, r0⟩ := trodAll_cons hA
  obtain ⟨rfl, rfl, rfl⟩ := trodAll_nil r0
  obtain rfl : args = #[v0] := by cases args; simp_all
  obtain ⟨rfl, rfl⟩ := trodVars_none hV
  obtain ⟨s0, len0, cap0, rfl⟩ := okWide_slice Try.underlying22 (hval 0 22 v0 rfl rfl)
  have k0 := h0
  have lt0 := below_lt k0
  obtain ⟨fuel0, hf0⟩ := h0
  obtain ⟨A0, c0, xs0, hv0, rd0, m0⟩ := open_finS hf0
  rw [hv0] at k0
  rw [hv0]
  clear hA0 hval0
  refine (walk A0 c0 xs0 m0 W rd0).mono fun e W' ⟨he, bel⟩ => ?_
  subst he
  rw [hv0] at hW'
  exact ⟨_, rfl, _, _, _, [], _, [], hW', trodAll_mk1 (shut_bool Try.underlying4 _), (trodAll_cons_mk (Below.trod laidOut (by kernel_rfl) (of_decide_eq_true (by kernel_rfl)) k0 bel lt0) trodAll_mk0), rfl, bel.frame _, fun h => by cases h⟩
theorem over : Rows.fnExactAreFinishesRow.holds Try.pinned (OpenSpec.ofChange Rows.fnExactAreFinishesSpec) :=
  OpenClaim.holds_of_wide 3 Try.f3 rfl rfl rfl rfl rfl rfl rfl ⟨rfl, rfl, rfl, rfl, rfl⟩ rfl rfl rfl rfl rfl (by kernel_rfl) Try.func3 (by kernel_rfl)
    (of_decide_eq_true (by kernel_rfl)) (by unfold Func.isWrapper; first | (rw [if_pos (by decide +kernel)]; kernel_rfl) | (rw [if_neg (by decide +kernel)]; exact ⟨rfl, rfl⟩))
    (fun os started H enc _ => lifted os started H enc)
theorem proved : Rows.FnExactAreFinishesSaid := over
end Go.Proofs.Ytjdbiifnnaedhaa.lawAreFinishes
