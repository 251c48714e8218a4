/- AreNotes of the program returns what the reference returns, for all notes: the statement's row, proved. No conditions. -/
import Derived.Test.YtjcheccngombkaaRows
import Derived.Test.YtjcheccngombkaaNote1
import Derived.Test.YtjcheccngombkaaNoteOpen
namespace Go.Proofs.Ytjcheccngombkaa
set_option linter.unusedVariables false in
theorem spec_AreNotes (A0 : Option Addr) (c0 : Nat) (xs0 : List NoteD) (hn0 : xs0.length ≤ 1048576) (w : World) {B0 : Nat} (o0 : OwnS NoteD.enc 3 77 w B0 (.slice A0 xs0.length c0) xs0) : Calls Try.prog 28 #[.slice A0 xs0.length c0] w (RetB (ansAreNotes xs0) w) := by
  refine ((spec_AreNotes_ok xs0 hn0).calls w _ rfl (args1 (.d _ _ (rd_of_own NoteD.dat_ok o0)))).mono ?_
  rintro e w' ⟨rs, rfl, hr⟩
  obtain ⟨Y, v0, g0, rfl, h0, hb⟩ := hr.one
  exact ⟨_, by rw [rr_bool h0], bP_iff, hb⟩
set_option linter.unusedVariables false in
theorem impl_AreNotes (A0 : Option Addr) (c0 : Nat) (xs0 : List NoteD) (hn0 : xs0.length ≤ 1048576) (w : World) {B0 : Nat} (o0 : OwnS NoteD.enc 3 77 w B0 (.slice A0 xs0.length c0) xs0) : Calls Try.prog 30 #[.slice A0 xs0.length c0] w (RetB (ansAreNotes xs0) w) := by
  refine ((impl_AreNotes_ok xs0 hn0).calls w _ rfl (args1 (.d _ _ (rd_of_own NoteD.dat_ok o0)))).mono ?_
  rintro e w' ⟨rs, rfl, hr⟩
  obtain ⟨Y, v0, g0, rfl, h0, hb⟩ := hr.one
  exact ⟨_, by rw [rr_bool h0], bP_iff, hb⟩
end Go.Proofs.Ytjcheccngombkaa
namespace Go.Proofs.Ytjcheccngombkaa.lawAreNotes
open Go.ChangeShapes Go.WideShapes Go.ChangeAt Go.RowKit

set_option linter.unusedVariables false in
set_option maxHeartbeats 4000000 in
theorem walk (A0 : Option Addr) (c0 : Nat) (xs0 : List NoteD) (hm0 : xs0.length ≤ maxLen) (w : World) (hr0 : RdS NoteD.enc 3 w A0 xs0) :
    Calls Try.prog 6 #[.slice A0 xs0.length c0] w fun e w' => e = .returned (.bool true) ∧ Below w.heap.size w w' := by
  unfold maxLen at hm0
  by_cases hs0 : xs0.length ≤ 1048576
  · skip
    have hn0 : xs0.length ≤ 1048576 := by omega
    have hw0 : Below w.heap.size w w := Below.refl _ _
    go_enter Try.func6, Try.ntmps6
    go_wp2_with fail
    refine (szNoteS_any _ _ _ hm0 _ (by omega) (by omega) _).mono ?_
    rintro e w' ⟨rfl, rfl⟩
    rw [szOf_ge (by omega)]
    go_wp2_with fail
    refine (toNoteS_any _ _ _ hn0 _ (hr0.ext hw0)).mono ?_
    rintro e w1 ⟨v1, rfl, os0, hb1⟩
    obtain ⟨As0, cs0, rfl, rs0⟩ := os0.slice NoteD.enc_len
    have z1 := hb1.size
    replace hw0 := below_trans hw0 hb1
    go_wp2_with fail
    refine (spec_AreNotes _ _ _ hn0 _ os0).mono ?_
    rintro e w2 ⟨bW, rfl, hpW, hb2⟩
    have z2 := hb2.size
    replace rs0 := rs0.ext hb2
    replace os0 := os0.ext hb2
    replace hw0 := below_trans hw0 hb2
    clear os0 rs0
    go_wp2_with fail
    refine (toNoteS_any _ _ _ hn0 _ (hr0.ext hw0)).mono ?_
    rintro e w3 ⟨v3, rfl, ox0, hb3⟩
    obtain ⟨Ax0, cx0, rfl, rx0⟩ := ox0.slice NoteD.enc_len
    have z3 := hb3.size
    replace hw0 := below_trans hw0 hb3
    go_wp2_with fail
    refine (impl_AreNotes _ _ _ hn0 _ ox0).mono ?_
    rintro e w4 ⟨bG, rfl, hpG, hb4⟩
    have z4 := hb4.size
    replace rx0 := rx0.ext hb4
    replace ox0 := ox0.ext hb4
    replace hw0 := below_trans hw0 hb4
    obtain rfl : bG = bW := by have := hpG.trans hpW.symm; cases bG <;> cases bW <;> simp_all
    clear hpG hpW
    go_wp2_with fail
    refine (toNoteS_any _ _ _ hn0 _ (hr0.ext hw0)).mono ?_
    rintro e w5 ⟨v5, rfl, oy0, hb5⟩
    obtain ⟨Ay0, cy0, rfl, ry0⟩ := oy0.slice NoteD.enc_len
    have z5 := hb5.size
    replace rx0 := rx0.ext hb5
    replace hw0 := below_trans hw0 hb5
    go_wp2_with fail
    refine (RetB.yes (eqNoteS_any _ _ _ _ _ _ (by omega) _ rx0 ry0) rfl).mono ?_
    rintro e w6 ⟨rfl, hb6⟩
    have z6 := hb6.size
    clear oy0 ry0
    replace rx0 := rx0.ext hb6
    replace hw0 := below_trans hw0 hb6
    go_wp2
    go_ret
    exact ⟨rfl, hw0⟩
  · go_enter Try.func6, Try.ntmps6
    go_wp2_with fail
    refine (szNoteS_any _ _ _ hm0 _ (by omega) (by omega) _).mono ?_
    rintro e w' ⟨rfl, rfl⟩
    rw [szOf_lt (by omega)]
    go_wp2
    go_ret
    exact ⟨rfl, Below.refl _ _⟩

theorem own : ownKnob Try.prog.godebug = none := by kernel_rfl
theorem laidOut : laidOutB Try.prog = true := by kernel_rfl
set_option linter.unusedVariables false in
set_option maxRecDepth 100000 in
theorem lifted (os : Os) (started : os.Started) (H : Type) (enc : TypeId × Value → H) :
    ReturnsInHanded {} Try.checked os 6 .any (Rows.fnExactAreNotesSpec.pre6 enc Try.prog Try.f6 Rows.fnExactAreNotesRow.domain false) (Rows.fnExactAreNotesSpec.post enc Try.prog Try.f6 false true false false) := by
  refine returnsInHanded_of_change (C := Try.checked) own started (by kernel_rfl) Try.func6
    (ChangeSpec.witness6 (enc := enc) (C := Try.checked) false ⟨#[], #[.slice none 0 0], []⟩ 8 (by kernel_rfl) (by kernel_rfl) (by kernel_rfl) (by kernel_rfl)) ?_
  intro W base args ds gs before hval0 hW hcnd _
  have hval : ∀ (j : Nat) t v, Try.f6.params[j]? = some t → args[j]? = some v → Value.okWide Try.prog W .any base t v := hval0
  have hW' := hW
  obtain ⟨p, q, hA0, hV, rfl, hfz, hnd⟩ := hW
  have hA : DataW.TrodAll enc Try.prog W 0 (fun _ => true) true Try.f6.params.toList args.toList ds p := hA0
  rw [Try.params6] at hA hval
  obtain ⟨v0, vs0, d0, ds0, p0, q0, hargs, rfl, rfl, h0, r0⟩ := trodAll_cons hA
  obtain ⟨rfl, rfl, rfl⟩ := trodAll_nil r0
  obtain rfl : args = #[v0] := by cases args; simp_all
  obtain ⟨rfl, rfl⟩ := trodVars_none hV
  obtain ⟨s0, len0, cap0, rfl⟩ := okWide_slice Try.underlying40 (hval 0 40 v0 rfl rfl)
  have k0 := h0
  have lt0 := below_lt k0
  obtain ⟨fuel0, hf0⟩ := h0
  obtain ⟨A0, c0, xs0, hv0, rd0, m0⟩ := open_noteS hf0
  rw [hv0] at k0
  rw [hv0]
  clear hA0 hval0
  refine (walk A0 c0 xs0 m0 W rd0).mono fun e W' ⟨he, bel⟩ => ?_
  subst he
  rw [hv0] at hW'
  exact ⟨_, rfl, _, _, _, [], _, [], hW', trodAll_mk1 (shut_bool Try.underlying4 _), (trodAll_cons_mk (Below.trod laidOut (by kernel_rfl) (of_decide_eq_true (by kernel_rfl)) k0 bel lt0) trodAll_mk0), rfl, bel.frame _, fun h => by cases h⟩
theorem over : Rows.fnExactAreNotesRow.holds Try.pinned (OpenSpec.ofChange Rows.fnExactAreNotesSpec) :=
  OpenClaim.holds_of_wide 6 Try.f6 rfl rfl rfl rfl rfl rfl rfl ⟨rfl, rfl, rfl, rfl, rfl⟩ rfl rfl rfl rfl rfl (by kernel_rfl) Try.func6 (by kernel_rfl)
    (of_decide_eq_true (by kernel_rfl)) (by unfold Func.isWrapper; first | (rw [if_pos (by decide +kernel)]; kernel_rfl) | (rw [if_neg (by decide +kernel)]; exact ⟨rfl, rfl⟩))
    (fun os started H enc _ => lifted os started H enc)
theorem proved : Rows.FnExactAreNotesSaid := over
end Go.Proofs.Ytjcheccngombkaa.lawAreNotes
