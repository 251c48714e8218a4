/- FinalTeams of the program returns what the reference returns, for all disciplines and numbers, in memory of its own: the statement's row, proved. No conditions. -/
import Derived.Test.YtbfnhhomlpkcnaaRows
import Derived.Test.YtbfnhhomlpkcnaaTw
import Derived.Test.YtbfnhhomlpkcnaaFinSS
import Derived.Test.YtbfnhhomlpkcnaaFinOpen
import Derived.Test.YtbfnhhomlpkcnaaInts
namespace Go.Proofs.Ytbfnhhomlpkcnaa
set_option linter.unusedVariables false in
theorem spec_FinalTeams (A0 : Option Addr) (c0 : Nat) (xs0 : List (List FinishD)) (a1 : Int) (hn0 : xs0.length ≤ 1048576) (hni0 : ∀ x ∈ xs0, x.length ≤ 1048576) (r : Option (List Int)) (hres : r = ansFinalTeams xs0 a1) (w : World) {B0 : Nat} (o0 : OwnL FinishD.enc 2 62 25 w B0 (.slice A0 xs0.length c0) xs0) : Calls Try.prog 44 #[.slice A0 xs0.length c0, .int .i64 a1] w (Ret2 (IsS encI 1 3 (r.getD [])) (IsBool r.isSome) w) := by
  subst hres
  refine ((spec_FinalTeams_ok xs0 a1 hn0 hni0).calls w _ rfl (args2 (.d _ _ (rdL_of_own FinishD.dat_ok o0)) (.d _ _ (.int _ _)))).mono ?_
  rintro e w' ⟨rs, rfl, hr⟩
  obtain ⟨Y, v0, v1, g0, g1, rfl, h0, h1, hb⟩ := hr.two
  exact ⟨v0, v1, rfl, own_of_rr datI_ok h0, rr_bool h1, hb⟩
set_option linter.unusedVariables false in
theorem impl_FinalTeams (A0 : Option Addr) (c0 : Nat) (xs0 : List (List FinishD)) (a1 : Int) (hn0 : xs0.length ≤ 1048576) (hni0 : ∀ x ∈ xs0, x.length ≤ 1048576) (r : Option (List Int)) (hres : r = ansFinalTeams xs0 a1) (w : World) {B0 : Nat} (o0 : OwnL FinishD.enc 2 62 25 w B0 (.slice A0 xs0.length c0) xs0) : Calls Try.prog 45 #[.slice A0 xs0.length c0, .int .i64 a1] w (Ret2 (IsS encI 1 3 (r.getD [])) (IsBool r.isSome) w) := by
  subst hres
  refine ((impl_FinalTeams_ok xs0 a1 hn0 hni0).calls w _ rfl (args2 (.d _ _ (rdL_of_own FinishD.dat_ok o0)) (.d _ _ (.int _ _)))).mono ?_
  rintro e w' ⟨rs, rfl, hr⟩
  obtain ⟨Y, v0, v1, g0, g1, rfl, h0, h1, hb⟩ := hr.two
  exact ⟨v0, v1, rfl, own_of_rr datI_ok h0, rr_bool h1, hb⟩
end Go.Proofs.Ytbfnhhomlpkcnaa
namespace Go.Proofs.Ytbfnhhomlpkcnaa.lawFinalTeams
open Go.ChangeShapes Go.WideShapes Go.ChangeAt Go.RowKit

theorem len {ls : List (List FinishD)} {n : Int} {x : Option (List Int)} (h : x = ansFinalTeams ls n) : (x.getD []).length ≤ 12 := by
  subst h
  by_cases hv : DisOk ls ∧ 1 ≤ n ∧ n ≤ 12
  · simp only [ansFinalTeams]; rw [optP_pos hv]; simp only [Option.getD_some]; exact ix1_len _ _
  · simp only [ansFinalTeams]; rw [optP_neg hv]; simp

set_option linter.unusedVariables false in
set_option maxHeartbeats 4000000 in
set_option maxRecDepth 100000 in
theorem walk (A0 : Option Addr) (c0 : Nat) (xs0 : List (List FinishD)) (hm0 : xs0.length ≤ maxLen ∧ ∀ xs ∈ xs0, xs.length ≤ maxLen) (a1 : Int) (wf1 : (Lit.int .i64 a1).wf = true) (w : World) (hr0 : RdL FinishD.enc 2 w A0 xs0) :
    Calls Try.prog 12 #[.slice A0 xs0.length c0, .int .i64 a1] w fun e w' => e = .returned (.bool true) ∧ Below w.heap.size w w' := by
  obtain ⟨hm0, hmi0⟩ := hm0
  unfold maxLen at hm0 hmi0
  by_cases hs0 : (xs0.length + lenSum xs0) ≤ 1048576
  · skip
    have hn0 : xs0.length ≤ 1048576 := by omega
    have hl0 : lenSum xs0 ≤ 1048576 := by omega
    have hni0 : ∀ x ∈ xs0, x.length ≤ 1048576 := fun x h => by have := lenSum_mem h; omega
    obtain ⟨r, hres⟩ : ∃ r, r = ansFinalTeams xs0 a1 := ⟨_, rfl⟩
    have hlen := len hres
    have HR := Lib.hid hres
    clear hres
    have hw0 : Below w.heap.size w w := Below.refl _ _
    go_enter Try.func12, Try.ntmps12
    go_wp2_with fail
    refine (szFinishSS_any _ _ _ hm0 hmi0 _ (by omega) (by omega) _ hr0).mono ?_
    rintro e w' ⟨rfl, rfl⟩
    rw [szOf_ge (by omega)]
    go_wp2_with fail
    refine (toFinishSS_any _ _ _ hn0 hni0 _ (hr0.ext hw0)).mono ?_
    rintro e w1 ⟨v1, rfl, os0, hb1⟩
    obtain ⟨As0, cs0, rfl, rs0⟩ := os0.slice FinishD.enc_len
    have z1 := hb1.size
    replace hw0 := below_trans hw0 hb1
    go_wp2_with fail
    refine (spec_FinalTeams _ _ _ a1 hn0 hni0 _ HR.out _ os0).mono ?_
    rintro e w2 ⟨vW0, vW1, rfl, oW0, rfl, hb2⟩
    obtain ⟨AW0, cW0, rfl, rW0⟩ := OwnS.slice encI_len oW0
    have z2 := hb2.size
    replace rs0 := rs0.ext hb2
    replace os0 := os0.ext hb2
    replace hw0 := below_trans hw0 hb2
    clear os0 rs0
    have bW0 := fun g e => (oW0.blocks g e).2
    go_wp2_with fail
    refine (toFinishSS_any _ _ _ hn0 hni0 _ (hr0.ext hw0)).mono ?_
    rintro e w3 ⟨v3, rfl, ox0, hb3⟩
    obtain ⟨Ax0, cx0, rfl, rx0⟩ := ox0.slice FinishD.enc_len
    have z3 := hb3.size
    replace oW0 := oW0.ext hb3
    replace rW0 := rW0.ext hb3
    replace hw0 := below_trans hw0 hb3
    go_wp2_with fail
    refine (impl_FinalTeams _ _ _ a1 hn0 hni0 _ HR.out _ ox0).mono ?_
    rintro e w4 ⟨vG0, vG1, rfl, oG0, rfl, hb4⟩
    obtain ⟨AG0, cG0, rfl, rG0⟩ := OwnS.slice encI_len oG0
    have z4 := hb4.size
    replace oW0 := oW0.ext hb4
    replace rW0 := rW0.ext hb4
    replace rx0 := rx0.ext hb4
    replace hw0 := below_trans hw0 hb4
    have bG0 := oG0.blocks
    have hX := below_trans (Below.refl _ _) hb4
    go_wp2_with fail
    refine (RetB.yes (eqIntS_any _ _ _ _ _ _ (by omega) _ rG0 rW0) rfl).mono ?_
    rintro e w5 ⟨rfl, hb5⟩
    have z5 := hb5.size
    replace oW0 := oW0.ext hb5
    replace rW0 := rW0.ext hb5
    replace rx0 := rx0.ext hb5
    replace oG0 := oG0.ext hb5
    replace rG0 := rG0.ext hb5
    replace hw0 := below_trans hw0 hb5
    replace hX := below_trans hX hb5
    go_wp2_with fail
    refine (toFinishSS_any _ _ _ hn0 hni0 _ (hr0.ext hw0)).mono ?_
    rintro e w6 ⟨v6, rfl, oy0, hb6⟩
    obtain ⟨Ay0, cy0, rfl, ry0⟩ := oy0.slice FinishD.enc_len
    have z6 := hb6.size
    replace oW0 := oW0.ext hb6
    replace rW0 := rW0.ext hb6
    replace rx0 := rx0.ext hb6
    replace oG0 := oG0.ext hb6
    replace rG0 := rG0.ext hb6
    replace hw0 := below_trans hw0 hb6
    replace hX := below_trans hX hb6
    go_wp2_with fail
    refine (RetB.yes (eqFinishSS_any _ _ _ _ _ _ hn0 hni0 _ rx0 ry0) rfl).mono ?_
    rintro e w7 ⟨rfl, hb7⟩
    have z7 := hb7.size
    clear oy0 ry0
    replace oW0 := oW0.ext hb7
    replace rW0 := rW0.ext hb7
    replace rx0 := rx0.ext hb7
    replace oG0 := oG0.ext hb7
    replace rG0 := rG0.ext hb7
    replace hw0 := below_trans hw0 hb7
    replace hX := below_trans hX hb7
    clear rx0
    go_wp2_with fail
    refine (markFinishSS_any _ _ _ _ _ hn0 hl0 _ (by omega) (by omega) _ w3 ox0 hX rfl).mono ?_
    rintro e w8 ⟨rfl, mk8⟩
    have z8 := mk8.size
    replace hw0 := hw0.trans (mk8.below (B := w.heap.size) (by omega) (by omega))
    replace oW0 := mk8.far oW0 (fun g e => .inl (by have := bW0 g e; omega))
    replace rW0 := oW0.rd encI_len
    replace oG0 := mk8.own oG0 (by omega)
    replace rG0 := oG0.rd encI_len
    go_wp2_with fail
    refine (RetB.yes (eqIntS_any _ _ _ _ _ _ (by omega) _ rG0 rW0) rfl).mono ?_
    rintro e w9 ⟨rfl, hb9⟩
    have z9 := hb9.size
    replace oW0 := oW0.ext hb9
    replace rW0 := rW0.ext hb9
    replace oG0 := oG0.ext hb9
    replace rG0 := rG0.ext hb9
    replace hw0 := below_trans hw0 hb9
    go_wp2_with fail
    refine (markIntS_any _ _ _ _ _ (by omega) _ (by omega) (by omega) _ oG0).mono ?_
    rintro e w10 ⟨rfl, oM0, hg10⟩
    have mk10 : Marked w3.heap.size w4.heap.size _ w10 := Marked.of_grown hg10 bG0
    have z10 := mk10.size
    replace hw0 := hw0.trans (mk10.below (B := w.heap.size) (by omega) (by omega))
    replace oW0 := mk10.far oW0 (fun g e => .inl (by have := bW0 g e; omega))
    replace rW0 := oW0.rd encI_len
    clear oG0 rG0 hg10 bG0
    have rM0 := oM0.rd encI_len
    clear oM0
    go_wp2_with fail
    refine (heldIntS_any _ _ _ (by omega) _ (by omega) (by omega) _ rM0).mono ?_
    rintro e w' ⟨rfl, rfl⟩
    go_wp2_with fail
    refine (toFinishSS_any _ _ _ hn0 hni0 _ (hr0.ext hw0)).mono ?_
    rintro e w11 ⟨v11, rfl, ot0, hb11⟩
    obtain ⟨At0, ct0, rfl, rt0⟩ := ot0.slice FinishD.enc_len
    have z11 := hb11.size
    replace oW0 := oW0.ext hb11
    replace rW0 := rW0.ext hb11
    replace rM0 := rM0.ext hb11
    replace hw0 := below_trans hw0 hb11
    go_wp2_with fail
    refine (impl_FinalTeams _ _ _ a1 hn0 hni0 _ HR.out _ ot0).mono ?_
    rintro e w12 ⟨vH0, vH1, rfl, oH0, rfl, hb12⟩
    obtain ⟨AH0, cH0, rfl, rH0⟩ := OwnS.slice encI_len oH0
    have z12 := hb12.size
    replace oW0 := oW0.ext hb12
    replace rW0 := rW0.ext hb12
    replace rM0 := rM0.ext hb12
    replace rt0 := rt0.ext hb12
    replace ot0 := ot0.ext hb12
    replace hw0 := below_trans hw0 hb12
    clear ot0 rt0
    go_wp2_with fail
    refine (RetB.yes (eqIntS_any _ _ _ _ _ _ (by omega) _ rH0 rW0) rfl).mono ?_
    rintro e w13 ⟨rfl, hb13⟩
    have z13 := hb13.size
    replace oW0 := oW0.ext hb13
    replace rW0 := rW0.ext hb13
    replace rM0 := rM0.ext hb13
    replace rH0 := rH0.ext hb13
    replace hw0 := below_trans hw0 hb13
    go_wp2_with fail
    refine (heldIntS_any _ _ _ (by omega) _ (by omega) (by omega) _ rM0).mono ?_
    rintro e w' ⟨rfl, rfl⟩
    go_wp2
    go_ret
    exact ⟨rfl, hw0⟩
  · go_enter Try.func12, Try.ntmps12
    go_wp2_with fail
    refine (szFinishSS_any _ _ _ hm0 hmi0 _ (by omega) (by omega) _ hr0).mono ?_
    rintro e w' ⟨rfl, rfl⟩
    rw [szOf_lt (by omega)]
    go_wp2
    go_ret
    exact ⟨rfl, Below.refl _ _⟩

theorem own : ownKnob Try.prog.godebug = none := by kernel_rfl
theorem laidOut : laidOutB Try.prog = true := by kernel_rfl
set_option linter.unusedVariables false in
set_option maxRecDepth 100000 in
theorem lifted (os : Os) (started : os.Started) (H : Type) (enc : TypeId × Value → H) :
    ReturnsInHanded {} Try.checked os 12 .any (Rows.fnExactFinalTeamsSpec.pre6 enc Try.prog Try.f12 Rows.fnExactFinalTeamsRow.domain false) (Rows.fnExactFinalTeamsSpec.post enc Try.prog Try.f12 false true false false) := by
  refine returnsInHanded_of_change (C := Try.checked) own started (by kernel_rfl) Try.func12
    (ChangeSpec.witness6 (enc := enc) (C := Try.checked) false ⟨#[], #[.slice none 0 0, .int .i64 0], []⟩ 8 (by kernel_rfl) (by kernel_rfl) (by kernel_rfl) (by kernel_rfl)) ?_
  intro W base args ds gs before hval0 hW hcnd _
  have hval : ∀ (j : Nat) t v, Try.f12.params[j]? = some t → args[j]? = some v → Value.okWide Try.prog W .any base t v := hval0
  have hW' := hW
  obtain ⟨p, q, hA0, hV, rfl, hfz, hnd⟩ := hW
  have hA : DataW.TrodAll enc Try.prog W 0 (fun _ => true) true Try.f12.params.toList args.toList ds p := hA0
  rw [Try.params12] at hA hval
  obtain ⟨v0, vs0, d0, ds0, p0, q0, hargs, rfl, rfl, h0, r0⟩ := trodAll_cons hA
  obtain ⟨v1, vs1, d1, ds1, p1, q1, rfl, rfl, rfl, h1, r1⟩ := trodAll_cons r0
  obtain ⟨rfl, rfl, rfl⟩ := trodAll_nil r1
  obtain rfl : args = #[v0, v1] := by cases args; simp_all
  obtain ⟨rfl, rfl⟩ := trodVars_none hV
  obtain ⟨s0, len0, cap0, rfl⟩ := okWide_slice Try.underlying29 (hval 0 29 v0 rfl rfl)
  have k0 := h0
  have lt0 := below_lt k0
  obtain ⟨fuel0, hf0⟩ := h0
  obtain ⟨A0, c0, xs0, hv0, rd0, m0⟩ := open_finishSS hf0
  rw [hv0] at k0
  rw [hv0]
  obtain ⟨a1, rfl, rfl, rfl, w1⟩ := open_int Try.underlying3 (hval 1 3 v1 rfl rfl) h1
  clear hA0 hval0
  refine (walk A0 c0 xs0 m0 a1 w1 W rd0).mono fun e W' ⟨he, bel⟩ => ?_
  subst he
  rw [hv0] at hW'
  exact ⟨_, rfl, _, _, _, [], _, [], hW', trodAll_mk1 (shut_bool Try.underlying4 _), (trodAll_cons_mk (Below.trod laidOut (by kernel_rfl) (of_decide_eq_true (by kernel_rfl)) k0 bel lt0) (trodAll_cons_mk (shut_int Try.underlying3 w1) trodAll_mk0)), rfl, bel.frame _, fun h => by cases h⟩
theorem over : Rows.fnExactFinalTeamsRow.holds Try.pinned (OpenSpec.ofChange Rows.fnExactFinalTeamsSpec) :=
  OpenClaim.holds_of_wide 12 Try.f12 rfl rfl rfl rfl rfl rfl rfl ⟨rfl, rfl, rfl, rfl, rfl⟩ rfl rfl rfl rfl rfl (by kernel_rfl) Try.func12 (by kernel_rfl)
    (of_decide_eq_true (by kernel_rfl)) (by unfold Func.isWrapper; first | (rw [if_pos (by decide +kernel)]; kernel_rfl) | (rw [if_neg (by decide +kernel)]; exact ⟨rfl, rfl⟩))
    (fun os started H enc _ => lifted os started H enc)
theorem proved : Rows.FnExactFinalTeamsSaid := over
end Go.Proofs.Ytbfnhhomlpkcnaa.lawFinalTeams
