/- CompareTeams of the program returns what the reference returns, for all disciplines and teams, in memory of its own: the statement's row, proved. No conditions. -/
import Derived.Test.YtbfnhhomlpkcnaaRows
import Derived.Test.YtbfnhhomlpkcnaaTw
import Derived.Test.YtbfnhhomlpkcnaaFinSS
import Derived.Test.YtbfnhhomlpkcnaaFinOpen
import Derived.Test.YtbfnhhomlpkcnaaInts
namespace Go.Proofs.Ytbfnhhomlpkcnaa
set_option linter.unusedVariables false in
theorem spec_CompareTeams (A0 : Option Addr) (c0 : Nat) (xs0 : List (List FinishD)) (a1 : Int) (a2 : Int) (hn0 : xs0.length ≤ 1048576) (hni0 : ∀ x ∈ xs0, x.length ≤ 1048576) (r : Option (Int)) (hres : r = ansCompareTeams xs0 a1 a2) (w : World) {B0 : Nat} (o0 : OwnL FinishD.enc 2 62 25 w B0 (.slice A0 xs0.length c0) xs0) : Calls Try.prog 38 #[.slice A0 xs0.length c0, .int .i64 a1, .int .i64 a2] w (Ret2 (IsInt (r.getD 0)) (IsBool r.isSome) w) := by
  subst hres
  refine ((spec_CompareTeams_ok xs0 a1 a2 hn0 hni0).calls w _ rfl (args3 (.d _ _ (rdL_of_own FinishD.dat_ok o0)) (.d _ _ (.int _ _)) (.d _ _ (.int _ _)))).mono ?_
  rintro e w' ⟨rs, rfl, hr⟩
  obtain ⟨Y, v0, v1, g0, g1, rfl, h0, h1, hb⟩ := hr.two
  exact ⟨v0, v1, rfl, rr_int h0, rr_bool h1, hb⟩
set_option linter.unusedVariables false in
theorem impl_CompareTeams (A0 : Option Addr) (c0 : Nat) (xs0 : List (List FinishD)) (a1 : Int) (a2 : Int) (hn0 : xs0.length ≤ 1048576) (hni0 : ∀ x ∈ xs0, x.length ≤ 1048576) (r : Option (Int)) (hres : r = ansCompareTeams xs0 a1 a2) (w : World) {B0 : Nat} (o0 : OwnL FinishD.enc 2 62 25 w B0 (.slice A0 xs0.length c0) xs0) : Calls Try.prog 39 #[.slice A0 xs0.length c0, .int .i64 a1, .int .i64 a2] w (Ret2 (IsInt (r.getD 0)) (IsBool r.isSome) w) := by
  subst hres
  refine ((impl_CompareTeams_ok xs0 a1 a2 hn0 hni0).calls w _ rfl (args3 (.d _ _ (rdL_of_own FinishD.dat_ok o0)) (.d _ _ (.int _ _)) (.d _ _ (.int _ _)))).mono ?_
  rintro e w' ⟨rs, rfl, hr⟩
  obtain ⟨Y, v0, v1, g0, g1, rfl, h0, h1, hb⟩ := hr.two
  exact ⟨v0, v1, rfl, rr_int h0, rr_bool h1, hb⟩
end Go.Proofs.Ytbfnhhomlpkcnaa
namespace Go.Proofs.Ytbfnhhomlpkcnaa.lawCompareTeams
open Go.ChangeShapes Go.WideShapes Go.ChangeAt Go.RowKit


set_option linter.unusedVariables false in
set_option maxHeartbeats 4000000 in
set_option maxRecDepth 100000 in
theorem walk (A0 : Option Addr) (c0 : Nat) (xs0 : List (List FinishD)) (hm0 : xs0.length ≤ maxLen ∧ ∀ xs ∈ xs0, xs.length ≤ maxLen) (a1 : Int) (wf1 : (Lit.int .i64 a1).wf = true) (a2 : Int) (wf2 : (Lit.int .i64 a2).wf = true) (w : World) (hr0 : RdL FinishD.enc 2 w A0 xs0) :
    Calls Try.prog 9 #[.slice A0 xs0.length c0, .int .i64 a1, .int .i64 a2] w fun e w' => e = .returned (.bool true) ∧ Below w.heap.size w w' := by
  obtain ⟨hm0, hmi0⟩ := hm0
  unfold maxLen at hm0 hmi0
  by_cases hs0 : (xs0.length + lenSum xs0) ≤ 1048576
  · skip
    have hn0 : xs0.length ≤ 1048576 := by omega
    have hl0 : lenSum xs0 ≤ 1048576 := by omega
    have hni0 : ∀ x ∈ xs0, x.length ≤ 1048576 := fun x h => by have := lenSum_mem h; omega
    obtain ⟨r, hres⟩ : ∃ r, r = ansCompareTeams xs0 a1 a2 := ⟨_, rfl⟩
    have HR := Lib.hid hres
    clear hres
    have hw0 : Below w.heap.size w w := Below.refl _ _
    go_enter Try.func9, Try.ntmps9
    go_wp2_with fail
    refine (szFinishSS_any _ _ _ hm0 hmi0 _ (by omega) (by omega) _ hr0).mono ?_
    rintro e w' ⟨rfl, rfl⟩
    rw [szOf_ge (by omega)]
    go_wp2_with fail
    refine (toFinishSS_any _ _ _ hn0 hni0 _ (hr0.ext hw0)).mono ?_
    rintro e w1 ⟨v1, rfl, os0, hb1⟩
    obtain ⟨As0, cs0, rfl, rs0⟩ := os0.slice FinishD.enc_len
    have z1 := hb1.size
    replace hw0 := below_trans hw0 hb1
    go_wp2_with fail
    refine (spec_CompareTeams _ _ _ a1 a2 hn0 hni0 _ HR.out _ os0).mono ?_
    rintro e w2 ⟨vW0, vW1, rfl, rfl, rfl, hb2⟩
    have z2 := hb2.size
    replace rs0 := rs0.ext hb2
    replace os0 := os0.ext hb2
    replace hw0 := below_trans hw0 hb2
    clear os0 rs0
    go_wp2_with fail
    refine (toFinishSS_any _ _ _ hn0 hni0 _ (hr0.ext hw0)).mono ?_
    rintro e w3 ⟨v3, rfl, ox0, hb3⟩
    obtain ⟨Ax0, cx0, rfl, rx0⟩ := ox0.slice FinishD.enc_len
    have z3 := hb3.size
    replace hw0 := below_trans hw0 hb3
    go_wp2_with fail
    refine (impl_CompareTeams _ _ _ a1 a2 hn0 hni0 _ HR.out _ ox0).mono ?_
    rintro e w4 ⟨vG0, vG1, rfl, rfl, rfl, hb4⟩
    have z4 := hb4.size
    replace rx0 := rx0.ext hb4
    replace hw0 := below_trans hw0 hb4
    go_wp2_with fail
    refine (toFinishSS_any _ _ _ hn0 hni0 _ (hr0.ext hw0)).mono ?_
    rintro e w5 ⟨v5, rfl, oy0, hb5⟩
    obtain ⟨Ay0, cy0, rfl, ry0⟩ := oy0.slice FinishD.enc_len
    have z5 := hb5.size
    replace rx0 := rx0.ext hb5
    replace hw0 := below_trans hw0 hb5
    go_wp2_with fail
    refine (RetB.yes (eqFinishSS_any _ _ _ _ _ _ hn0 hni0 _ rx0 ry0) rfl).mono ?_
    rintro e w6 ⟨rfl, hb6⟩
    have z6 := hb6.size
    clear oy0 ry0
    replace rx0 := rx0.ext hb6
    replace hw0 := below_trans hw0 hb6
    go_wp2
    go_ret
    exact ⟨rfl, hw0⟩
  · go_enter Try.func9, Try.ntmps9
    go_wp2_with fail
    refine (szFinishSS_any _ _ _ hm0 hmi0 _ (by omega) (by omega) _ hr0).mono ?_
    rintro e w' ⟨rfl, rfl⟩
    rw [szOf_lt (by omega)]
    go_wp2
    go_ret
    exact ⟨rfl, Below.refl _ _⟩

theorem own : ownKnob Try.prog.godebug = none := by kernel_rfl
theorem laidOut : laidOutB Try.prog = true := by kernel_rfl
set_option linter.unusedVariables false in
set_option maxRecDepth 100000 in
theorem lifted (os : Os) (started : os.Started) (H : Type) (enc : TypeId × Value → H) :
    ReturnsInHanded {} Try.checked os 9 .any (Rows.fnExactCompareTeamsSpec.pre6 enc Try.prog Try.f9 Rows.fnExactCompareTeamsRow.domain false) (Rows.fnExactCompareTeamsSpec.post enc Try.prog Try.f9 false true false false) := by
  refine returnsInHanded_of_change (C := Try.checked) own started (by kernel_rfl) Try.func9
    (ChangeSpec.witness6 (enc := enc) (C := Try.checked) false ⟨#[], #[.slice none 0 0, .int .i64 0, .int .i64 0], []⟩ 8 (by kernel_rfl) (by kernel_rfl) (by kernel_rfl) (by kernel_rfl)) ?_
  intro W base args ds gs before hval0 hW hcnd _
  have hval : ∀ (j : Nat) t v, Try.f9.params[j]? = some t → args[j]? = some v → Value.okWide Try.prog W .any base t v := hval0
  have hW' := hW
  obtain ⟨p, q, hA0, hV, rfl, hfz, hnd⟩ := hW
  have hA : DataW.TrodAll enc Try.prog W 0 (fun _ => true) true Try.f9.params.toList args.toList ds p := hA0
  rw [Try.params9] at hA hval
  obtain ⟨v0, vs0, d0, ds0, p0, q0, hargs, rfl, rfl, h0, r0⟩ := trodAll_cons hA
  obtain ⟨v1, vs1, d1, ds1, p1, q1, rfl, rfl, rfl, h1, r1⟩ := trodAll_cons r0
  obtain ⟨v2, vs2, d2, ds2, p2, q2, rfl, rfl, rfl, h2, r2⟩ := trodAll_cons r1
  obtain ⟨rfl, rfl, rfl⟩ := trodAll_nil r2
  obtain rfl : args = #[v0, v1, v2] := by cases args; simp_all
  obtain ⟨rfl, rfl⟩ := trodVars_none hV
  obtain ⟨s0, len0, cap0, rfl⟩ := okWide_slice Try.underlying29 (hval 0 29 v0 rfl rfl)
  have k0 := h0
  have lt0 := below_lt k0
  obtain ⟨fuel0, hf0⟩ := h0
  obtain ⟨A0, c0, xs0, hv0, rd0, m0⟩ := open_finishSS hf0
  rw [hv0] at k0
  rw [hv0]
  obtain ⟨a1, rfl, rfl, rfl, w1⟩ := open_int Try.underlying3 (hval 1 3 v1 rfl rfl) h1
  obtain ⟨a2, rfl, rfl, rfl, w2⟩ := open_int Try.underlying3 (hval 2 3 v2 rfl rfl) h2
  clear hA0 hval0
  refine (walk A0 c0 xs0 m0 a1 w1 a2 w2 W rd0).mono fun e W' ⟨he, bel⟩ => ?_
  subst he
  rw [hv0] at hW'
  exact ⟨_, rfl, _, _, _, [], _, [], hW', trodAll_mk1 (shut_bool Try.underlying4 _), (trodAll_cons_mk (Below.trod laidOut (by kernel_rfl) (of_decide_eq_true (by kernel_rfl)) k0 bel lt0) (trodAll_cons_mk (shut_int Try.underlying3 w1) (trodAll_cons_mk (shut_int Try.underlying3 w2) trodAll_mk0))), rfl, bel.frame _, fun h => by cases h⟩
theorem over : Rows.fnExactCompareTeamsRow.holds Try.pinned (OpenSpec.ofChange Rows.fnExactCompareTeamsSpec) :=
  OpenClaim.holds_of_wide 9 Try.f9 rfl rfl rfl rfl rfl rfl rfl ⟨rfl, rfl, rfl, rfl, rfl⟩ rfl rfl rfl rfl rfl (by kernel_rfl) Try.func9 (by kernel_rfl)
    (of_decide_eq_true (by kernel_rfl)) (by unfold Func.isWrapper; first | (rw [if_pos (by decide +kernel)]; kernel_rfl) | (rw [if_neg (by decide +kernel)]; exact ⟨rfl, rfl⟩))
    (fun os started H enc _ => lifted os started H enc)
theorem proved : Rows.FnExactCompareTeamsSaid := over
end Go.Proofs.Ytbfnhhomlpkcnaa.lawCompareTeams
