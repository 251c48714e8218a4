/- TooLate of the program returns what the reference returns, for all inquiries, starts and windows, in memory of its own: the statement's row, proved. No conditions. -/
import Derived.Test.YtjcheccngombkaaRows
import Derived.Test.YtjcheccngombkaaTl
import Derived.Test.YtjcheccngombkaaInqFOpen
import Derived.Test.YtjcheccngombkaaInts
namespace Go.Proofs.Ytjcheccngombkaa
set_option linter.unusedVariables false in
theorem spec_TooLate (A0 : Option Addr) (c0 : Nat) (xs0 : List InquiryD) (a1 : Int) (a2 : Int) (hn0 : xs0.length ≤ 1048576) (r : Option (List Int)) (hres : r = ansTooLate xs0 a1 a2) (w : World) {B0 : Nat} (o0 : OwnS InquiryD.enc 5 67 w B0 (.slice A0 xs0.length c0) xs0) : Calls Try.prog 18 #[.slice A0 xs0.length c0, .int .i64 a1, .int .i64 a2] w (Ret2 (IsS encI 1 3 (r.getD [])) (IsBool r.isSome) w) := by
  subst hres
  refine ((spec_TooLate_ok xs0 a1 a2 hn0).calls w _ rfl (args3 (.d _ _ (rd_of_own InquiryD.dat_ok o0)) (.d _ _ (.int _ _)) (.d _ _ (.int _ _)))).mono ?_
  rintro e w' ⟨rs, rfl, hr⟩
  obtain ⟨Y, v0, v1, g0, g1, rfl, h0, h1, hb⟩ := hr.two
  exact ⟨v0, v1, rfl, own_of_rr datI_ok h0, rr_bool h1, hb⟩
set_option linter.unusedVariables false in
theorem impl_TooLate (A0 : Option Addr) (c0 : Nat) (xs0 : List InquiryD) (a1 : Int) (a2 : Int) (hn0 : xs0.length ≤ 1048576) (r : Option (List Int)) (hres : r = ansTooLate xs0 a1 a2) (w : World) {B0 : Nat} (o0 : OwnS InquiryD.enc 5 67 w B0 (.slice A0 xs0.length c0) xs0) : Calls Try.prog 19 #[.slice A0 xs0.length c0, .int .i64 a1, .int .i64 a2] w (Ret2 (IsS encI 1 3 (r.getD [])) (IsBool r.isSome) w) := by
  subst hres
  refine ((impl_TooLate_ok xs0 a1 a2 hn0).calls w _ rfl (args3 (.d _ _ (rd_of_own InquiryD.dat_ok o0)) (.d _ _ (.int _ _)) (.d _ _ (.int _ _)))).mono ?_
  rintro e w' ⟨rs, rfl, hr⟩
  obtain ⟨Y, v0, v1, g0, g1, rfl, h0, h1, hb⟩ := hr.two
  exact ⟨v0, v1, rfl, own_of_rr datI_ok h0, rr_bool h1, hb⟩
end Go.Proofs.Ytjcheccngombkaa
namespace Go.Proofs.Ytjcheccngombkaa.lawTooLate
open Go.ChangeShapes Go.WideShapes Go.ChangeAt Go.RowKit

theorem len {q : List InquiryD} {a b : Int} {x : Option (List Int)} (h : x = ansTooLate q a b) : (x.getD []).length ≤ 40 := by
  subst h
  by_cases hv : q.length ≤ 20 ∧ 0 ≤ a ∧ a ≤ 100000 ∧ 0 ≤ b ∧ b ≤ 100000
  · simp only [ansTooLate]; rw [optP_pos hv]; simp only [Option.getD_some]; exact Nat.le_trans (ixN_len _ _) (by omega)
  · simp only [ansTooLate]; rw [optP_neg hv]; simp

set_option linter.unusedVariables false in
set_option maxHeartbeats 4000000 in
set_option maxRecDepth 100000 in
theorem walk (A0 : Option Addr) (c0 : Nat) (xs0 : List InquiryD) (hm0 : xs0.length ≤ maxLen) (a1 : Int) (wf1 : (Lit.int .i64 a1).wf = true) (a2 : Int) (wf2 : (Lit.int .i64 a2).wf = true) (w : World) (hr0 : RdS InquiryD.enc 5 w A0 xs0) :
    Calls Try.prog 4 #[.slice A0 xs0.length c0, .int .i64 a1, .int .i64 a2] w fun e w' => e = .returned (.bool true) ∧ Below w.heap.size w w' := by
  unfold maxLen at hm0
  by_cases hs0 : xs0.length ≤ 1048576
  · skip
    have hn0 : xs0.length ≤ 1048576 := by omega
    obtain ⟨r, hres⟩ : ∃ r, r = ansTooLate xs0 a1 a2 := ⟨_, rfl⟩
    have hlen := len hres
    have HR := Lib.hid hres
    clear hres
    have hw0 : Below w.heap.size w w := Below.refl _ _
    go_enter Try.func4, Try.ntmps4
    go_wp2_with fail
    refine (szInquiryS_any _ _ _ hm0 _ (by omega) (by omega) _).mono ?_
    rintro e w' ⟨rfl, rfl⟩
    rw [szOf_ge (by omega)]
    go_wp2_with fail
    refine (toInquiryS_any _ _ _ hn0 _ (hr0.ext hw0)).mono ?_
    rintro e w1 ⟨v1, rfl, os0, hb1⟩
    obtain ⟨As0, cs0, rfl, rs0⟩ := os0.slice InquiryD.enc_len
    have z1 := hb1.size
    replace hw0 := below_trans hw0 hb1
    go_wp2_with fail
    refine (spec_TooLate _ _ _ a1 a2 hn0 _ HR.out _ os0).mono ?_
    rintro e w2 ⟨vW0, vW1, rfl, oW0, rfl, hb2⟩
    obtain ⟨AW0, cW0, rfl, rW0⟩ := OwnS.slice encI_len oW0
    have z2 := hb2.size
    replace rs0 := rs0.ext hb2
    replace os0 := os0.ext hb2
    replace hw0 := below_trans hw0 hb2
    clear os0 rs0
    have bW0 := fun g e => (oW0.blocks g e).2
    go_wp2_with fail
    refine (toInquiryS_any _ _ _ hn0 _ (hr0.ext hw0)).mono ?_
    rintro e w3 ⟨v3, rfl, ox0, hb3⟩
    obtain ⟨Ax0, cx0, rfl, rx0⟩ := ox0.slice InquiryD.enc_len
    have z3 := hb3.size
    replace oW0 := oW0.ext hb3
    replace rW0 := rW0.ext hb3
    replace hw0 := below_trans hw0 hb3
    have bx0 := ox0.blocks
    go_wp2_with fail
    refine (impl_TooLate _ _ _ a1 a2 hn0 _ HR.out _ ox0).mono ?_
    rintro e w4 ⟨vG0, vG1, rfl, oG0, rfl, hb4⟩
    obtain ⟨AG0, cG0, rfl, rG0⟩ := OwnS.slice encI_len oG0
    have z4 := hb4.size
    replace oW0 := oW0.ext hb4
    replace rW0 := rW0.ext hb4
    replace rx0 := rx0.ext hb4
    replace ox0 := ox0.ext hb4
    replace hw0 := below_trans hw0 hb4
    have bG0 := oG0.blocks
    go_wp2_with fail
    refine (RetB.yes (eqIntS_any _ _ _ _ _ _ (by omega) _ rG0 rW0) rfl).mono ?_
    rintro e w5 ⟨rfl, hb5⟩
    have z5 := hb5.size
    replace oW0 := oW0.ext hb5
    replace rW0 := rW0.ext hb5
    replace rx0 := rx0.ext hb5
    replace ox0 := ox0.ext hb5
    replace oG0 := oG0.ext hb5
    replace rG0 := rG0.ext hb5
    replace hw0 := below_trans hw0 hb5
    go_wp2_with fail
    refine (toInquiryS_any _ _ _ hn0 _ (hr0.ext hw0)).mono ?_
    rintro e w6 ⟨v6, rfl, oy0, hb6⟩
    obtain ⟨Ay0, cy0, rfl, ry0⟩ := oy0.slice InquiryD.enc_len
    have z6 := hb6.size
    replace oW0 := oW0.ext hb6
    replace rW0 := rW0.ext hb6
    replace rx0 := rx0.ext hb6
    replace ox0 := ox0.ext hb6
    replace oG0 := oG0.ext hb6
    replace rG0 := rG0.ext hb6
    replace hw0 := below_trans hw0 hb6
    go_wp2_with fail
    refine (RetB.yes (eqInquiryS_any _ _ _ _ _ _ (by omega) _ rx0 ry0) rfl).mono ?_
    rintro e w7 ⟨rfl, hb7⟩
    have z7 := hb7.size
    clear oy0 ry0
    replace oW0 := oW0.ext hb7
    replace rW0 := rW0.ext hb7
    replace rx0 := rx0.ext hb7
    replace ox0 := ox0.ext hb7
    replace oG0 := oG0.ext hb7
    replace rG0 := rG0.ext hb7
    replace hw0 := below_trans hw0 hb7
    clear rx0
    go_wp2_with fail
    refine (markInquiryS_any _ _ _ _ _ (by omega) _ (by omega) (by omega) _ ox0).mono ?_
    rintro e w8 ⟨rfl, -, hg8⟩
    have mk8 : Marked w2.heap.size w3.heap.size _ w8 := Marked.of_grown hg8 bx0
    clear ox0 bx0 hg8
    have z8 := mk8.size
    replace hw0 := hw0.trans (mk8.below (B := w.heap.size) (by omega) (by omega))
    replace oW0 := mk8.far oW0 (fun g e => .inl (by have := bW0 g e; omega))
    replace rW0 := oW0.rd encI_len
    replace oG0 := mk8.own oG0 (by omega)
    replace rG0 := oG0.rd encI_len
    go_wp2_with fail
    refine (RetB.yes (eqIntS_any _ _ _ _ _ _ (by omega) _ rG0 rW0) rfl).mono ?_
    rintro e w9 ⟨rfl, hb9⟩
    have z9 := hb9.size
    replace oW0 := oW0.ext hb9
    replace rW0 := rW0.ext hb9
    replace oG0 := oG0.ext hb9
    replace rG0 := rG0.ext hb9
    replace hw0 := below_trans hw0 hb9
    go_wp2_with fail
    refine (markIntS_any _ _ _ _ _ (by omega) _ (by omega) (by omega) _ oG0).mono ?_
    rintro e w10 ⟨rfl, oM0, hg10⟩
    have mk10 : Marked w3.heap.size w4.heap.size _ w10 := Marked.of_grown hg10 bG0
    have z10 := mk10.size
    replace hw0 := hw0.trans (mk10.below (B := w.heap.size) (by omega) (by omega))
    replace oW0 := mk10.far oW0 (fun g e => .inl (by have := bW0 g e; omega))
    replace rW0 := oW0.rd encI_len
    clear oG0 rG0 hg10 bG0
    have rM0 := oM0.rd encI_len
    clear oM0
    go_wp2_with fail
    refine (heldIntS_any _ _ _ (by omega) _ (by omega) (by omega) _ rM0).mono ?_
    rintro e w' ⟨rfl, rfl⟩
    go_wp2_with fail
    refine (toInquiryS_any _ _ _ hn0 _ (hr0.ext hw0)).mono ?_
    rintro e w11 ⟨v11, rfl, ot0, hb11⟩
    obtain ⟨At0, ct0, rfl, rt0⟩ := ot0.slice InquiryD.enc_len
    have z11 := hb11.size
    replace oW0 := oW0.ext hb11
    replace rW0 := rW0.ext hb11
    replace rM0 := rM0.ext hb11
    replace hw0 := below_trans hw0 hb11
    go_wp2_with fail
    refine (impl_TooLate _ _ _ a1 a2 hn0 _ HR.out _ ot0).mono ?_
    rintro e w12 ⟨vH0, vH1, rfl, oH0, rfl, hb12⟩
    obtain ⟨AH0, cH0, rfl, rH0⟩ := OwnS.slice encI_len oH0
    have z12 := hb12.size
    replace oW0 := oW0.ext hb12
    replace rW0 := rW0.ext hb12
    replace rM0 := rM0.ext hb12
    replace rt0 := rt0.ext hb12
    replace ot0 := ot0.ext hb12
    replace hw0 := below_trans hw0 hb12
    clear ot0 rt0
    go_wp2_with fail
    refine (RetB.yes (eqIntS_any _ _ _ _ _ _ (by omega) _ rH0 rW0) rfl).mono ?_
    rintro e w13 ⟨rfl, hb13⟩
    have z13 := hb13.size
    replace oW0 := oW0.ext hb13
    replace rW0 := rW0.ext hb13
    replace rM0 := rM0.ext hb13
    replace rH0 := rH0.ext hb13
    replace hw0 := below_trans hw0 hb13
    go_wp2_with fail
    refine (heldIntS_any _ _ _ (by omega) _ (by omega) (by omega) _ rM0).mono ?_
    rintro e w' ⟨rfl, rfl⟩
    go_wp2
    go_ret
    exact ⟨rfl, hw0⟩
  · go_enter Try.func4, Try.ntmps4
    go_wp2_with fail
    refine (szInquiryS_any _ _ _ hm0 _ (by omega) (by omega) _).mono ?_
    rintro e w' ⟨rfl, rfl⟩
    rw [szOf_lt (by omega)]
    go_wp2
    go_ret
    exact ⟨rfl, Below.refl _ _⟩

theorem own : ownKnob Try.prog.godebug = none := by kernel_rfl
theorem laidOut : laidOutB Try.prog = true := by kernel_rfl
set_option linter.unusedVariables false in
set_option maxRecDepth 100000 in
theorem lifted (os : Os) (started : os.Started) (H : Type) (enc : TypeId × Value → H) :
    ReturnsInHanded {} Try.checked os 4 .any (Rows.fnExactTooLateSpec.pre6 enc Try.prog Try.f4 Rows.fnExactTooLateRow.domain false) (Rows.fnExactTooLateSpec.post enc Try.prog Try.f4 false true false false) := by
  refine returnsInHanded_of_change (C := Try.checked) own started (by kernel_rfl) Try.func4
    (ChangeSpec.witness6 (enc := enc) (C := Try.checked) false ⟨#[], #[.slice none 0 0, .int .i64 0, .int .i64 0], []⟩ 8 (by kernel_rfl) (by kernel_rfl) (by kernel_rfl) (by kernel_rfl)) ?_
  intro W base args ds gs before hval0 hW hcnd _
  have hval : ∀ (j : Nat) t v, Try.f4.params[j]? = some t → args[j]? = some v → Value.okWide Try.prog W .any base t v := hval0
  have hW' := hW
  obtain ⟨p, q, hA0, hV, rfl, hfz, hnd⟩ := hW
  have hA : DataW.TrodAll enc Try.prog W 0 (fun _ => true) true Try.f4.params.toList args.toList ds p := hA0
  rw [Try.params4] at hA hval
  obtain ⟨v0, vs0, d0, ds0, p0, q0, hargs, rfl, rfl, h0, r0⟩ := trodAll_cons hA
  obtain ⟨v1, vs1, d1, ds1, p1, q1, rfl, rfl, rfl, h1, r1⟩ := trodAll_cons r0
  obtain ⟨v2, vs2, d2, ds2, p2, q2, rfl, rfl, rfl, h2, r2⟩ := trodAll_cons r1
  obtain ⟨rfl, rfl, rfl⟩ := trodAll_nil r2
  obtain rfl : args = #[v0, v1, v2] := by cases args; simp_all
  obtain ⟨rfl, rfl⟩ := trodVars_none hV
  obtain ⟨s0, len0, cap0, rfl⟩ := okWide_slice Try.underlying22 (hval 0 22 v0 rfl rfl)
  have k0 := h0
  have lt0 := below_lt k0
  obtain ⟨fuel0, hf0⟩ := h0
  obtain ⟨A0, c0, xs0, hv0, rd0, m0⟩ := open_inquiryS hf0
  rw [hv0] at k0
  rw [hv0]
  obtain ⟨a1, rfl, rfl, rfl, w1⟩ := open_int Try.underlying3 (hval 1 3 v1 rfl rfl) h1
  obtain ⟨a2, rfl, rfl, rfl, w2⟩ := open_int Try.underlying3 (hval 2 3 v2 rfl rfl) h2
  clear hA0 hval0
  refine (walk A0 c0 xs0 m0 a1 w1 a2 w2 W rd0).mono fun e W' ⟨he, bel⟩ => ?_
  subst he
  rw [hv0] at hW'
  exact ⟨_, rfl, _, _, _, [], _, [], hW', trodAll_mk1 (shut_bool Try.underlying4 _), (trodAll_cons_mk (Below.trod laidOut (by kernel_rfl) (of_decide_eq_true (by kernel_rfl)) k0 bel lt0) (trodAll_cons_mk (shut_int Try.underlying3 w1) (trodAll_cons_mk (shut_int Try.underlying3 w2) trodAll_mk0))), rfl, bel.frame _, fun h => by cases h⟩
theorem over : Rows.fnExactTooLateRow.holds Try.pinned (OpenSpec.ofChange Rows.fnExactTooLateSpec) :=
  OpenClaim.holds_of_wide 4 Try.f4 rfl rfl rfl rfl rfl rfl rfl ⟨rfl, rfl, rfl, rfl, rfl⟩ rfl rfl rfl rfl rfl (by kernel_rfl) Try.func4 (by kernel_rfl)
    (of_decide_eq_true (by kernel_rfl)) (by unfold Func.isWrapper; first | (rw [if_pos (by decide +kernel)]; kernel_rfl) | (rw [if_neg (by decide +kernel)]; exact ⟨rfl, rfl⟩))
    (fun os started H enc _ => lifted os started H enc)
theorem proved : Rows.FnExactTooLateSaid := over
end Go.Proofs.Ytjcheccngombkaa.lawTooLate
