/- ClubCounts of the program returns what the reference returns, for all clubs and skaters, in memory of its own: the statement's row, proved. No conditions. -/
import Derived.Test.YtjcheccngombkaaRows
import Derived.Test.YtjcheccngombkaaClub
import Derived.Test.YtjcheccngombkaaClubOpen
import Derived.Test.YtjcheccngombkaaIntOpen
namespace Go.Proofs.Ytjcheccngombkaa
set_option linter.unusedVariables false in
theorem spec_ClubCounts (A0 : Option Addr) (c0 : Nat) (xs0 : List ClubD) (A1 : Option Addr) (c1 : Nat) (xs1 : List Int) (hn0 : xs0.length ≤ 1048576) (hn1 : xs1.length ≤ 1048576) (r : Option (List Int)) (hres : r = ansClubCounts xs0 xs1) (w : World) {B0 : Nat} (o0 : OwnS ClubD.enc 2 86 w B0 (.slice A0 xs0.length c0) xs0) {B1 : Nat} (o1 : OwnS encI 1 3 w B1 (.slice A1 xs1.length c1) xs1) : Calls Try.prog 39 #[.slice A0 xs0.length c0, .slice A1 xs1.length c1] w (Ret2 (IsS encI 1 3 (r.getD [])) (IsBool r.isSome) w) := by
  subst hres
  refine ((spec_ClubCounts_ok xs0 xs1 hn0 hn1).calls w _ rfl (args2 (.d _ _ (rd_of_own ClubD.dat_ok o0)) (.d _ _ (rd_of_own datI_ok o1)))).mono ?_
  rintro e w' ⟨rs, rfl, hr⟩
  obtain ⟨Y, v0, v1, g0, g1, rfl, h0, h1, hb⟩ := hr.two
  exact ⟨v0, v1, rfl, own_of_rr datI_ok h0, rr_bool h1, hb⟩
set_option linter.unusedVariables false in
theorem impl_ClubCounts (A0 : Option Addr) (c0 : Nat) (xs0 : List ClubD) (A1 : Option Addr) (c1 : Nat) (xs1 : List Int) (hn0 : xs0.length ≤ 1048576) (hn1 : xs1.length ≤ 1048576) (r : Option (List Int)) (hres : r = ansClubCounts xs0 xs1) (w : World) {B0 : Nat} (o0 : OwnS ClubD.enc 2 86 w B0 (.slice A0 xs0.length c0) xs0) {B1 : Nat} (o1 : OwnS encI 1 3 w B1 (.slice A1 xs1.length c1) xs1) : Calls Try.prog 41 #[.slice A0 xs0.length c0, .slice A1 xs1.length c1] w (Ret2 (IsS encI 1 3 (r.getD [])) (IsBool r.isSome) w) := by
  subst hres
  refine ((impl_ClubCounts_ok xs0 xs1 hn0 hn1).calls w _ rfl (args2 (.d _ _ (rd_of_own ClubD.dat_ok o0)) (.d _ _ (rd_of_own datI_ok o1)))).mono ?_
  rintro e w' ⟨rs, rfl, hr⟩
  obtain ⟨Y, v0, v1, g0, g1, rfl, h0, h1, hb⟩ := hr.two
  exact ⟨v0, v1, rfl, own_of_rr datI_ok h0, rr_bool h1, hb⟩
end Go.Proofs.Ytjcheccngombkaa
namespace Go.Proofs.Ytjcheccngombkaa.lawClubCounts
open Go.ChangeShapes Go.WideShapes Go.ChangeAt Go.RowKit

theorem len {l : List ClubD} {s : List Int} {x : Option (List Int)} (h : x = ansClubCounts l s) : (x.getD []).length ≤ 40 := by
  subst h
  by_cases hv : ClubsOk l ∧ OrdOk s ∧ ∀ n ∈ s, skB2 l n = true
  · simp only [ansClubCounts]; rw [optP_pos hv]; simp only [Option.getD_some]; rw [cnt20_len]; omega
  · simp only [ansClubCounts]; rw [optP_neg hv]; simp

set_option linter.unusedVariables false in
set_option maxHeartbeats 4000000 in
set_option maxRecDepth 100000 in
theorem walk (A0 : Option Addr) (c0 : Nat) (xs0 : List ClubD) (hm0 : xs0.length ≤ maxLen) (A1 : Option Addr) (c1 : Nat) (xs1 : List Int) (hm1 : xs1.length ≤ maxLen) (w : World) (hr0 : RdS ClubD.enc 2 w A0 xs0) (hr1 : RdS encI 1 w A1 xs1) :
    Calls Try.prog 9 #[.slice A0 xs0.length c0, .slice A1 xs1.length c1] w fun e w' => e = .returned (.bool true) ∧ Below w.heap.size w w' := by
  unfold maxLen at hm0
  unfold maxLen at hm1
  by_cases hs1 : xs1.length ≤ 1048576
  · skip
    by_cases hs0 : xs0.length ≤ 1048576
    · skip
      have hn0 : xs0.length ≤ 1048576 := by omega
      have hn1 : xs1.length ≤ 1048576 := by omega
      obtain ⟨r, hres⟩ : ∃ r, r = ansClubCounts xs0 xs1 := ⟨_, rfl⟩
      have hlen := len hres
      have HR := Lib.hid hres
      clear hres
      have hw0 : Below w.heap.size w w := Below.refl _ _
      go_enter Try.func9, Try.ntmps9
      go_wp2_with fail
      refine (szClubS_any _ _ _ hm0 _ (by omega) (by omega) _).mono ?_
      rintro e w' ⟨rfl, rfl⟩
      rw [szOf_ge (by omega)]
      go_wp2_with fail
      refine (toClubS_any _ _ _ hn0 _ (hr0.ext hw0)).mono ?_
      rintro e w1 ⟨v1, rfl, os0, hb1⟩
      obtain ⟨As0, cs0, rfl, rs0⟩ := os0.slice ClubD.enc_len
      have z1 := hb1.size
      replace hw0 := below_trans hw0 hb1
      go_wp2_with fail
      refine (toIntS_any _ _ _ hn1 _ (hr1.ext hw0)).mono ?_
      rintro e w2 ⟨v2, rfl, os1, hb2⟩
      obtain ⟨As1, cs1, rfl, rs1⟩ := os1.slice encI_len
      have z2 := hb2.size
      replace rs0 := rs0.ext hb2
      replace os0 := os0.ext hb2
      replace hw0 := below_trans hw0 hb2
      go_wp2_with fail
      refine (spec_ClubCounts _ _ _ _ _ _ hn0 hn1 _ HR.out _ os0 os1).mono ?_
      rintro e w3 ⟨vW0, vW1, rfl, oW0, rfl, hb3⟩
      obtain ⟨AW0, cW0, rfl, rW0⟩ := OwnS.slice encI_len oW0
      have z3 := hb3.size
      replace rs0 := rs0.ext hb3
      replace os0 := os0.ext hb3
      replace rs1 := rs1.ext hb3
      replace os1 := os1.ext hb3
      replace hw0 := below_trans hw0 hb3
      clear os0 rs0 os1 rs1
      have bW0 := fun g e => (oW0.blocks g e).2
      go_wp2_with fail
      refine (toClubS_any _ _ _ hn0 _ (hr0.ext hw0)).mono ?_
      rintro e w4 ⟨v4, rfl, ox0, hb4⟩
      obtain ⟨Ax0, cx0, rfl, rx0⟩ := ox0.slice ClubD.enc_len
      have z4 := hb4.size
      replace oW0 := oW0.ext hb4
      replace rW0 := rW0.ext hb4
      replace hw0 := below_trans hw0 hb4
      have bx0 := ox0.blocks
      go_wp2_with fail
      refine (toIntS_any _ _ _ hn1 _ (hr1.ext hw0)).mono ?_
      rintro e w5 ⟨v5, rfl, ox1, hb5⟩
      obtain ⟨Ax1, cx1, rfl, rx1⟩ := ox1.slice encI_len
      have z5 := hb5.size
      replace oW0 := oW0.ext hb5
      replace rW0 := rW0.ext hb5
      replace rx0 := rx0.ext hb5
      replace ox0 := ox0.ext hb5
      replace hw0 := below_trans hw0 hb5
      have bx1 := ox1.blocks
      go_wp2_with fail
      refine (impl_ClubCounts _ _ _ _ _ _ hn0 hn1 _ HR.out _ ox0 ox1).mono ?_
      rintro e w6 ⟨vG0, vG1, rfl, oG0, rfl, hb6⟩
      obtain ⟨AG0, cG0, rfl, rG0⟩ := OwnS.slice encI_len oG0
      have z6 := hb6.size
      replace oW0 := oW0.ext hb6
      replace rW0 := rW0.ext hb6
      replace rx0 := rx0.ext hb6
      replace ox0 := ox0.ext hb6
      replace rx1 := rx1.ext hb6
      replace ox1 := ox1.ext hb6
      replace hw0 := below_trans hw0 hb6
      have bG0 := oG0.blocks
      go_wp2_with fail
      refine (RetB.yes (eqIntS_any _ _ _ _ _ _ (by omega) _ rG0 rW0) rfl).mono ?_
      rintro e w7 ⟨rfl, hb7⟩
      have z7 := hb7.size
      replace oW0 := oW0.ext hb7
      replace rW0 := rW0.ext hb7
      replace rx0 := rx0.ext hb7
      replace ox0 := ox0.ext hb7
      replace rx1 := rx1.ext hb7
      replace ox1 := ox1.ext hb7
      replace oG0 := oG0.ext hb7
      replace rG0 := rG0.ext hb7
      replace hw0 := below_trans hw0 hb7
      go_wp2_with fail
      refine (toClubS_any _ _ _ hn0 _ (hr0.ext hw0)).mono ?_
      rintro e w8 ⟨v8, rfl, oy0, hb8⟩
      obtain ⟨Ay0, cy0, rfl, ry0⟩ := oy0.slice ClubD.enc_len
      have z8 := hb8.size
      replace oW0 := oW0.ext hb8
      replace rW0 := rW0.ext hb8
      replace rx0 := rx0.ext hb8
      replace ox0 := ox0.ext hb8
      replace rx1 := rx1.ext hb8
      replace ox1 := ox1.ext hb8
      replace oG0 := oG0.ext hb8
      replace rG0 := rG0.ext hb8
      replace hw0 := below_trans hw0 hb8
      go_wp2_with fail
      refine (RetB.yes (eqClubS_any _ _ _ _ _ _ (by omega) _ rx0 ry0) rfl).mono ?_
      rintro e w9 ⟨rfl, hb9⟩
      have z9 := hb9.size
      clear oy0 ry0
      replace oW0 := oW0.ext hb9
      replace rW0 := rW0.ext hb9
      replace rx0 := rx0.ext hb9
      replace ox0 := ox0.ext hb9
      replace rx1 := rx1.ext hb9
      replace ox1 := ox1.ext hb9
      replace oG0 := oG0.ext hb9
      replace rG0 := rG0.ext hb9
      replace hw0 := below_trans hw0 hb9
      go_wp2_with fail
      refine (toIntS_any _ _ _ hn1 _ (hr1.ext hw0)).mono ?_
      rintro e w10 ⟨v10, rfl, oy1, hb10⟩
      obtain ⟨Ay1, cy1, rfl, ry1⟩ := oy1.slice encI_len
      have z10 := hb10.size
      replace oW0 := oW0.ext hb10
      replace rW0 := rW0.ext hb10
      replace rx0 := rx0.ext hb10
      replace ox0 := ox0.ext hb10
      replace rx1 := rx1.ext hb10
      replace ox1 := ox1.ext hb10
      replace oG0 := oG0.ext hb10
      replace rG0 := rG0.ext hb10
      replace hw0 := below_trans hw0 hb10
      go_wp2_with fail
      refine (RetB.yes (eqIntS_any _ _ _ _ _ _ (by omega) _ rx1 ry1) rfl).mono ?_
      rintro e w11 ⟨rfl, hb11⟩
      have z11 := hb11.size
      clear oy1 ry1
      replace oW0 := oW0.ext hb11
      replace rW0 := rW0.ext hb11
      replace rx0 := rx0.ext hb11
      replace ox0 := ox0.ext hb11
      replace rx1 := rx1.ext hb11
      replace ox1 := ox1.ext hb11
      replace oG0 := oG0.ext hb11
      replace rG0 := rG0.ext hb11
      replace hw0 := below_trans hw0 hb11
      clear rx0
      go_wp2_with fail
      refine (markClubS_any _ _ _ _ _ (by omega) _ (by omega) (by omega) _ ox0).mono ?_
      rintro e w12 ⟨rfl, -, hg12⟩
      have mk12 : Marked w3.heap.size w4.heap.size _ w12 := Marked.of_grown hg12 bx0
      clear ox0 bx0 hg12
      have z12 := mk12.size
      replace hw0 := hw0.trans (mk12.below (B := w.heap.size) (by omega) (by omega))
      replace ox1 := mk12.own ox1 (by omega)
      replace rx1 := ox1.rd encI_len
      replace oW0 := mk12.far oW0 (fun g e => .inl (by have := bW0 g e; omega))
      replace rW0 := oW0.rd encI_len
      replace oG0 := mk12.own oG0 (by omega)
      replace rG0 := oG0.rd encI_len
      clear rx1
      go_wp2_with fail
      refine (markIntS_any _ _ _ _ _ (by omega) _ (by omega) (by omega) _ ox1).mono ?_
      rintro e w13 ⟨rfl, -, hg13⟩
      have mk13 : Marked w4.heap.size w5.heap.size _ w13 := Marked.of_grown hg13 bx1
      clear ox1 bx1 hg13
      have z13 := mk13.size
      replace hw0 := hw0.trans (mk13.below (B := w.heap.size) (by omega) (by omega))
      replace oW0 := mk13.far oW0 (fun g e => .inl (by have := bW0 g e; omega))
      replace rW0 := oW0.rd encI_len
      replace oG0 := mk13.own oG0 (by omega)
      replace rG0 := oG0.rd encI_len
      go_wp2_with fail
      refine (RetB.yes (eqIntS_any _ _ _ _ _ _ (by omega) _ rG0 rW0) rfl).mono ?_
      rintro e w14 ⟨rfl, hb14⟩
      have z14 := hb14.size
      replace oW0 := oW0.ext hb14
      replace rW0 := rW0.ext hb14
      replace oG0 := oG0.ext hb14
      replace rG0 := rG0.ext hb14
      replace hw0 := below_trans hw0 hb14
      go_wp2_with fail
      refine (markIntS_any _ _ _ _ _ (by omega) _ (by omega) (by omega) _ oG0).mono ?_
      rintro e w15 ⟨rfl, oM0, hg15⟩
      have mk15 : Marked w5.heap.size w6.heap.size _ w15 := Marked.of_grown hg15 bG0
      have z15 := mk15.size
      replace hw0 := hw0.trans (mk15.below (B := w.heap.size) (by omega) (by omega))
      replace oW0 := mk15.far oW0 (fun g e => .inl (by have := bW0 g e; omega))
      replace rW0 := oW0.rd encI_len
      clear oG0 rG0 hg15 bG0
      have rM0 := oM0.rd encI_len
      clear oM0
      go_wp2_with fail
      refine (heldIntS_any _ _ _ (by omega) _ (by omega) (by omega) _ rM0).mono ?_
      rintro e w' ⟨rfl, rfl⟩
      go_wp2_with fail
      refine (toClubS_any _ _ _ hn0 _ (hr0.ext hw0)).mono ?_
      rintro e w16 ⟨v16, rfl, ot0, hb16⟩
      obtain ⟨At0, ct0, rfl, rt0⟩ := ot0.slice ClubD.enc_len
      have z16 := hb16.size
      replace oW0 := oW0.ext hb16
      replace rW0 := rW0.ext hb16
      replace rM0 := rM0.ext hb16
      replace hw0 := below_trans hw0 hb16
      go_wp2_with fail
      refine (toIntS_any _ _ _ hn1 _ (hr1.ext hw0)).mono ?_
      rintro e w17 ⟨v17, rfl, ot1, hb17⟩
      obtain ⟨At1, ct1, rfl, rt1⟩ := ot1.slice encI_len
      have z17 := hb17.size
      replace oW0 := oW0.ext hb17
      replace rW0 := rW0.ext hb17
      replace rM0 := rM0.ext hb17
      replace rt0 := rt0.ext hb17
      replace ot0 := ot0.ext hb17
      replace hw0 := below_trans hw0 hb17
      go_wp2_with fail
      refine (impl_ClubCounts _ _ _ _ _ _ hn0 hn1 _ HR.out _ ot0 ot1).mono ?_
      rintro e w18 ⟨vH0, vH1, rfl, oH0, rfl, hb18⟩
      obtain ⟨AH0, cH0, rfl, rH0⟩ := OwnS.slice encI_len oH0
      have z18 := hb18.size
      replace oW0 := oW0.ext hb18
      replace rW0 := rW0.ext hb18
      replace rM0 := rM0.ext hb18
      replace rt0 := rt0.ext hb18
      replace ot0 := ot0.ext hb18
      replace rt1 := rt1.ext hb18
      replace ot1 := ot1.ext hb18
      replace hw0 := below_trans hw0 hb18
      clear ot0 rt0 ot1 rt1
      go_wp2_with fail
      refine (RetB.yes (eqIntS_any _ _ _ _ _ _ (by omega) _ rH0 rW0) rfl).mono ?_
      rintro e w19 ⟨rfl, hb19⟩
      have z19 := hb19.size
      replace oW0 := oW0.ext hb19
      replace rW0 := rW0.ext hb19
      replace rM0 := rM0.ext hb19
      replace rH0 := rH0.ext hb19
      replace hw0 := below_trans hw0 hb19
      go_wp2_with fail
      refine (heldIntS_any _ _ _ (by omega) _ (by omega) (by omega) _ rM0).mono ?_
      rintro e w' ⟨rfl, rfl⟩
      go_wp2
      go_ret
      exact ⟨rfl, hw0⟩
    · go_enter Try.func9, Try.ntmps9
      go_wp2_with fail
      refine (szClubS_any _ _ _ hm0 _ (by omega) (by omega) _).mono ?_
      rintro e w' ⟨rfl, rfl⟩
      rw [szOf_lt (by omega)]
      go_wp2
      go_ret
      exact ⟨rfl, Below.refl _ _⟩
  · go_enter Try.func9, Try.ntmps9
    go_wp2
    go_ret
    exact ⟨rfl, Below.refl _ _⟩

theorem own : ownKnob Try.prog.godebug = none := by kernel_rfl
theorem laidOut : laidOutB Try.prog = true := by kernel_rfl
set_option linter.unusedVariables false in
set_option maxRecDepth 100000 in
theorem lifted (os : Os) (started : os.Started) (H : Type) (enc : TypeId × Value → H) :
    ReturnsInHanded {} Try.checked os 9 .any (Rows.fnExactClubCountsSpec.pre6 enc Try.prog Try.f9 Rows.fnExactClubCountsRow.domain false) (Rows.fnExactClubCountsSpec.post enc Try.prog Try.f9 false true false false) := by
  refine returnsInHanded_of_change (C := Try.checked) own started (by kernel_rfl) Try.func9
    (ChangeSpec.witness6 (enc := enc) (C := Try.checked) false ⟨#[], #[.slice none 0 0, .slice none 0 0], []⟩ 8 (by kernel_rfl) (by kernel_rfl) (by kernel_rfl) (by kernel_rfl)) ?_
  intro W base args ds gs before hval0 hW hcnd _
  have hval : ∀ (j : Nat) t v, Try.f9.params[j]? = some t → args[j]? = some v → Value.okWide Try.prog W .any base t v := hval0
  have hW' := hW
  obtain ⟨p, q, hA0, hV, rfl, hfz, hnd⟩ := hW
  have hA : DataW.TrodAll enc Try.prog W 0 (fun _ => true) true Try.f9.params.toList args.toList ds p := hA0
  rw [Try.params9] at hA hval
  obtain ⟨v0, vs0, d0, ds0, p0, q0, hargs, rfl, rfl, h0, r0⟩ := trodAll_cons hA
  obtain ⟨v1, vs1, d1, ds1, p1, q1, rfl, rfl, rfl, h1, r1⟩ := trodAll_cons r0
  obtain ⟨rfl, rfl, rfl⟩ := trodAll_nil r1
  obtain rfl : args = #[v0, v1] := by cases args; simp_all
  obtain ⟨rfl, rfl⟩ := trodVars_none hV
  obtain ⟨s0, len0, cap0, rfl⟩ := okWide_slice Try.underlying53 (hval 0 53 v0 rfl rfl)
  have k0 := h0
  have lt0 := below_lt k0
  obtain ⟨fuel0, hf0⟩ := h0
  obtain ⟨A0, c0, xs0, hv0, rd0, m0⟩ := open_clubS hf0
  rw [hv0] at k0
  rw [hv0]
  obtain ⟨s1, len1, cap1, rfl⟩ := okWide_slice Try.underlying30 (hval 1 30 v1 rfl rfl)
  have k1 := h1
  have lt1 := below_lt k1
  obtain ⟨fuel1, hf1⟩ := h1
  obtain ⟨A1, c1, xs1, hv1, rd1, m1⟩ := open_intS hf1
  rw [hv1] at k1
  rw [hv1]
  clear hA0 hval0
  refine (walk A0 c0 xs0 m0 A1 c1 xs1 m1 W rd0 rd1).mono fun e W' ⟨he, bel⟩ => ?_
  subst he
  rw [hv0, hv1] at hW'
  exact ⟨_, rfl, _, _, _, [], _, [], hW', trodAll_mk1 (shut_bool Try.underlying4 _), (trodAll_cons_mk (Below.trod laidOut (by kernel_rfl) (of_decide_eq_true (by kernel_rfl)) k0 bel lt0) (trodAll_cons_mk (Below.trod laidOut (by kernel_rfl) (of_decide_eq_true (by kernel_rfl)) k1 bel lt1) trodAll_mk0)), rfl, bel.frame _, fun h => by cases h⟩
theorem over : Rows.fnExactClubCountsRow.holds Try.pinned (OpenSpec.ofChange Rows.fnExactClubCountsSpec) :=
  OpenClaim.holds_of_wide 9 Try.f9 rfl rfl rfl rfl rfl rfl rfl ⟨rfl, rfl, rfl, rfl, rfl⟩ rfl rfl rfl rfl rfl (by kernel_rfl) Try.func9 (by kernel_rfl)
    (of_decide_eq_true (by kernel_rfl)) (by unfold Func.isWrapper; first | (rw [if_pos (by decide +kernel)]; kernel_rfl) | (rw [if_neg (by decide +kernel)]; exact ⟨rfl, rfl⟩))
    (fun os started H enc _ => lifted os started H enc)
theorem proved : Rows.FnExactClubCountsSaid := over
end Go.Proofs.Ytjcheccngombkaa.lawClubCounts
