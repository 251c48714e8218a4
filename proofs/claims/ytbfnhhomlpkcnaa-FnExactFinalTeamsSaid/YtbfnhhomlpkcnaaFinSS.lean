/-
  Disciplines (slices of slices of finishes): the walks of szFinishSS, toFinishSS, eqFinishSS, markFinishSS.
-/
import Derived.Test.YtbfnhhomlpkcnaaNest
import Derived.Test.YtbfnhhomlpkcnaaFin
namespace Go.Proofs.Ytbfnhhomlpkcnaa
open Go.RowKit


set_option maxHeartbeats 1000000 in
theorem szFinishSS_any (A : Option Addr) (c : Nat) (xss : List (List FinishD)) (hn : xss.length ≤ 9223372036854775807) (hi : ∀ xs ∈ xss, xs.length ≤ 9223372036854775807) (left : Int) (h0 : 0 ≤ left) (h1 : left ≤ 1048576) (w : World) (hr : RdL FinishD.enc 2 w A xss) :
    Calls Try.prog 20 #[.slice A xss.length c, .int .i64 left] w fun e w' => e = .returned (.int .i64 (szOf left (xss.length + lenSum xss : Nat))) ∧ w = w' := by
  by_cases h : left < xss.length
  · go_enter Try.func20, Try.ntmps20
    go_wp2
    go_ret
    exact ⟨ret_int (szOf_lt (by omega)).symm, rfl⟩
  · go_enter Try.func20, Try.ntmps20
    go_wp2
    go_loop [1, 5] (fun q i => ∃ k : Nat, k ≤ xss.length ∧ i = .int .i64 k ∧ (xss.length + lenSum (xss.take k) : Nat) ≤ left ∧ q = .int .i64 (left - (xss.length : Int) - (lenSum (xss.take k) : Int))) (fun _ i => xss.length - (intOf i).toNat)
    case atStart => exact ⟨0, by omega, rfl, by simp [lenSum]; omega, by simp [lenSum]⟩
    case round =>
      obtain ⟨k, hk, rfl, hle, rfl⟩ := hrel
      have htk := lenSum_take xss k
      by_cases hlt : k < xss.length
      · obtain ⟨b, off, xs, A', c', rfl, hx, c0, hxs⟩ := hr.at_ hlt
        have hs := lenSum_snoc hx.out
        have hs2 := lenSum_take xss (k + 1)
        have HS := Lib.hid hs
        clear hs
        have hxl := hi xs (List.mem_of_getElem? hx.out)
        go_wp2_with fail
        refine (szFinishS_any _ _ _ hxl _ (by omega) (by omega) _).mono ?_
        rintro e w' ⟨rfl, rfl⟩
        by_cases hl2 : left - (xss.length : Int) - (lenSum (xss.take k) : Int) < xs.length
        · rw [szOf_lt hl2]
          go_wp2
          go_ret
          exact ⟨ret_int (szOf_lt (by have := HS.out; omega)).symm, rfl⟩
        · rw [szOf_ge (by omega)]
          go_wp2
          go_round
          case rel => exact ⟨k + 1, by omega, vint (by omega), by have := HS.out; omega, vint (by have := HS.out; omega)⟩
          case measure => simp [intOf]; omega
      · have hkl : xss.take k = xss := List.take_of_length_le (by omega)
        have HK := Lib.hid hkl
        clear hkl
        go_wp2
        go_ret
        exact ⟨ret_int (by have e := HK.out; rw [e] at hle ⊢; rw [szOf_ge (by omega)]; omega), rfl⟩

theorem listFinish_info : (Try.prog.info? 25).map (fun i => (i.zero, i.size, i.bytes)) = some (some (.slice none 0 0), 1, 24) := by kernel_rfl
set_option maxHeartbeats 1000000 in
theorem toFinishSS_any (A : Option Addr) (c : Nat) (xss : List (List FinishD)) (hn : xss.length ≤ 1048576) (hi : ∀ xs ∈ xss, xs.length ≤ 1048576) (w : World) (hr : RdL FinishD.enc 2 w A xss) :
    Calls Try.prog 22 #[.slice A xss.length c] w (RetL FinishD.enc 2 62 25 xss w) := by
  obtain ⟨i0, hi0, hz0, hz1, hz2⟩ := info_parts listFinish_info
  have hmk := make_row (P := Try.prog) Try.underlying32 hi0 hz0 hz1 hz2 (n := xss.length) (by omega) hn
  clear hz0 hz1 hz2 hi0
  simp only [Nat.mul_one, Value.cells] at hmk
  go_enter Try.func22, Try.ntmps22
  go_wp2
  have hlen : (madeCells #[Value.slice none 0 0] xss.length).toList.length = xss.length := by rw [Array.length_toList, size_madeCells]
  have hst : MadeL FinishD.enc 2 62 25 w.heap.size w.heap.size xss 0 (w.alloc (.cells (madeCells #[Value.slice none 0 0] xss.length) 25)) := MadeL.start (Row.new _ _ _) hlen
  have hb0 : Below w.heap.size w (w.alloc (.cells (madeCells #[Value.slice none 0 0] xss.length) 25)) := (by repeat (first | exact Below.refl _ _ | assumption | refine Below.drew ?_ | refine below_drewN ?_ _ | refine Below.alloc ?_ (by simp <;> omega) _ | refine Below.setCell ?_ (by simp <;> omega) _))
  clear hlen hmk
  generalize w.alloc (.cells (madeCells #[Value.slice none 0 0] xss.length) 25) = w0 at hst hb0
  go_loopw [4] (fun i wr => ∃ k : Nat, k ≤ xss.length ∧ i = .int .i64 k ∧ MadeL FinishD.enc 2 62 25 w.heap.size w.heap.size xss k wr ∧ Below w.heap.size w wr) (fun i _ => xss.length - (intOf i).toNat)
  case atStart => exact ⟨0, by omega, rfl, hst, hb0⟩
  case round =>
    obtain ⟨k, hk, rfl, hm, hb⟩ := hrel
    clear hst hb0
    by_cases hlt : k < xss.length
    · obtain ⟨b, off, xs, A', c', rfl, hx, c0, hxs⟩ := (hr.ext hb).at_ hlt
      have hxl := hi xs (List.mem_of_getElem? hx.out)
      have hsz : w.heap.size ≤ wr.heap.size := hb.size
      go_wp2_with fail
      refine (toFinishS_any _ _ _ hxl _ hxs).mono ?_
      rintro e w1 ⟨v1, rfl, ho1, hb1⟩
      obtain ⟨A1, c1, rfl, hr1⟩ := ho1.slice FinishD.enc_len
      obtain ⟨cs, hrow, hl⟩ := hm.row
      have hrow1 := hrow.ext hb1
      obtain ⟨u0, d0⟩ := hrow1.cellAt (i := k) (by have := hl.out; omega)
      have f0 := hrow1.frozen k
      have hm2 := hm.next hb1 hx.out ho1 hsz (by decide)
      have hb2 : Below w.heap.size w (w1.setCell ⟨w.heap.size, k, none⟩ (.slice A1 xs.length c1)) := (below_then hb hsz hb1).setCell (Nat.le_refl _) _
      clear hb hm hrow hrow1 hxs hr1 ho1
      go_wp2
      go_roundw
      case rel => exact ⟨k + 1, by omega, vint (by omega), hm2, hb2⟩
      case measure => simp [intOf]; omega
    · have hk' : xss.length = k := by omega
      have HK := Lib.hid hk'
      clear hk'
      go_wp2
      go_ret
      exact ⟨_, rfl, by have := HK.out; subst this; exact hm.done (Nat.le_refl _) (by unfold maxLen; omega), hb⟩

set_option maxHeartbeats 2000000 in
theorem eqFinishSS_any (A A' : Option Addr) (c c' : Nat) (xs ys : List (List FinishD)) (hn : xs.length ≤ 1048576) (hi : ∀ x ∈ xs, x.length ≤ 1048576) (w : World) (hr : RdL FinishD.enc 2 w A xs) (hr' : RdL FinishD.enc 2 w A' ys) :
    Calls Try.prog 24 #[.slice A xs.length c, .slice A' ys.length c'] w (RetB (xs = ys) w) := by
  by_cases hl : xs.length = ys.length
  · have hd : ((xs.length : Int) != (ys.length : Int)) = false := by simp [hl]
    have HL := Lib.hid hl
    clear hl
    go_enter Try.func24, Try.ntmps24
    go_wp2
    go_loopw [5] (fun i wr => ∃ k : Nat, k ≤ xs.length ∧ i = .int .i64 k ∧ xs.take k = ys.take k ∧ Below w.heap.size w wr) (fun i _ => xs.length - (intOf i).toNat)
    case atStart => exact ⟨0, by omega, rfl, by simp, (by repeat (first | exact Below.refl _ _ | assumption | refine Below.drew ?_ | refine below_drewN ?_ _ | refine Below.alloc ?_ (by simp <;> omega) _ | refine Below.setCell ?_ (by simp <;> omega) _))⟩
    case round =>
      obtain ⟨k, hk, rfl, ht, hb⟩ := hrel
      have HT := Lib.hid ht
      clear ht hd
      by_cases hlt : k < xs.length
      · have hlt' : k < ys.length := by have := HL.out; omega
        obtain ⟨b, off, x, A1, c1, rfl, hx, c0, hrx⟩ := (hr.ext hb).at_ hlt
        obtain ⟨b', off', y, A2, c2, rfl, hy, d0, hry⟩ := (hr'.ext hb).at_ hlt'
        have q0 := fun i : Later wr => i.cell c0
        have p0 := fun i : Later wr => i.cell d0
        have ne := Later.ne wr
        have hxl : x.length ≤ 1048576 := hi x (List.mem_of_getElem? hx.out)
        clear hr hr' hi
        by_cases hxy : x = y
        · have HXY := Lib.hid hxy
          clear hxy
          go_wp2
          refine wp_region_later (by kernel_rfl) (by kernel_rfl) ?_
          repeat (go_big_quiet_step ((go_at_call 19; exact Calls.later_of (RetB.yes (eqFinishS_any _ _ _ _ _ _ (by omega) _ (hrx.ext (Later.below _)) (hry.ext (Later.below _))) HXY.out))))
          refine wpQuiet_nil ?_
          rintro _ ⟨i1, rfl⟩
          have hb1 := i1.below
          generalize i1.w = w1 at hb1 ⊢
          clear q0 p0 ne hrx hry
          go_wp2
          go_roundw
          case rel => exact ⟨k + 1, by omega, vint (by omega), by rw [take_snoc hx.out, take_snoc hy.out, HT.out, HXY.out], below_then hb hb.size hb1⟩
          case measure => simp [intOf]; omega
        · have HXY := Lib.hid hxy
          clear hxy
          go_wp2
          refine wp_region_later (by kernel_rfl) (by kernel_rfl) ?_
          repeat (go_big_quiet_step ((go_at_call 19; exact Calls.later_of (RetB.no (eqFinishS_any _ _ _ _ _ _ (by omega) _ (hrx.ext (Later.below _)) (hry.ext (Later.below _))) HXY.out))))
          refine wpQuiet_nil ?_
          rintro _ ⟨i1, rfl⟩
          have hb1 := i1.below
          generalize i1.w = w1 at hb1 ⊢
          clear q0 p0 ne hrx hry
          go_wp2
          go_ret
          exact RetB.mkF (fun h => by have h1 := hx.out; have h2 := hy.out; rw [h] at h1; exact HXY.out (Option.some.inj (h1.symm.trans h2))) (below_then hb hb.size hb1)
      · go_wp2
        go_ret
        exact RetB.mkT (by have h := HT.out; have h2 := HL.out; rwa [List.take_of_length_le (by omega), List.take_of_length_le (by omega)] at h) hb
  · have hd : ((xs.length : Int) != (ys.length : Int)) = true := by rw [bne_iff_ne]; omega
    have HL := Lib.hid hl
    clear hl
    go_enter Try.func24, Try.ntmps24
    go_wp2
    go_ret
    exact RetB.mkF (fun h => HL.out (by rw [h])) (Below.refl _ _)

set_option maxHeartbeats 2000000 in
theorem markFinishSS_any (A : Option Addr) (n c B : Nat) (xss : List (List FinishD)) (hn : xss.length ≤ 1048576) (hi : lenSum xss ≤ 1048576) (k : Int) (h0 : 0 ≤ k) (h1 : k ≤ 549755813888) (w w1 : World) (ho : OwnL FinishD.enc 2 62 25 w1 B (.slice A n c) xss) (hb : Below w1.heap.size w1 w) (hnn : n = xss.length) :
    Calls Try.prog 35 #[.slice A n c, .int .i64 k] w fun e w' => e = .returned (.int .i64 (k + 2 * (lenSum xss : Int))) ∧ Marked B w1.heap.size w w' := by
  rcases Nat.eq_zero_or_pos n with hz | hz
  · have hx0 : xss = [] := List.eq_nil_of_length_eq_zero (by omega)
    subst hx0
    subst hz
    clear hn hi hnn ho hb
    go_enter Try.func35, Try.ntmps35
    go_wp2
    go_loop [1, 5] (fun q i => q = .int .i64 k ∧ i = .int .i64 0) (fun _ _ => 0)
    case atStart => exact ⟨rfl, rfl⟩
    case round =>
      obtain ⟨rfl, rfl⟩ := hrel
      go_wp2
      go_ret
      exact ⟨ret_int (by simp [lenSum]), Marked.refl _ _ _⟩
  · obtain ⟨g, vs, rfl, -, hm0⟩ := ho.mark hb hz
    clear ho hb
    generalize w1.heap.size = hh at hm0 ⊢
    subst hnn
    go_enter Try.func35, Try.ntmps35
    go_wp2
    go_loopw [1, 5] (fun q i wr => ∃ j : Nat, j ≤ xss.length ∧ i = .int .i64 j ∧ q = .int .i64 (k + 2 * (lenSum (xss.take j) : Int)) ∧ MarkL FinishD.enc 2 62 25 w B hh g vs xss wr) (fun _ i _ => xss.length - (intOf i).toNat)
    case atStart => exact ⟨0, by omega, rfl, by simp [lenSum], hm0⟩
    case round =>
      obtain ⟨j, hj, rfl, rfl, hm⟩ := hrel
      clear hm0
      have htk := lenSum_take xss j
      by_cases hlt : j < xss.length
      · obtain ⟨xs, u, xs', hx, hu, hl, c0, ho⟩ := hm.at_ hlt
        obtain ⟨A1, c1, rfl, -⟩ := ho.slice FinishD.enc_len
        have hs := lenSum_snoc hx.out
        have HS := Lib.hid hs
        clear hs
        have hxl : xs'.length ≤ 1048576 := by have := lenSum_mem (List.mem_of_getElem? hx.out); have := hl.out; omega
        go_wp2_with fail
        refine (markFinishS_any _ _ _ B xs' (by omega) _ (by omega) (by omega) _ ho).mono ?_
        rintro e w2 ⟨rfl, ho1, hg1⟩
        have hm2 := hm.next (by decide) hu.out hx.out hl.out ho (marksFinish_len _ _) ho1 hg1
        clear hm ho ho1 hg1
        go_wp2
        go_roundw
        case rel => exact ⟨j + 1, by omega, vint (by omega), vint (by have := HS.out; have := hl.out; omega), hm2⟩
        case measure => simp [intOf]; omega
      · have hkl : xss.take j = xss := List.take_of_length_le (by omega)
        have HK := Lib.hid hkl
        clear hkl
        go_wp2
        go_ret
        exact ⟨ret_int (by rw [HK.out]), hm.1⟩
end Go.Proofs.Ytbfnhhomlpkcnaa
