/-
  Inquiries: the walks of szInquiryS, toInquiry, toInquiryS, eqInquiry, eqInquiryS, markInquiryS.
-/
import Derived.Test.YtjcheccngombkaaInqW
namespace Go.Proofs.Ytjcheccngombkaa
open Go.RowKit



set_option maxHeartbeats 400000 in
theorem szInquiryS_any (A : Option Addr) (n c : Nat) (hn : n ≤ 9223372036854775807) (left : Int) (h0 : 0 ≤ left) (h1 : left ≤ 1048576) (w : World) :
    Calls Try.prog 13 #[.slice A n c, .int .i64 left] w fun e w' => e = .returned (.int .i64 (szOf left n)) ∧ w = w' := by
  by_cases h : left < n
  · go_enter Try.func13, Try.ntmps13
    go_wp2
    go_ret
    exact ⟨ret_int (szOf_lt h).symm, rfl⟩
  · go_enter Try.func13, Try.ntmps13
    go_wp2
    go_ret
    exact ⟨ret_int (szOf_ge (by omega)).symm, rfl⟩

set_option maxHeartbeats 1000000 in
theorem toInquiry_any (x : InquiryD) (w : World) :
    Calls Try.prog 51 #[.agg #[.int .i64 x.tick, .int .i64 x.item, .int .i64 x.name, .int .i64 x.mark, .bool x.acc]] w fun e w' => e = .returned (.agg #[.int .i64 x.tick, .int .i64 x.item, .int .i64 x.name, .int .i64 x.mark, .bool x.acc]) ∧ Below w.heap.size w w' := by
  go_enter Try.func51, Try.ntmps51
  go_wp2
  exact bodyPost_ret (v := .agg #[.int .i64 x.tick, .int .i64 x.item, .int .i64 x.name, .int .i64 x.mark, .bool x.acc]) (by simp [results, Try.results51, go_sem]) rfl ⟨rfl, (by repeat (first | exact Below.refl _ _ | assumption | refine Below.drew ?_ | refine below_drewN ?_ _ | refine Below.alloc ?_ (by simp <;> omega) _ | refine Below.setCell ?_ (by simp <;> omega) _))⟩

set_option maxHeartbeats 1000000 in
theorem toInquiryS_any (A : Option Addr) (c : Nat) (xs : List InquiryD) (hn : xs.length ≤ 1048576) (w : World) (hr : RdS InquiryD.enc 5 w A xs) :
    Calls Try.prog 15 #[.slice A xs.length c] w (RetS InquiryD.enc 5 67 xs w) := by
  obtain ⟨i0, hi0, hz0, hz1, hz2⟩ := info_parts inquiry_info
  have hmk := make_row (P := Try.prog) Try.underlying26 hi0 hz0 hz1 hz2 (n := xs.length) (by omega) hn
  clear hz0 hz1 hz2 hi0
  go_enter Try.func15, Try.ntmps15
  go_wp2
  have hlen : (madeCells #[Value.int IntKind.i64 0, Value.int IntKind.i64 0, Value.int IntKind.i64 0, Value.int IntKind.i64 0, Value.bool false] (xs.length * 5)).toList.length = xs.length * 5 := by rw [Array.length_toList, size_madeCells]
  have hst : Made3 w.heap.size 67 5 InquiryD.enc xs xs.length 0 (w.alloc (.cells (madeCells #[Value.int IntKind.i64 0, Value.int IntKind.i64 0, Value.int IntKind.i64 0, Value.int IntKind.i64 0, Value.bool false] (xs.length * 5)) 67)) := Made3.start (Row.new _ _ _) hlen
  have hb0 : Below w.heap.size w (w.alloc (.cells (madeCells #[Value.int IntKind.i64 0, Value.int IntKind.i64 0, Value.int IntKind.i64 0, Value.int IntKind.i64 0, Value.bool false] (xs.length * 5)) 67)) := (by repeat (first | exact Below.refl _ _ | assumption | refine Below.drew ?_ | refine below_drewN ?_ _ | refine Below.alloc ?_ (by simp <;> omega) _ | refine Below.setCell ?_ (by simp <;> omega) _))
  clear hlen hmk
  generalize w.alloc (.cells (madeCells #[Value.int IntKind.i64 0, Value.int IntKind.i64 0, Value.int IntKind.i64 0, Value.int IntKind.i64 0, Value.bool false] (xs.length * 5)) 67) = w0 at hst hb0
  go_loopw [4] (fun i wr => ∃ k : Nat, k ≤ xs.length ∧ i = .int .i64 k ∧ Made3 w.heap.size 67 5 InquiryD.enc xs xs.length k wr ∧ Below w.heap.size w wr) (fun i _ => xs.length - (intOf i).toNat)
  case atStart => exact ⟨0, by omega, rfl, hst, hb0⟩
  case round =>
    obtain ⟨k, hk, rfl, hm, hb⟩ := hrel
    clear hst hb0
    by_cases hlt : k < xs.length
    · obtain ⟨b, off, x, rfl, hx, c0, c1, c2, c3, c4⟩ := (hr.ext hb).inquiry hlt
      have hsz : w.heap.size ≤ wr.heap.size := hb.size
      go_wp2_with fail
      refine (toInquiry_any x _).mono ?_
      rintro e w1 ⟨rfl, hb1⟩
      have hm1 := hm.ext hb1
      obtain ⟨cs, hrow, hl⟩ := hm1.row
      obtain ⟨u0, d0⟩ := hrow.cellAt (i := k * 5) (by have := hl.out; omega)
      have f0 := hrow.frozen (k * 5)
      obtain ⟨u1, d1⟩ := hrow.cellAt (i := k * 5 + 1) (by have := hl.out; omega)
      have f1 := hrow.frozen (k * 5 + 1)
      obtain ⟨u2, d2⟩ := hrow.cellAt (i := k * 5 + 2) (by have := hl.out; omega)
      have f2 := hrow.frozen (k * 5 + 2)
      obtain ⟨u3, d3⟩ := hrow.cellAt (i := k * 5 + 3) (by have := hl.out; omega)
      have f3 := hrow.frozen (k * 5 + 3)
      obtain ⟨u4, d4⟩ := hrow.cellAt (i := k * 5 + 4) (by have := hl.out; omega)
      have f4 := hrow.frozen (k * 5 + 4)
      have hb2 : Below w.heap.size w w1 := below_then hb hsz hb1
      have hm2 := hm1.next InquiryD.enc_len hx.out (Nat.le_refl _)
      have hb3 := below_put x.enc (k * 5) (Nat.le_refl _) hb2
      simp only [InquiryD.enc, putW] at hm2 hb3
      clear hb hb1 hm
      go_wp2
      go_roundw
      case rel => exact ⟨k + 1, by omega, vint (by omega), hm2, hb3⟩
      case measure => simp [intOf]; omega
    · have hk' : xs.length = k := by omega
      have HK := Lib.hid hk'
      clear hk'
      go_wp2
      go_ret
      exact ⟨_, rfl, by have := HK.out; subst this; exact hm.done InquiryD.enc_len (Nat.le_refl _) (Nat.le_refl _) (by unfold maxLen; omega), hb⟩

set_option maxHeartbeats 1000000 in
theorem eqInquiry_any (x y : InquiryD) (w : World) :
    Calls Try.prog 53 #[.agg #[.int .i64 x.tick, .int .i64 x.item, .int .i64 x.name, .int .i64 x.mark, .bool x.acc], .agg #[.int .i64 y.tick, .int .i64 y.item, .int .i64 y.name, .int .i64 y.mark, .bool y.acc]] w (RetB (x = y) w) := by
  go_enter Try.func53, Try.ntmps53
  go_wp2
  all_goals go_ret
  all_goals first | exact RetB.mkT (InquiryD.eq (by simp_all) (by simp_all) (by simp_all) (by simp_all) (by simp_all)) (by repeat (first | exact Below.refl _ _ | assumption | refine Below.drew ?_ | refine below_drewN ?_ _ | refine Below.alloc ?_ (by simp <;> omega) _ | refine Below.setCell ?_ (by simp <;> omega) _)) | exact RetB.mkF (by rintro rfl; simp_all) (by repeat (first | exact Below.refl _ _ | assumption | refine Below.drew ?_ | refine below_drewN ?_ _ | refine Below.alloc ?_ (by simp <;> omega) _ | refine Below.setCell ?_ (by simp <;> omega) _))

set_option maxHeartbeats 2000000 in
theorem eqInquiryS_any (A A' : Option Addr) (c c' : Nat) (xs ys : List InquiryD) (hn : xs.length ≤ 1048576) (w : World) (hr : RdS InquiryD.enc 5 w A xs) (hr' : RdS InquiryD.enc 5 w A' ys) :
    Calls Try.prog 17 #[.slice A xs.length c, .slice A' ys.length c'] w (RetB (xs = ys) w) := by
  by_cases hl : xs.length = ys.length
  · have hd : ((xs.length : Int) != (ys.length : Int)) = false := by simp [hl]
    have HL := Lib.hid hl
    clear hl
    go_enter Try.func17, Try.ntmps17
    go_wp2
    go_loopw [5] (fun i wr => ∃ k : Nat, k ≤ xs.length ∧ i = .int .i64 k ∧ xs.take k = ys.take k ∧ Below w.heap.size w wr) (fun i _ => xs.length - (intOf i).toNat)
    case atStart => exact ⟨0, by omega, rfl, by simp, (by repeat (first | exact Below.refl _ _ | assumption | refine Below.drew ?_ | refine below_drewN ?_ _ | refine Below.alloc ?_ (by simp <;> omega) _ | refine Below.setCell ?_ (by simp <;> omega) _))⟩
    case round =>
      obtain ⟨k, hk, rfl, ht, hb⟩ := hrel
      have HT := Lib.hid ht
      clear ht hd
      by_cases hlt : k < xs.length
      · have hlt' : k < ys.length := by have := HL.out; omega
        obtain ⟨b, off, x, rfl, hx, c0, c1, c2, c3, c4⟩ := (hr.ext hb).inquiry hlt
        obtain ⟨b', off', y, rfl, hy, d0, d1, d2, d3, d4⟩ := (hr'.ext hb).inquiry hlt'
        have q0 := fun i : Later wr => i.cell c0
        have p0 := fun i : Later wr => i.cell d0
        have q1 := fun i : Later wr => i.cell c1
        have p1 := fun i : Later wr => i.cell d1
        have q2 := fun i : Later wr => i.cell c2
        have p2 := fun i : Later wr => i.cell d2
        have q3 := fun i : Later wr => i.cell c3
        have p3 := fun i : Later wr => i.cell d3
        have q4 := fun i : Later wr => i.cell c4
        have p4 := fun i : Later wr => i.cell d4
        have ne := Later.ne wr
        clear hr hr'
        by_cases hxy : x = y
        · have HXY := Lib.hid hxy
          clear hxy
          go_wp2
          refine wp_region_later (by kernel_rfl) (by kernel_rfl) ?_
          repeat (go_big_quiet_step ((go_at_call 53; exact Calls.later_of (RetB.yes (eqInquiry_any x y _) HXY.out))))
          refine wpQuiet_nil ?_
          rintro _ ⟨i1, rfl⟩
          have hb1 := i1.below
          generalize i1.w = w1 at hb1 ⊢
          clear q0 p0 q1 p1 q2 p2 q3 p3 q4 p4 ne
          go_wp2
          go_roundw
          case rel => exact ⟨k + 1, by omega, vint (by omega), by rw [take_snoc hx.out, take_snoc hy.out, HT.out, HXY.out], below_then hb hb.size hb1⟩
          case measure => simp [intOf]; omega
        · have HXY := Lib.hid hxy
          clear hxy
          go_wp2
          refine wp_region_later (by kernel_rfl) (by kernel_rfl) ?_
          repeat (go_big_quiet_step ((go_at_call 53; exact Calls.later_of (RetB.no (eqInquiry_any x y _) HXY.out))))
          refine wpQuiet_nil ?_
          rintro _ ⟨i1, rfl⟩
          have hb1 := i1.below
          generalize i1.w = w1 at hb1 ⊢
          clear q0 p0 q1 p1 q2 p2 q3 p3 q4 p4 ne
          go_wp2
          go_ret
          exact RetB.mkF (fun h => by have h1 := hx.out; have h2 := hy.out; rw [h] at h1; exact HXY.out (Option.some.inj (h1.symm.trans h2))) (below_then hb hb.size hb1)
      · go_wp2
        go_ret
        exact RetB.mkT (by have h := HT.out; have h2 := HL.out; rwa [List.take_of_length_le (by omega), List.take_of_length_le (by omega)] at h) hb
  · have hd : ((xs.length : Int) != (ys.length : Int)) = true := by rw [bne_iff_ne]; omega
    have HL := Lib.hid hl
    clear hl
    go_enter Try.func17, Try.ntmps17
    go_wp2
    go_ret
    exact RetB.mkF (fun h => HL.out (by rw [h])) (Below.refl _ _)

/-- what markTS writes -/
def markInquiry (k : Int) (i : Nat) : InquiryD := ⟨k + 5 * i, k + 5 * i + 1, k + 5 * i + 1 + 1, k + 5 * i + 1 + 1 + 1, (k + 5 * i + 1 + 1 + 1 + 1) % 3 == 0⟩
def marksInquiry (k : Int) (n : Nat) : List InquiryD := (List.range n).map (markInquiry k)
theorem marksInquiry_len (k : Int) (n : Nat) : (marksInquiry k n).length = n := by simp [marksInquiry]
theorem marksInquiry_get {k : Int} {n i : Nat} (h : i < n) : (marksInquiry k n)[i]? = some (markInquiry k i) := by simp [marksInquiry, h]

set_option maxHeartbeats 2000000 in
theorem markInquiryS_any (A : Option Addr) (n c B : Nat) (xs : List InquiryD) (hn : n ≤ 16777216) (k : Int) (h0 : 0 ≤ k) (h1 : k ≤ 1099511627776) (w : World) (ho : OwnS InquiryD.enc 5 67 w B (.slice A n c) xs) :
    Calls Try.prog 21 #[.slice A n c, .int .i64 k] w fun e w' => e = .returned (.int .i64 (k + 5 * n)) ∧ OwnS InquiryD.enc 5 67 w' B (.slice A n c) (marksInquiry k n) ∧ w.grownBy w' (Value.slice A n c).ownBlock := by
  rcases Nat.eq_zero_or_pos n with hz | hz
  · subst hz
    go_enter Try.func21, Try.ntmps21
    go_wp2
    go_loop [1, 5] (fun q i => q = .int .i64 k ∧ i = .int .i64 0) (fun _ _ => 0)
    case atStart => exact ⟨rfl, rfl⟩
    case round =>
      obtain ⟨rfl, rfl⟩ := hrel
      go_wp2
      go_ret
      exact ⟨ret_int (by omega), ho.zero, World.grownBy.refl _ _⟩
  · obtain ⟨g, N, rfl, rfl, hB, -, hnN, hN, hm0⟩ := ho.made hz (marksInquiry k n) (enc' := InquiryD.enc)
    clear ho
    have hN' := hN
    unfold maxLen at hN'
    go_enter Try.func21, Try.ntmps21
    go_wp2
    go_loopw [1, 5] (fun q i wr => ∃ j : Nat, j ≤ n ∧ i = .int .i64 j ∧ q = .int .i64 (k + 5 * j) ∧ Made3 g 67 5 InquiryD.enc (marksInquiry k n) c j wr ∧ w.grownBy wr (some g)) (fun _ i _ => n - (intOf i).toNat)
    case atStart => exact ⟨0, by omega, rfl, by simp, hm0, World.grownBy.refl _ _⟩
    case round =>
    obtain ⟨j, hj, rfl, rfl, hm, hgr⟩ := hrel
    clear hm0
    by_cases hlt : j < n
    · obtain ⟨cs, hrow, hl⟩ := hm.row
      obtain ⟨u0, d0⟩ := hrow.cellAt (i := j * 5) (by have := hl.out; omega)
      have f0 := hrow.frozen (j * 5)
      obtain ⟨u1, d1⟩ := hrow.cellAt (i := j * 5 + 1) (by have := hl.out; omega)
      have f1 := hrow.frozen (j * 5 + 1)
      obtain ⟨u2, d2⟩ := hrow.cellAt (i := j * 5 + 2) (by have := hl.out; omega)
      have f2 := hrow.frozen (j * 5 + 2)
      obtain ⟨u3, d3⟩ := hrow.cellAt (i := j * 5 + 3) (by have := hl.out; omega)
      have f3 := hrow.frozen (j * 5 + 3)
      obtain ⟨u4, d4⟩ := hrow.cellAt (i := j * 5 + 4) (by have := hl.out; omega)
      have f4 := hrow.frozen (j * 5 + 4)
      have hm2 := hm.next InquiryD.enc_len (marksInquiry_get hlt) (by rw [marksInquiry_len]; exact hnN)
      have hg2 := only_put (markInquiry k j).enc (j * 5) hgr
      simp only [markInquiry, InquiryD.enc, putW, Nat.add_assoc, Nat.reduceAdd] at hm2 hg2
      go_wp2
      go_roundw
      case rel => exact ⟨j + 1, by omega, vint (by omega), vint (by omega), hm2, hg2⟩
      case measure => simp [intOf]; omega
    · have hk' : n = j := by omega
      have HK := Lib.hid hk'
      clear hk'
      go_wp2
      go_ret
      exact ⟨ret_int (by have := HK.out; omega), by have e := HK.out; rw [← e] at hm; have h2 := Made3.done (B := B) InquiryD.enc_len (by rw [marksInquiry_len]; exact hm) hB (by rw [marksInquiry_len]; exact hnN) hN; rwa [marksInquiry_len] at h2, hgr⟩
end Go.Proofs.Ytjcheccngombkaa
