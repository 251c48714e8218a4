/-
  Notes: their words, and the walks of szNoteS, toNote, toNoteS, eqNote, eqNoteS, markNoteS, heldNoteS.
-/
import Derived.Test.YtjcheccngombkaaNoteW
namespace Go.Proofs.Ytjcheccngombkaa
open Go.RowKit



set_option maxHeartbeats 400000 in
theorem szNoteS_any (A : Option Addr) (n c : Nat) (hn : n ≤ 9223372036854775807) (left : Int) (h0 : 0 ≤ left) (h1 : left ≤ 1048576) (w : World) :
    Calls Try.prog 27 #[.slice A n c, .int .i64 left] w fun e w' => e = .returned (.int .i64 (szOf left n)) ∧ w = w' := by
  by_cases h : left < n
  · go_enter Try.func27, Try.ntmps27
    go_wp2
    go_ret
    exact ⟨ret_int (szOf_lt h).symm, rfl⟩
  · go_enter Try.func27, Try.ntmps27
    go_wp2
    go_ret
    exact ⟨ret_int (szOf_ge (by omega)).symm, rfl⟩

set_option maxHeartbeats 1000000 in
theorem toNote_any (x : NoteD) (w : World) :
    Calls Try.prog 63 #[.agg #[.int .i64 x.skater, .int .i64 x.before, .int .i64 x.inn]] w fun e w' => e = .returned (.agg #[.int .i64 x.skater, .int .i64 x.before, .int .i64 x.inn]) ∧ Below w.heap.size w w' := by
  go_enter Try.func63, Try.ntmps63
  go_wp2
  exact bodyPost_ret (v := .agg #[.int .i64 x.skater, .int .i64 x.before, .int .i64 x.inn]) (by simp [results, Try.results63, go_sem]) rfl ⟨rfl, (by repeat (first | exact Below.refl _ _ | assumption | refine Below.drew ?_ | refine below_drewN ?_ _ | refine Below.alloc ?_ (by simp <;> omega) _ | refine Below.setCell ?_ (by simp <;> omega) _))⟩

set_option maxHeartbeats 1000000 in
theorem toNoteS_any (A : Option Addr) (c : Nat) (xs : List NoteD) (hn : xs.length ≤ 1048576) (w : World) (hr : RdS NoteD.enc 3 w A xs) :
    Calls Try.prog 29 #[.slice A xs.length c] w (RetS NoteD.enc 3 77 xs w) := by
  obtain ⟨i0, hi0, hz0, hz1, hz2⟩ := info_parts note_info
  have hmk := make_row (P := Try.prog) Try.underlying43 hi0 hz0 hz1 hz2 (n := xs.length) (by omega) hn
  clear hz0 hz1 hz2 hi0
  go_enter Try.func29, Try.ntmps29
  go_wp2
  have hlen : (madeCells #[Value.int IntKind.i64 0, Value.int IntKind.i64 0, Value.int IntKind.i64 0] (xs.length * 3)).toList.length = xs.length * 3 := by rw [Array.length_toList, size_madeCells]
  have hst : Made3 w.heap.size 77 3 NoteD.enc xs xs.length 0 (w.alloc (.cells (madeCells #[Value.int IntKind.i64 0, Value.int IntKind.i64 0, Value.int IntKind.i64 0] (xs.length * 3)) 77)) := Made3.start (Row.new _ _ _) hlen
  have hb0 : Below w.heap.size w (w.alloc (.cells (madeCells #[Value.int IntKind.i64 0, Value.int IntKind.i64 0, Value.int IntKind.i64 0] (xs.length * 3)) 77)) := (by repeat (first | exact Below.refl _ _ | assumption | refine Below.drew ?_ | refine below_drewN ?_ _ | refine Below.alloc ?_ (by simp <;> omega) _ | refine Below.setCell ?_ (by simp <;> omega) _))
  clear hlen hmk
  generalize w.alloc (.cells (madeCells #[Value.int IntKind.i64 0, Value.int IntKind.i64 0, Value.int IntKind.i64 0] (xs.length * 3)) 77) = w0 at hst hb0
  go_loopw [4] (fun i wr => ∃ k : Nat, k ≤ xs.length ∧ i = .int .i64 k ∧ Made3 w.heap.size 77 3 NoteD.enc xs xs.length k wr ∧ Below w.heap.size w wr) (fun i _ => xs.length - (intOf i).toNat)
  case atStart => exact ⟨0, by omega, rfl, hst, hb0⟩
  case round =>
    obtain ⟨k, hk, rfl, hm, hb⟩ := hrel
    clear hst hb0
    by_cases hlt : k < xs.length
    · obtain ⟨b, off, x, rfl, hx, c0, c1, c2⟩ := (hr.ext hb).note hlt
      have hsz : w.heap.size ≤ wr.heap.size := hb.size
      go_wp2_with fail
      refine (toNote_any x _).mono ?_
      rintro e w1 ⟨rfl, hb1⟩
      have hm1 := hm.ext hb1
      obtain ⟨cs, hrow, hl⟩ := hm1.row
      obtain ⟨u0, d0⟩ := hrow.cellAt (i := k * 3) (by have := hl.out; omega)
      have f0 := hrow.frozen (k * 3)
      obtain ⟨u1, d1⟩ := hrow.cellAt (i := k * 3 + 1) (by have := hl.out; omega)
      have f1 := hrow.frozen (k * 3 + 1)
      obtain ⟨u2, d2⟩ := hrow.cellAt (i := k * 3 + 2) (by have := hl.out; omega)
      have f2 := hrow.frozen (k * 3 + 2)
      have hb2 : Below w.heap.size w w1 := below_then hb hsz hb1
      have hm2 := hm1.next NoteD.enc_len hx.out (Nat.le_refl _)
      have hb3 := below_put x.enc (k * 3) (Nat.le_refl _) hb2
      simp only [NoteD.enc, putW] at hm2 hb3
      clear hb hb1 hm
      go_wp2
      go_roundw
      case rel => exact ⟨k + 1, by omega, vint (by omega), hm2, hb3⟩
      case measure => simp [intOf]; omega
    · have hk' : xs.length = k := by omega
      have HK := Lib.hid hk'
      clear hk'
      go_wp2
      go_ret
      exact ⟨_, rfl, by have := HK.out; subst this; exact hm.done NoteD.enc_len (Nat.le_refl _) (Nat.le_refl _) (by unfold maxLen; omega), hb⟩

set_option maxHeartbeats 1000000 in
theorem eqNote_any (x y : NoteD) (w : World) :
    Calls Try.prog 69 #[.agg #[.int .i64 x.skater, .int .i64 x.before, .int .i64 x.inn], .agg #[.int .i64 y.skater, .int .i64 y.before, .int .i64 y.inn]] w (RetB (x = y) w) := by
  go_enter Try.func69, Try.ntmps69
  go_wp2
  all_goals go_ret
  all_goals first | exact RetB.mkT (NoteD.eq (by simp_all) (by simp_all) (by simp_all)) (by repeat (first | exact Below.refl _ _ | assumption | refine Below.drew ?_ | refine below_drewN ?_ _ | refine Below.alloc ?_ (by simp <;> omega) _ | refine Below.setCell ?_ (by simp <;> omega) _)) | exact RetB.mkF (by rintro rfl; simp_all) (by repeat (first | exact Below.refl _ _ | assumption | refine Below.drew ?_ | refine below_drewN ?_ _ | refine Below.alloc ?_ (by simp <;> omega) _ | refine Below.setCell ?_ (by simp <;> omega) _))

set_option maxHeartbeats 2000000 in
theorem eqNoteS_any (A A' : Option Addr) (c c' : Nat) (xs ys : List NoteD) (hn : xs.length ≤ 1048576) (w : World) (hr : RdS NoteD.enc 3 w A xs) (hr' : RdS NoteD.enc 3 w A' ys) :
    Calls Try.prog 31 #[.slice A xs.length c, .slice A' ys.length c'] w (RetB (xs = ys) w) := by
  by_cases hl : xs.length = ys.length
  · have hd : ((xs.length : Int) != (ys.length : Int)) = false := by simp [hl]
    have HL := Lib.hid hl
    clear hl
    go_enter Try.func31, Try.ntmps31
    go_wp2
    go_loopw [5] (fun i wr => ∃ k : Nat, k ≤ xs.length ∧ i = .int .i64 k ∧ xs.take k = ys.take k ∧ Below w.heap.size w wr) (fun i _ => xs.length - (intOf i).toNat)
    case atStart => exact ⟨0, by omega, rfl, by simp, (by repeat (first | exact Below.refl _ _ | assumption | refine Below.drew ?_ | refine below_drewN ?_ _ | refine Below.alloc ?_ (by simp <;> omega) _ | refine Below.setCell ?_ (by simp <;> omega) _))⟩
    case round =>
      obtain ⟨k, hk, rfl, ht, hb⟩ := hrel
      have HT := Lib.hid ht
      clear ht hd
      by_cases hlt : k < xs.length
      · have hlt' : k < ys.length := by have := HL.out; omega
        obtain ⟨b, off, x, rfl, hx, c0, c1, c2⟩ := (hr.ext hb).note hlt
        obtain ⟨b', off', y, rfl, hy, d0, d1, d2⟩ := (hr'.ext hb).note hlt'
        have q0 := fun i : Later wr => i.cell c0
        have p0 := fun i : Later wr => i.cell d0
        have q1 := fun i : Later wr => i.cell c1
        have p1 := fun i : Later wr => i.cell d1
        have q2 := fun i : Later wr => i.cell c2
        have p2 := fun i : Later wr => i.cell d2
        have ne := Later.ne wr
        clear hr hr'
        by_cases hxy : x = y
        · have HXY := Lib.hid hxy
          clear hxy
          go_wp2
          refine wp_region_later (by kernel_rfl) (by kernel_rfl) ?_
          repeat (go_big_quiet_step ((go_at_call 69; exact Calls.later_of (RetB.yes (eqNote_any x y _) HXY.out))))
          refine wpQuiet_nil ?_
          rintro _ ⟨i1, rfl⟩
          have hb1 := i1.below
          generalize i1.w = w1 at hb1 ⊢
          clear q0 p0 q1 p1 q2 p2 ne
          go_wp2
          go_roundw
          case rel => exact ⟨k + 1, by omega, vint (by omega), by rw [take_snoc hx.out, take_snoc hy.out, HT.out, HXY.out], below_then hb hb.size hb1⟩
          case measure => simp [intOf]; omega
        · have HXY := Lib.hid hxy
          clear hxy
          go_wp2
          refine wp_region_later (by kernel_rfl) (by kernel_rfl) ?_
          repeat (go_big_quiet_step ((go_at_call 69; exact Calls.later_of (RetB.no (eqNote_any x y _) HXY.out))))
          refine wpQuiet_nil ?_
          rintro _ ⟨i1, rfl⟩
          have hb1 := i1.below
          generalize i1.w = w1 at hb1 ⊢
          clear q0 p0 q1 p1 q2 p2 ne
          go_wp2
          go_ret
          exact RetB.mkF (fun h => by have h1 := hx.out; have h2 := hy.out; rw [h] at h1; exact HXY.out (Option.some.inj (h1.symm.trans h2))) (below_then hb hb.size hb1)
      · go_wp2
        go_ret
        exact RetB.mkT (by have h := HT.out; have h2 := HL.out; rwa [List.take_of_length_le (by omega), List.take_of_length_le (by omega)] at h) hb
  · have hd : ((xs.length : Int) != (ys.length : Int)) = true := by rw [bne_iff_ne]; omega
    have HL := Lib.hid hl
    clear hl
    go_enter Try.func31, Try.ntmps31
    go_wp2
    go_ret
    exact RetB.mkF (fun h => HL.out (by rw [h])) (Below.refl _ _)

/-- what markTS writes -/
def markNote (k : Int) (i : Nat) : NoteD := ⟨k + 3 * i, k + 3 * i + 1, k + 3 * i + 1 + 1⟩
def marksNote (k : Int) (n : Nat) : List NoteD := (List.range n).map (markNote k)
theorem marksNote_len (k : Int) (n : Nat) : (marksNote k n).length = n := by simp [marksNote]
theorem marksNote_get {k : Int} {n i : Nat} (h : i < n) : (marksNote k n)[i]? = some (markNote k i) := by simp [marksNote, h]

set_option maxHeartbeats 2000000 in
theorem markNoteS_any (A : Option Addr) (n c B : Nat) (xs : List NoteD) (hn : n ≤ 16777216) (k : Int) (h0 : 0 ≤ k) (h1 : k ≤ 1099511627776) (w : World) (ho : OwnS NoteD.enc 3 77 w B (.slice A n c) xs) :
    Calls Try.prog 34 #[.slice A n c, .int .i64 k] w fun e w' => e = .returned (.int .i64 (k + 3 * n)) ∧ OwnS NoteD.enc 3 77 w' B (.slice A n c) (marksNote k n) ∧ w.grownBy w' (Value.slice A n c).ownBlock := by
  rcases Nat.eq_zero_or_pos n with hz | hz
  · subst hz
    go_enter Try.func34, Try.ntmps34
    go_wp2
    go_loop [1, 5] (fun q i => q = .int .i64 k ∧ i = .int .i64 0) (fun _ _ => 0)
    case atStart => exact ⟨rfl, rfl⟩
    case round =>
      obtain ⟨rfl, rfl⟩ := hrel
      go_wp2
      go_ret
      exact ⟨ret_int (by omega), ho.zero, World.grownBy.refl _ _⟩
  · obtain ⟨g, N, rfl, rfl, hB, -, hnN, hN, hm0⟩ := ho.made hz (marksNote k n) (enc' := NoteD.enc)
    clear ho
    have hN' := hN
    unfold maxLen at hN'
    go_enter Try.func34, Try.ntmps34
    go_wp2
    go_loopw [1, 5] (fun q i wr => ∃ j : Nat, j ≤ n ∧ i = .int .i64 j ∧ q = .int .i64 (k + 3 * j) ∧ Made3 g 77 3 NoteD.enc (marksNote k n) c j wr ∧ w.grownBy wr (some g)) (fun _ i _ => n - (intOf i).toNat)
    case atStart => exact ⟨0, by omega, rfl, by simp, hm0, World.grownBy.refl _ _⟩
    case round =>
    obtain ⟨j, hj, rfl, rfl, hm, hgr⟩ := hrel
    clear hm0
    by_cases hlt : j < n
    · obtain ⟨cs, hrow, hl⟩ := hm.row
      obtain ⟨u0, d0⟩ := hrow.cellAt (i := j * 3) (by have := hl.out; omega)
      have f0 := hrow.frozen (j * 3)
      obtain ⟨u1, d1⟩ := hrow.cellAt (i := j * 3 + 1) (by have := hl.out; omega)
      have f1 := hrow.frozen (j * 3 + 1)
      obtain ⟨u2, d2⟩ := hrow.cellAt (i := j * 3 + 2) (by have := hl.out; omega)
      have f2 := hrow.frozen (j * 3 + 2)
      have hm2 := hm.next NoteD.enc_len (marksNote_get hlt) (by rw [marksNote_len]; exact hnN)
      have hg2 := only_put (markNote k j).enc (j * 3) hgr
      simp only [markNote, NoteD.enc, putW, Nat.add_assoc, Nat.reduceAdd] at hm2 hg2
      go_wp2
      go_roundw
      case rel => exact ⟨j + 1, by omega, vint (by omega), vint (by omega), hm2, hg2⟩
      case measure => simp [intOf]; omega
    · have hk' : n = j := by omega
      have HK := Lib.hid hk'
      clear hk'
      go_wp2
      go_ret
      exact ⟨ret_int (by have := HK.out; omega), by have e := HK.out; rw [← e] at hm; have h2 := Made3.done (B := B) NoteD.enc_len (by rw [marksNote_len]; exact hm) hB (by rw [marksNote_len]; exact hnN) hN; rwa [marksNote_len] at h2, hgr⟩

set_option maxHeartbeats 2000000 in
theorem heldNoteS_any (A : Option Addr) (n c : Nat) (hn : n ≤ 16777216) (k : Int) (h0 : 0 ≤ k) (h1 : k ≤ 1099511627776) (w : World) (hr : RdS NoteD.enc 3 w A (marksNote k n)) :
    Calls Try.prog 35 #[.slice A n c, .int .i64 k] w fun e w' => e = .returned (.int .i64 (k + 3 * n)) ∧ w = w' := by
  go_enter Try.func35, Try.ntmps35
  go_wp2
  go_loop [1, 5] (fun q i => ∃ j : Nat, j ≤ n ∧ i = .int .i64 j ∧ q = .int .i64 (k + 3 * j)) (fun _ i => n - (intOf i).toNat)
  case atStart => exact ⟨0, by omega, rfl, by simp⟩
  case round =>
    obtain ⟨j, hj, rfl, rfl⟩ := hrel
    by_cases hlt : j < n
    · obtain ⟨b, off, x, rfl, hx, c0, c1, c2⟩ := hr.note (k := j) (by rw [marksNote_len]; exact hlt)
      obtain rfl : markNote k j = x := by have h := hx.out; rw [marksNote_get hlt] at h; exact Option.some.inj h
      simp only [markNote] at c0 c1 c2
      clear hx
      go_wp2
      go_round
      case rel => exact ⟨j + 1, by omega, vint (by omega), vint (by omega)⟩
      case measure => simp [intOf]; omega
    · have hk' : n = j := by omega
      have HK := Lib.hid hk'
      clear hk'
      go_wp2
      go_ret
      exact ⟨ret_int (by have := HK.out; omega), rfl⟩
end Go.Proofs.Ytjcheccngombkaa
