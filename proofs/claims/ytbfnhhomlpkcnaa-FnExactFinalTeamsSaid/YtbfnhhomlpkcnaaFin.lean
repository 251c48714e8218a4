/-
  Finishes: their words, and the walks of szFinishS, toFinish, toFinishS, eqFinish, eqFinishS, markFinishS.
-/
import Derived.Test.YtbfnhhomlpkcnaaSmall
namespace Go.Proofs.Ytbfnhhomlpkcnaa
open Go.RowKit

structure FinishD where
  team : Int
  place : Int

def FinishD.enc (x : FinishD) : List Value := [.int .i64 x.team, .int .i64 x.place]
theorem FinishD.enc_len (x : FinishD) : x.enc.length = 2 := rfl
theorem FinishD.enc_one (x : FinishD) : ∀ u ∈ x.enc, u.oneCell' = true := by simp [FinishD.enc, Value.oneCell']
theorem FinishD.eq {x y : FinishD} (h0 : x.team = y.team) (h1 : x.place = y.place) : x = y := by cases x; cases y; cases h0; cases h1; rfl

theorem RdS.finish {w : World} {A : Option Addr} {xs : List FinishD} (h : RdS FinishD.enc 2 w A xs) {k : Nat} (hk : k < xs.length) :
    ∃ b off x, A = some ⟨b, off, none⟩ ∧ Hid (xs[k]? = some x) ∧ w.cell? ⟨b, off + k * 2, none⟩ = some (.int .i64 x.team) ∧ w.cell? ⟨b, off + k * 2 + 1, none⟩ = some (.int .i64 x.place) := by
  obtain ⟨b, off, x, hA, hx, hc⟩ := h.elem hk
  exact ⟨b, off, x, hA, hx, hc 0 _ rfl, hc 1 _ rfl⟩

theorem finish_info : (Try.prog.info? 62).map (fun i => (i.zero, i.size, i.bytes)) = some (some (.agg #[Value.int IntKind.i64 0, Value.int IntKind.i64 0]), 2, 16) := by kernel_rfl

set_option maxHeartbeats 400000 in
theorem szFinishS_any (A : Option Addr) (n c : Nat) (hn : n ≤ 9223372036854775807) (left : Int) (h0 : 0 ≤ left) (h1 : left ≤ 1048576) (w : World) :
    Calls Try.prog 15 #[.slice A n c, .int .i64 left] w fun e w' => e = .returned (.int .i64 (szOf left n)) ∧ w = w' := by
  by_cases h : left < n
  · go_enter Try.func15, Try.ntmps15
    go_wp2
    go_ret
    exact ⟨ret_int (szOf_lt h).symm, rfl⟩
  · go_enter Try.func15, Try.ntmps15
    go_wp2
    go_ret
    exact ⟨ret_int (szOf_ge (by omega)).symm, rfl⟩

set_option maxHeartbeats 1000000 in
theorem toFinish_any (x : FinishD) (w : World) :
    Calls Try.prog 56 #[.agg #[.int .i64 x.team, .int .i64 x.place]] w fun e w' => e = .returned (.agg #[.int .i64 x.team, .int .i64 x.place]) ∧ Below w.heap.size w w' := by
  go_enter Try.func56, Try.ntmps56
  go_wp2
  exact bodyPost_ret (v := .agg #[.int .i64 x.team, .int .i64 x.place]) (by simp [results, Try.results56, go_sem]) rfl ⟨rfl, (by repeat (first | exact Below.refl _ _ | assumption | refine Below.drew ?_ | refine below_drewN ?_ _ | refine Below.alloc ?_ (by simp <;> omega) _ | refine Below.setCell ?_ (by simp <;> omega) _))⟩

set_option maxHeartbeats 1000000 in
theorem toFinishS_any (A : Option Addr) (c : Nat) (xs : List FinishD) (hn : xs.length ≤ 1048576) (w : World) (hr : RdS FinishD.enc 2 w A xs) :
    Calls Try.prog 17 #[.slice A xs.length c] w (RetS FinishD.enc 2 62 xs w) := by
  obtain ⟨i0, hi0, hz0, hz1, hz2⟩ := info_parts finish_info
  have hmk := make_row (P := Try.prog) Try.underlying25 hi0 hz0 hz1 hz2 (n := xs.length) (by omega) hn
  clear hz0 hz1 hz2 hi0
  go_enter Try.func17, Try.ntmps17
  go_wp2
  have hlen : (madeCells #[Value.int IntKind.i64 0, Value.int IntKind.i64 0] (xs.length * 2)).toList.length = xs.length * 2 := by rw [Array.length_toList, size_madeCells]
  have hst : Made3 w.heap.size 62 2 FinishD.enc xs xs.length 0 (w.alloc (.cells (madeCells #[Value.int IntKind.i64 0, Value.int IntKind.i64 0] (xs.length * 2)) 62)) := Made3.start (Row.new _ _ _) hlen
  have hb0 : Below w.heap.size w (w.alloc (.cells (madeCells #[Value.int IntKind.i64 0, Value.int IntKind.i64 0] (xs.length * 2)) 62)) := (by repeat (first | exact Below.refl _ _ | assumption | refine Below.drew ?_ | refine below_drewN ?_ _ | refine Below.alloc ?_ (by simp <;> omega) _ | refine Below.setCell ?_ (by simp <;> omega) _))
  clear hlen hmk
  generalize w.alloc (.cells (madeCells #[Value.int IntKind.i64 0, Value.int IntKind.i64 0] (xs.length * 2)) 62) = w0 at hst hb0
  go_loopw [4] (fun i wr => ∃ k : Nat, k ≤ xs.length ∧ i = .int .i64 k ∧ Made3 w.heap.size 62 2 FinishD.enc xs xs.length k wr ∧ Below w.heap.size w wr) (fun i _ => xs.length - (intOf i).toNat)
  case atStart => exact ⟨0, by omega, rfl, hst, hb0⟩
  case round =>
    obtain ⟨k, hk, rfl, hm, hb⟩ := hrel
    clear hst hb0
    by_cases hlt : k < xs.length
    · obtain ⟨b, off, x, rfl, hx, c0, c1⟩ := (hr.ext hb).finish hlt
      have hsz : w.heap.size ≤ wr.heap.size := hb.size
      go_wp2_with fail
      refine (toFinish_any x _).mono ?_
      rintro e w1 ⟨rfl, hb1⟩
      have hm1 := hm.ext hb1
      obtain ⟨cs, hrow, hl⟩ := hm1.row
      obtain ⟨u0, d0⟩ := hrow.cellAt (i := k * 2) (by have := hl.out; omega)
      have f0 := hrow.frozen (k * 2)
      obtain ⟨u1, d1⟩ := hrow.cellAt (i := k * 2 + 1) (by have := hl.out; omega)
      have f1 := hrow.frozen (k * 2 + 1)
      have hb2 : Below w.heap.size w w1 := below_then hb hsz hb1
      have hm2 := hm1.next FinishD.enc_len hx.out (Nat.le_refl _)
      have hb3 := below_put x.enc (k * 2) (Nat.le_refl _) hb2
      simp only [FinishD.enc, putW] at hm2 hb3
      clear hb hb1 hm
      go_wp2
      go_roundw
      case rel => exact ⟨k + 1, by omega, vint (by omega), hm2, hb3⟩
      case measure => simp [intOf]; omega
    · have hk' : xs.length = k := by omega
      have HK := Lib.hid hk'
      clear hk'
      go_wp2
      go_ret
      exact ⟨_, rfl, by have := HK.out; subst this; exact hm.done FinishD.enc_len (Nat.le_refl _) (Nat.le_refl _) (by unfold maxLen; omega), hb⟩

set_option maxHeartbeats 1000000 in
theorem eqFinish_any (x y : FinishD) (w : World) :
    Calls Try.prog 58 #[.agg #[.int .i64 x.team, .int .i64 x.place], .agg #[.int .i64 y.team, .int .i64 y.place]] w (RetB (x = y) w) := by
  go_enter Try.func58, Try.ntmps58
  go_wp2
  all_goals go_ret
  all_goals first | exact RetB.mkT (FinishD.eq (by simp_all) (by simp_all)) (by repeat (first | exact Below.refl _ _ | assumption | refine Below.drew ?_ | refine below_drewN ?_ _ | refine Below.alloc ?_ (by simp <;> omega) _ | refine Below.setCell ?_ (by simp <;> omega) _)) | exact RetB.mkF (by rintro rfl; simp_all) (by repeat (first | exact Below.refl _ _ | assumption | refine Below.drew ?_ | refine below_drewN ?_ _ | refine Below.alloc ?_ (by simp <;> omega) _ | refine Below.setCell ?_ (by simp <;> omega) _))

set_option maxHeartbeats 2000000 in
theorem eqFinishS_any (A A' : Option Addr) (c c' : Nat) (xs ys : List FinishD) (hn : xs.length ≤ 1048576) (w : World) (hr : RdS FinishD.enc 2 w A xs) (hr' : RdS FinishD.enc 2 w A' ys) :
    Calls Try.prog 19 #[.slice A xs.length c, .slice A' ys.length c'] w (RetB (xs = ys) w) := by
  by_cases hl : xs.length = ys.length
  · have hd : ((xs.length : Int) != (ys.length : Int)) = false := by simp [hl]
    have HL := Lib.hid hl
    clear hl
    go_enter Try.func19, Try.ntmps19
    go_wp2
    go_loopw [5] (fun i wr => ∃ k : Nat, k ≤ xs.length ∧ i = .int .i64 k ∧ xs.take k = ys.take k ∧ Below w.heap.size w wr) (fun i _ => xs.length - (intOf i).toNat)
    case atStart => exact ⟨0, by omega, rfl, by simp, (by repeat (first | exact Below.refl _ _ | assumption | refine Below.drew ?_ | refine below_drewN ?_ _ | refine Below.alloc ?_ (by simp <;> omega) _ | refine Below.setCell ?_ (by simp <;> omega) _))⟩
    case round =>
      obtain ⟨k, hk, rfl, ht, hb⟩ := hrel
      have HT := Lib.hid ht
      clear ht hd
      by_cases hlt : k < xs.length
      · have hlt' : k < ys.length := by have := HL.out; omega
        obtain ⟨b, off, x, rfl, hx, c0, c1⟩ := (hr.ext hb).finish hlt
        obtain ⟨b', off', y, rfl, hy, d0, d1⟩ := (hr'.ext hb).finish hlt'
        have q0 := fun i : Later wr => i.cell c0
        have p0 := fun i : Later wr => i.cell d0
        have q1 := fun i : Later wr => i.cell c1
        have p1 := fun i : Later wr => i.cell d1
        have ne := Later.ne wr
        clear hr hr'
        by_cases hxy : x = y
        · have HXY := Lib.hid hxy
          clear hxy
          go_wp2
          refine wp_region_later (by kernel_rfl) (by kernel_rfl) ?_
          repeat (go_big_quiet_step ((go_at_call 58; exact Calls.later_of (RetB.yes (eqFinish_any x y _) HXY.out))))
          refine wpQuiet_nil ?_
          rintro _ ⟨i1, rfl⟩
          have hb1 := i1.below
          generalize i1.w = w1 at hb1 ⊢
          clear q0 p0 q1 p1 ne
          go_wp2
          go_roundw
          case rel => exact ⟨k + 1, by omega, vint (by omega), by rw [take_snoc hx.out, take_snoc hy.out, HT.out, HXY.out], below_then hb hb.size hb1⟩
          case measure => simp [intOf]; omega
        · have HXY := Lib.hid hxy
          clear hxy
          go_wp2
          refine wp_region_later (by kernel_rfl) (by kernel_rfl) ?_
          repeat (go_big_quiet_step ((go_at_call 58; exact Calls.later_of (RetB.no (eqFinish_any x y _) HXY.out))))
          refine wpQuiet_nil ?_
          rintro _ ⟨i1, rfl⟩
          have hb1 := i1.below
          generalize i1.w = w1 at hb1 ⊢
          clear q0 p0 q1 p1 ne
          go_wp2
          go_ret
          exact RetB.mkF (fun h => by have h1 := hx.out; have h2 := hy.out; rw [h] at h1; exact HXY.out (Option.some.inj (h1.symm.trans h2))) (below_then hb hb.size hb1)
      · go_wp2
        go_ret
        exact RetB.mkT (by have h := HT.out; have h2 := HL.out; rwa [List.take_of_length_le (by omega), List.take_of_length_le (by omega)] at h) hb
  · have hd : ((xs.length : Int) != (ys.length : Int)) = true := by rw [bne_iff_ne]; omega
    have HL := Lib.hid hl
    clear hl
    go_enter Try.func19, Try.ntmps19
    go_wp2
    go_ret
    exact RetB.mkF (fun h => HL.out (by rw [h])) (Below.refl _ _)

/-- what markTS writes -/
def markFinish (k : Int) (i : Nat) : FinishD := ⟨k + 2 * i, k + 2 * i + 1⟩
def marksFinish (k : Int) (n : Nat) : List FinishD := (List.range n).map (markFinish k)
theorem marksFinish_len (k : Int) (n : Nat) : (marksFinish k n).length = n := by simp [marksFinish]
theorem marksFinish_get {k : Int} {n i : Nat} (h : i < n) : (marksFinish k n)[i]? = some (markFinish k i) := by simp [marksFinish, h]

set_option linter.unusedSimpArgs false in
set_option maxHeartbeats 2000000 in
theorem markFinishS_any (A : Option Addr) (n c B : Nat) (xs : List FinishD) (hn : n ≤ 16777216) (k : Int) (h0 : 0 ≤ k) (h1 : k ≤ 1099511627776) (w : World) (ho : OwnS FinishD.enc 2 62 w B (.slice A n c) xs) :
    Calls Try.prog 28 #[.slice A n c, .int .i64 k] w fun e w' => e = .returned (.int .i64 (k + 2 * n)) ∧ OwnS FinishD.enc 2 62 w' B (.slice A n c) (marksFinish k n) ∧ w.grownBy w' (Value.slice A n c).ownBlock := by
  rcases Nat.eq_zero_or_pos n with hz | hz
  · subst hz
    go_enter Try.func28, Try.ntmps28
    go_wp2
    go_loop [1, 5] (fun q i => q = .int .i64 k ∧ i = .int .i64 0) (fun _ _ => 0)
    case atStart => exact ⟨rfl, rfl⟩
    case round =>
      obtain ⟨rfl, rfl⟩ := hrel
      go_wp2
      go_ret
      exact ⟨ret_int (by omega), ho.zero, World.grownBy.refl _ _⟩
  · obtain ⟨g, N, rfl, rfl, hB, -, hnN, hN, hm0⟩ := ho.made hz (marksFinish k n) (enc' := FinishD.enc)
    clear ho
    have hN' := hN
    unfold maxLen at hN'
    go_enter Try.func28, Try.ntmps28
    go_wp2
    go_loopw [1, 5] (fun q i wr => ∃ j : Nat, j ≤ n ∧ i = .int .i64 j ∧ q = .int .i64 (k + 2 * j) ∧ Made3 g 62 2 FinishD.enc (marksFinish k n) c j wr ∧ w.grownBy wr (some g)) (fun _ i _ => n - (intOf i).toNat)
    case atStart => exact ⟨0, by omega, rfl, by simp, hm0, World.grownBy.refl _ _⟩
    case round =>
    obtain ⟨j, hj, rfl, rfl, hm, hgr⟩ := hrel
    clear hm0
    by_cases hlt : j < n
    · obtain ⟨cs, hrow, hl⟩ := hm.row
      obtain ⟨u0, d0⟩ := hrow.cellAt (i := j * 2) (by have := hl.out; omega)
      have f0 := hrow.frozen (j * 2)
      obtain ⟨u1, d1⟩ := hrow.cellAt (i := j * 2 + 1) (by have := hl.out; omega)
      have f1 := hrow.frozen (j * 2 + 1)
      have hm2 := hm.next FinishD.enc_len (marksFinish_get hlt) (by rw [marksFinish_len]; exact hnN)
      have hg2 := only_put (markFinish k j).enc (j * 2) hgr
      simp only [markFinish, FinishD.enc, putW, Nat.add_assoc, Nat.reduceAdd] at hm2 hg2
      go_wp2
      go_roundw
      case rel => exact ⟨j + 1, by omega, vint (by omega), vint (by omega), hm2, hg2⟩
      case measure => simp [intOf]; omega
    · have hk' : n = j := by omega
      have HK := Lib.hid hk'
      clear hk'
      go_wp2
      go_ret
      exact ⟨ret_int (by have := HK.out; omega), by have e := HK.out; rw [← e] at hm; have h2 := Made3.done (B := B) FinishD.enc_len (by rw [marksFinish_len]; exact hm) hB (by rw [marksFinish_len]; exact hnN) hN; rwa [marksFinish_len] at h2, hgr⟩

set_option maxHeartbeats 400000 in
theorem isTeam_yes {n : Int} (h1 : 1 ≤ n) (h2 : n ≤ 12) (w : World) :
    Calls Try.prog 57 #[.int .i64 n] w fun e w' => e = .returned (.bool true) ∧ w = w' := by
  go_enter Try.func57, Try.ntmps57
  go_wp2_with (go_at_call 65; refine (within_yes h1 h2 _).mono ?_; rintro e w' ⟨rfl, rfl⟩)
  go_ret
  exact ⟨rfl, rfl⟩
set_option maxHeartbeats 400000 in
theorem isTeam_no {n : Int} (h : ¬ (1 ≤ n ∧ n ≤ 12)) (w : World) :
    Calls Try.prog 57 #[.int .i64 n] w fun e w' => e = .returned (.bool false) ∧ w = w' := by
  go_enter Try.func57, Try.ntmps57
  go_wp2_with (go_at_call 65; refine (within_no h _).mono ?_; rintro e w' ⟨rfl, rfl⟩)
  go_ret
  exact ⟨rfl, rfl⟩

end Go.Proofs.Ytbfnhhomlpkcnaa
