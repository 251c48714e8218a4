/-
  Finishes: the walks of the small functions, of szFinishS, toFinish, toFinishS, eqFinish, eqFinishS.
-/
import Derived.Test.YtjdbiifnnaedhaaProg
import Derived.Test.YtjdbiifnnaedhaaRegion
namespace Go.Proofs.Ytjdbiifnnaedhaa
open Go.RowKit

structure Finish where
  team : Int
  place : Int

def Finish.enc (x : Finish) : List Value := [.int .i64 x.team, .int .i64 x.place]
theorem Finish.enc_len (x : Finish) : x.enc.length = 2 := rfl

theorem RdS.fin {w : World} {A : Option Addr} {xs : List Finish} (h : RdS Finish.enc 2 w A xs) {k : Nat} (hk : k < xs.length) :
    ∃ b off x, A = some ⟨b, off, none⟩ ∧ Hid (xs[k]? = some x) ∧ w.cell? ⟨b, off + k * 2, none⟩ = some (.int .i64 x.team) ∧ w.cell? ⟨b, off + k * 2 + 1, none⟩ = some (.int .i64 x.place) := by
  obtain ⟨b, off, x, hA, hx, hc⟩ := h.elem hk
  exact ⟨b, off, x, hA, hx, hc 0 _ rfl, hc 1 _ rfl⟩

set_option maxHeartbeats 400000 in
theorem within_any (n lo hi : Int) (w : World) :
    Calls Try.prog 65 #[.int .i64 n, .int .i64 lo, .int .i64 hi] w fun e w' => e = .returned (.bool (decide (lo ≤ n) && decide (n ≤ hi))) ∧ w = w' := by
  go_enter Try.func65, Try.ntmps65
  go_wp2
  all_goals go_ret
  · rename_i h
    exact ⟨by simp [h], rfl⟩
  · rename_i h
    have h' : ¬ lo ≤ n := by omega
    exact ⟨by simp [h'], rfl⟩

set_option maxHeartbeats 400000 in
theorem l1In_any (n lo hi : Int) (w : World) :
    Calls Try.prog 77 #[.int .i64 n, .int .i64 lo, .int .i64 hi] w fun e w' => e = .returned (.bool (decide (lo ≤ n) && decide (n ≤ hi))) ∧ w = w' := by
  go_enter Try.func77, Try.ntmps77
  go_wp2
  all_goals go_ret
  · rename_i h
    exact ⟨by simp [h], rfl⟩
  · rename_i h
    have h' : ¬ lo ≤ n := by omega
    exact ⟨by simp [h'], rfl⟩

theorem within_yes {n lo hi : Int} (h1 : lo ≤ n) (h2 : n ≤ hi) (w : World) : Calls Try.prog 65 #[.int .i64 n, .int .i64 lo, .int .i64 hi] w fun e w' => e = .returned (.bool true) ∧ w = w' := by
  have h := within_any n lo hi w
  simpa [h1, h2] using h
theorem within_no {n lo hi : Int} (h : ¬ (lo ≤ n ∧ n ≤ hi)) (w : World) : Calls Try.prog 65 #[.int .i64 n, .int .i64 lo, .int .i64 hi] w fun e w' => e = .returned (.bool false) ∧ w = w' := by
  have h0 := within_any n lo hi w
  have e : (decide (lo ≤ n) && decide (n ≤ hi)) = false := by simpa using h
  rwa [e] at h0
theorem l1In_yes {n lo hi : Int} (h1 : lo ≤ n) (h2 : n ≤ hi) (w : World) : Calls Try.prog 77 #[.int .i64 n, .int .i64 lo, .int .i64 hi] w fun e w' => e = .returned (.bool true) ∧ w = w' := by
  have h := l1In_any n lo hi w
  simpa [h1, h2] using h
theorem l1In_no {n lo hi : Int} (h : ¬ (lo ≤ n ∧ n ≤ hi)) (w : World) : Calls Try.prog 77 #[.int .i64 n, .int .i64 lo, .int .i64 hi] w fun e w' => e = .returned (.bool false) ∧ w = w' := by
  have h0 := l1In_any n lo hi w
  have e : (decide (lo ≤ n) && decide (n ≤ hi)) = false := by simpa using h
  rwa [e] at h0

set_option maxHeartbeats 400000 in
theorem isTeam_yes {n : Int} (h1 : 1 ≤ n) (h2 : n ≤ 12) (w : World) :
    Calls Try.prog 57 #[.int .i64 n] w fun e w' => e = .returned (.bool true) ∧ w = w' := by
  go_enter Try.func57, Try.ntmps57
  go_wp2_with (go_at_call 65; refine (within_yes h1 h2 _).mono ?_; rintro e w' ⟨rfl, rfl⟩)
  go_ret
  exact ⟨rfl, rfl⟩
set_option maxHeartbeats 400000 in
theorem isTeam_no {n : Int} (h : ¬ (1 ≤ n ∧ n ≤ 12)) (w : World) :
    Calls Try.prog 57 #[.int .i64 n] w fun e w' => e = .returned (.bool false) ∧ w = w' := by
  go_enter Try.func57, Try.ntmps57
  go_wp2_with (go_at_call 65; refine (within_no h _).mono ?_; rintro e w' ⟨rfl, rfl⟩)
  go_ret
  exact ⟨rfl, rfl⟩

set_option maxHeartbeats 400000 in
theorem szFinishS_any (A : Option Addr) (n c : Nat) (hn : n ≤ 9223372036854775807) (left : Int) (h0 : 0 ≤ left) (h1 : left ≤ 1048576) (w : World) :
    Calls Try.prog 15 #[.slice A n c, .int .i64 left] w fun e w' => e = .returned (.int .i64 (szOf left n)) ∧ w = w' := by
  by_cases h : left < n
  · go_enter Try.func15, Try.ntmps15
    go_wp2
    go_ret
    exact ⟨ret_int (szOf_lt h).symm, rfl⟩
  · go_enter Try.func15, Try.ntmps15
    go_wp2
    go_ret
    exact ⟨ret_int (szOf_ge (by omega)).symm, rfl⟩

set_option maxHeartbeats 400000 in
theorem toFinish_any (x : Finish) (w : World) :
    Calls Try.prog 56 #[.agg #[.int .i64 x.team, .int .i64 x.place]] w fun e w' => e = .returned (.agg #[.int .i64 x.team, .int .i64 x.place]) ∧ Below w.heap.size w w' := by
  go_enter Try.func56, Try.ntmps56
  go_wp2
  exact bodyPost_ret (v := .agg #[.int .i64 x.team, .int .i64 x.place]) (by simp [results, Try.results56, go_sem]) rfl ⟨rfl, (by repeat (first | exact Below.refl _ _ | assumption | refine Below.drew ?_ | refine below_drewN ?_ _ | refine Below.alloc ?_ (by simp <;> omega) _ | refine Below.setCell ?_ (by simp <;> omega) _))⟩

theorem fin_info : (Try.prog.info? 62).map (fun i => (i.zero, i.size, i.bytes)) = some (some (.agg #[.int .i64 0, .int .i64 0]), 2, 16) := by kernel_rfl

set_option maxHeartbeats 400000 in
theorem toFinishS_any (A : Option Addr) (c : Nat) (xs : List Finish) (hn : xs.length ≤ 1048576) (w : World) (hr : RdS Finish.enc 2 w A xs) :
    Calls Try.prog 17 #[.slice A xs.length c] w (RetS Finish.enc 2 62 xs w) := by
  obtain ⟨i0, hi0, hz0, hz1, hz2⟩ := info_parts fin_info
  have hmk := make_row (P := Try.prog) Try.underlying25 hi0 hz0 hz1 hz2 (n := xs.length) (by omega) hn
  clear hz0 hz1 hz2 hi0
  go_enter Try.func17, Try.ntmps17
  go_wp2
  have hlen : (madeCells #[Value.int IntKind.i64 0, Value.int IntKind.i64 0] (xs.length * 2)).toList.length = xs.length * 2 := by rw [Array.length_toList, size_madeCells]
  have hrow := Row.new w 62 (madeCells #[Value.int IntKind.i64 0, Value.int IntKind.i64 0] (xs.length * 2))
  have hst : Made2 w.heap.size w.heap.size 62 2 Finish.enc xs 0 w (w.alloc (.cells (madeCells #[Value.int IntKind.i64 0, Value.int IntKind.i64 0] (xs.length * 2)) 62)) :=
    ⟨_, hrow, hlen, by simp, (by repeat (first | exact Below.refl _ _ | assumption | refine Below.drew ?_ | refine below_drewN ?_ _ | refine Below.alloc ?_ (by simp <;> omega) _ | refine Below.setCell ?_ (by simp <;> omega) _))⟩
  have HST := Lib.hid hst
  clear hst hlen hrow hmk
  generalize w.alloc (.cells (madeCells #[Value.int IntKind.i64 0, Value.int IntKind.i64 0] (xs.length * 2)) 62) = w0 at HST
  go_loopw [4] (fun i wr => ∃ k : Nat, k ≤ xs.length ∧ i = .int .i64 k ∧ Made2 w.heap.size w.heap.size 62 2 Finish.enc xs k w wr) (fun i _ => xs.length - (intOf i).toNat)
  case atStart => exact ⟨0, by omega, rfl, HST.out⟩
  case round =>
    obtain ⟨k, hk, rfl, hm⟩ := hrel
    clear HST
    by_cases hlt : k < xs.length
    · obtain ⟨b, off, x, rfl, hx, c0, c1⟩ := (hr.ext hm.below).fin hlt
      obtain ⟨cs, hrow, hl⟩ := hm.row
      have HL := Lib.hid hl
      clear hl
      have hsz : w.heap.size ≤ wr.heap.size := hm.below.size
      go_wp2_with fail
      refine (toFinish_any x _).mono ?_
      rintro e w1 ⟨rfl, hb1⟩
      obtain ⟨u0, d0⟩ := (hrow.ext hb1).cellAt (i := k * 2) (by have := HL.out; omega)
      obtain ⟨u1, d1⟩ := (hrow.ext hb1).cellAt (i := k * 2 + 1) (by have := HL.out; omega)
      have f0 := (hrow.ext hb1).frozen (k * 2)
      have f1 := (hrow.ext hb1).frozen (k * 2 + 1)
      go_wp2
      go_roundw
      case rel => exact ⟨k + 1, by omega, by go_num, hm.next Finish.enc_len hx.out (Nat.le_refl _) hsz hb1⟩
      case measure => simp [intOf]; omega
    · have hk' : xs.length = k := by omega
      have HK := Lib.hid hk'
      clear hk'
      go_wp2
      go_ret
      exact ⟨_, rfl, by have := HK.out; subst this; exact hm.done (Nat.le_refl _) (by unfold maxLen; omega), hm.below⟩

theorem Finish.eq {x y : Finish} (h1 : x.team = y.team) (h2 : x.place = y.place) : x = y := by cases x; cases y; cases h1; cases h2; rfl

set_option maxHeartbeats 400000 in
theorem eqFinish_any (x y : Finish) (w : World) :
    Calls Try.prog 58 #[.agg #[.int .i64 x.team, .int .i64 x.place], .agg #[.int .i64 y.team, .int .i64 y.place]] w (RetB (x = y) w) := by
  go_enter Try.func58, Try.ntmps58
  go_wp2
  all_goals go_ret
  all_goals first | exact RetB.mkT (Finish.eq (by simp_all) (by simp_all)) (by repeat (first | exact Below.refl _ _ | assumption | refine Below.drew ?_ | refine below_drewN ?_ _ | refine Below.alloc ?_ (by simp <;> omega) _ | refine Below.setCell ?_ (by simp <;> omega) _)) | exact RetB.mkF (by rintro rfl; simp_all) (by repeat (first | exact Below.refl _ _ | assumption | refine Below.drew ?_ | refine below_drewN ?_ _ | refine Below.alloc ?_ (by simp <;> omega) _ | refine Below.setCell ?_ (by simp <;> omega) _))

set_option maxHeartbeats 400000 in
theorem eqFinishS_any (A A' : Option Addr) (c c' : Nat) (xs ys : List Finish) (hn : xs.length ≤ 1048576) (w : World) (hr : RdS Finish.enc 2 w A xs) (hr' : RdS Finish.enc 2 w A' ys) :
    Calls Try.prog 19 #[.slice A xs.length c, .slice A' ys.length c'] w (RetB (xs = ys) w) := by
  by_cases hl : xs.length = ys.length
  · have hd : ((xs.length : Int) != (ys.length : Int)) = false := by simp [hl]
    have HL := Lib.hid hl
    clear hl
    go_enter Try.func19, Try.ntmps19
    go_wp2
    go_loopw [5] (fun i wr => ∃ k : Nat, k ≤ xs.length ∧ i = .int .i64 k ∧ xs.take k = ys.take k ∧ Below w.heap.size w wr) (fun i _ => xs.length - (intOf i).toNat)
    case atStart => exact ⟨0, by omega, rfl, by simp, (by repeat (first | exact Below.refl _ _ | assumption | refine Below.drew ?_ | refine below_drewN ?_ _ | refine Below.alloc ?_ (by simp <;> omega) _ | refine Below.setCell ?_ (by simp <;> omega) _))⟩
    case round =>
      obtain ⟨k, hk, rfl, ht, hb⟩ := hrel
      have HT := Lib.hid ht
      clear ht hd
      by_cases hlt : k < xs.length
      · have hlt' : k < ys.length := by have := HL.out; omega
        obtain ⟨b, off, x, rfl, hx, c0, c1⟩ := (hr.ext hb).fin hlt
        obtain ⟨b', off', y, rfl, hy, c0', c1'⟩ := (hr'.ext hb).fin hlt'
        have q0 := fun i : Later wr => i.cell c0
        have q1 := fun i : Later wr => i.cell c1
        have q2 := fun i : Later wr => i.cell c0'
        have q3 := fun i : Later wr => i.cell c1'
        have ne := Later.ne wr
        clear hr hr'
        by_cases hxy : x = y
        · have HXY := Lib.hid hxy
          clear hxy
          go_wp2
          refine wp_region_later (by kernel_rfl) (by kernel_rfl) ?_
          repeat (go_big_quiet_step ((go_at_call 58; exact Calls.later_of (RetB.yes (eqFinish_any x y _) HXY.out))))
          refine wpQuiet_nil ?_
          rintro _ ⟨i1, rfl⟩
          have hb1 := i1.below
          generalize i1.w = w1 at hb1 ⊢
          clear q0 q1 q2 q3 ne
          go_wp2
          go_roundw
          case rel => exact ⟨k + 1, by omega, by go_num, by rw [take_snoc hx.out, take_snoc hy.out, HT.out, HXY.out], below_then hb hb.size hb1⟩
          case measure => simp [intOf]; omega
        · have HXY := Lib.hid hxy
          clear hxy
          go_wp2
          refine wp_region_later (by kernel_rfl) (by kernel_rfl) ?_
          repeat (go_big_quiet_step ((go_at_call 58; exact Calls.later_of (RetB.no (eqFinish_any x y _) HXY.out))))
          refine wpQuiet_nil ?_
          rintro _ ⟨i1, rfl⟩
          have hb1 := i1.below
          generalize i1.w = w1 at hb1 ⊢
          clear q0 q1 q2 q3 ne
          go_wp2
          go_ret
          exact RetB.mkF (fun h => by have h1 := hx.out; have h2 := hy.out; rw [h] at h1; exact HXY.out (Option.some.inj (h1.symm.trans h2))) (below_then hb hb.size hb1)
      · go_wp2
        go_ret
        exact RetB.mkT (by have h := HT.out; have h2 := HL.out; rwa [List.take_of_length_le (by omega), List.take_of_length_le (by omega)] at h) hb
  · have hd : ((xs.length : Int) != (ys.length : Int)) = true := by rw [bne_iff_ne]; omega
    have HL := Lib.hid hl
    clear hl
    go_enter Try.func19, Try.ntmps19
    go_wp2
    go_ret
    exact RetB.mkF (fun h => HL.out (by rw [h])) (Below.refl _ _)
end Go.Proofs.Ytjdbiifnnaedhaa
