/-
  A copy of a slice of ints: the walk of toIntS.
-/
import Derived.Test.YtjcheccngombkaaInts
namespace Go.Proofs.Ytjcheccngombkaa
open Go.RowKit

set_option maxHeartbeats 1000000 in
theorem toIntS_any (A : Option Addr) (c : Nat) (xs : List Int) (hn : xs.length ≤ 1048576) (w : World) (hr : RdS encI 1 w A xs) :
    Calls Try.prog 25 #[.slice A xs.length c] w (RetS encI 1 3 xs w) := by
  obtain ⟨i0, hi0, hz0, hz1, hz2⟩ := info_parts int_info
  have hmk := make_row (P := Try.prog) Try.underlying30 hi0 hz0 hz1 hz2 (n := xs.length) (by omega) hn
  clear hz0 hz1 hz2 hi0
  go_enter Try.func25, Try.ntmps25
  go_wp2
  have hlen : (madeCells #[Value.int IntKind.i64 0] xs.length).toList.length = xs.length * 1 := by rw [Array.length_toList, size_madeCells, Nat.mul_one]
  have hst : Made3 w.heap.size 3 1 encI xs xs.length 0 (w.alloc (.cells (madeCells #[Value.int IntKind.i64 0] xs.length) 3)) := Made3.start (Row.new _ _ _) hlen
  have hb0 : Below w.heap.size w (w.alloc (.cells (madeCells #[Value.int IntKind.i64 0] xs.length) 3)) := (by repeat (first | exact Below.refl _ _ | assumption | refine Below.drew ?_ | refine below_drewN ?_ _ | refine Below.alloc ?_ (by simp <;> omega) _ | refine Below.setCell ?_ (by simp <;> omega) _))
  clear hlen hmk
  generalize w.alloc (.cells (madeCells #[Value.int IntKind.i64 0] xs.length) 3) = w0 at hst hb0 ⊢
  go_loopw [4] (fun i wr => ∃ k : Nat, k ≤ xs.length ∧ i = .int .i64 k ∧ Made3 w.heap.size 3 1 encI xs xs.length k wr ∧ Below w.heap.size w wr) (fun i _ => xs.length - (intOf i).toNat)
  case atStart => exact ⟨0, by omega, rfl, hst, hb0⟩
  case round =>
    obtain ⟨k, hk, rfl, hm, hb⟩ := hrel
    clear hst hb0
    by_cases hlt : k < xs.length
    · obtain ⟨b, off, x, rfl, hx, c0⟩ := (hr.ext hb).int hlt
      have hsz : w.heap.size ≤ wr.heap.size := hb.size
      obtain ⟨cs, hrow, hl⟩ := hm.row
      obtain ⟨u0, d0⟩ := hrow.cellAt (i := k) (by have := hl.out; omega)
      have f0 := hrow.frozen k
      have hm2 := hm.next encI_len hx.out (Nat.le_refl _)
      have hb3 := below_put (encI x) (k * 1) (Nat.le_refl _) hb
      simp only [encI, putW, Nat.mul_one] at hm2 hb3
      clear hb hm
      go_wp2
      go_roundw
      case rel => exact ⟨k + 1, by omega, vint (by omega), hm2, hb3⟩
      case measure => simp [intOf]; omega
    · have hk' : xs.length = k := by omega
      have HK := Lib.hid hk'
      clear hk'
      go_wp2
      go_ret
      exact ⟨_, rfl, by have := HK.out; subst this; exact hm.done encI_len (Nat.le_refl _) (Nat.le_refl _) (by unfold maxLen; omega), hb⟩
end Go.Proofs.Ytjcheccngombkaa
