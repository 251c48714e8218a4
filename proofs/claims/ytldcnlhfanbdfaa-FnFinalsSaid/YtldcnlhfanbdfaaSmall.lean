/-
  The small functions on numbers.
-/
import Derived.Test.YtldcnlhfanbdfaaProg
import Derived.Test.YtldcnlhfanbdfaaRegion
namespace Go.Proofs.Ytldcnlhfanbdfaa
open Go.RowKit

set_option maxHeartbeats 400000 in
theorem within_any (n lo hi : Int) (w : World) :
    Calls Try.prog 50 #[.int .i64 n, .int .i64 lo, .int .i64 hi] w fun e w' => e = .returned (.bool (decide (lo ≤ n) && decide (n ≤ hi))) ∧ w = w' := by
  go_enter Try.func50, Try.ntmps50
  go_wp2
  all_goals go_ret
  · rename_i h
    exact ⟨by simp [h], rfl⟩
  · rename_i h
    have h' : ¬ lo ≤ n := by omega
    exact ⟨by simp [h'], rfl⟩

set_option maxHeartbeats 400000 in
theorem l1In_any (n lo hi : Int) (w : World) :
    Calls Try.prog 52 #[.int .i64 n, .int .i64 lo, .int .i64 hi] w fun e w' => e = .returned (.bool (decide (lo ≤ n) && decide (n ≤ hi))) ∧ w = w' := by
  go_enter Try.func52, Try.ntmps52
  go_wp2
  all_goals go_ret
  · rename_i h
    exact ⟨by simp [h], rfl⟩
  · rename_i h
    have h' : ¬ lo ≤ n := by omega
    exact ⟨by simp [h'], rfl⟩

theorem within_yes {n lo hi : Int} (h1 : lo ≤ n) (h2 : n ≤ hi) (w : World) : Calls Try.prog 50 #[.int .i64 n, .int .i64 lo, .int .i64 hi] w fun e w' => e = .returned (.bool true) ∧ w = w' := by
  have h := within_any n lo hi w
  simpa [h1, h2] using h
theorem within_no {n lo hi : Int} (h : ¬ (lo ≤ n ∧ n ≤ hi)) (w : World) : Calls Try.prog 50 #[.int .i64 n, .int .i64 lo, .int .i64 hi] w fun e w' => e = .returned (.bool false) ∧ w = w' := by
  have h0 := within_any n lo hi w
  have e : (decide (lo ≤ n) && decide (n ≤ hi)) = false := by simpa using h
  rwa [e] at h0
theorem l1In_yes {n lo hi : Int} (h1 : lo ≤ n) (h2 : n ≤ hi) (w : World) : Calls Try.prog 52 #[.int .i64 n, .int .i64 lo, .int .i64 hi] w fun e w' => e = .returned (.bool true) ∧ w = w' := by
  have h := l1In_any n lo hi w
  simpa [h1, h2] using h
theorem l1In_no {n lo hi : Int} (h : ¬ (lo ≤ n ∧ n ≤ hi)) (w : World) : Calls Try.prog 52 #[.int .i64 n, .int .i64 lo, .int .i64 hi] w fun e w' => e = .returned (.bool false) ∧ w = w' := by
  have h0 := l1In_any n lo hi w
  have e : (decide (lo ≤ n) && decide (n ≤ hi)) = false := by simpa using h
  rwa [e] at h0

end Go.Proofs.Ytldcnlhfanbdfaa
