/-
  Points of teams, their totals, ranks and places: the plain words. No program is named here.
-/
import Derived.Test.YtldcnlhfanbdfaaTp
import Derived.Test.YtldcnlhfanbdfaaWi
namespace Go.Proofs.Ytldcnlhfanbdfaa
open Go.RowKit

theorem lt_share (l : List FinishD) (p : Int) : cntLt l p + share l p ≤ l.length := by
  unfold cntLt share
  induction l with
  | nil => simp
  | cons y l ih =>
    simp only [List.countP_cons, List.length_cons]
    by_cases h1 : y.place < p
    · have h2 : ¬ y.place = p := by omega
      simp [h1, h2]; omega
    · by_cases h2 : y.place = p <;> simp [h1, h2] <;> omega
theorem pts_nn {l : List FinishD} (hf : FinOk l) {k : Nat} {x : FinishD} (hx : l[k]? = some x) : 0 ≤ pts l x ∧ pts l x ≤ 25 := by
  have h1 := (hf.2 k x (List.getElem?_eq_some_iff.1 hx).1 hx).2.2
  have h2 := lt_share l x.place
  have h3 := hf.1
  have h4 := pts_bd hf hx
  unfold pts at *
  omega
theorem ownPts_nn {l : List FinishD} (hf : FinOk l) (t : Int) : ∀ k, 0 ≤ ownPts l t k ∧ ownPts l t k ≤ 25
  | 0 => by simp [ownPts]
  | k + 1 => by
    rcases Nat.lt_or_ge k l.length with h | h
    · have hx := List.getElem?_eq_getElem h
      by_cases ht : l[k].team = t
      · rw [ownPts_yes hx ht]; exact pts_nn hf hx
      · rw [ownPts_no hx ht]; exact ownPts_nn hf t k
    · have e : ownPts l t (k + 1) = ownPts l t k := by unfold ownPts; rw [List.take_of_length_le (by omega), List.take_of_length_le h]
      rw [e]; exact ownPts_nn hf t k
theorem ownPts_zero (l : List FinishD) (t : Int) : ownPts l t 0 = 0 := rfl
theorem teTo_zero (ls : List (List FinishD)) (t : Int) : teTo ls t 0 = [] := rfl
theorem teAllOf_bd {ls : List (List FinishD)} (hd : DisOk ls) (t : Int) : ∀ x ∈ teAllOf ls t, 0 ≤ x ∧ x ≤ 25 := by
  intro x hx
  obtain ⟨l, hl, rfl⟩ := List.mem_map.1 hx
  obtain ⟨k, hk⟩ := List.getElem?_of_mem hl
  exact ownPts_nn (hd.at_ hk) t _
/-- a team's points, the greatest ones first -/
def tpD (ls : List (List FinishD)) (t : Int) : List Int := sortD (teAllOf ls t)
theorem tpD_len (ls : List (List FinishD)) (t : Int) : (tpD ls t).length = ls.length := by unfold tpD; rw [sortD_len, teAllOf_len]
theorem tpD_bd {ls : List (List FinishD)} (hd : DisOk ls) (t : Int) : ∀ x ∈ tpD ls t, 0 ≤ x ∧ x ≤ 25 := fun x hx => teAllOf_bd hd t x ((sortD_perm _).mem_iff.1 hx)
/-- a team's total -/
def ttD (ls : List (List FinishD)) (t : Int) : Int := sm (teAllOf ls t)
theorem ttD_sorted (ls : List (List FinishD)) (t : Int) : sm (tpD ls t) = ttD ls t := sm_perm (sortD_perm _)
theorem ttD_bd {ls : List (List FinishD)} (hd : DisOk ls) (t : Int) : 0 ≤ ttD ls t ∧ ttD ls t ≤ 125 := by
  have h := sm_bd (teAllOf_bd hd t)
  rw [teAllOf_len] at h
  have h5 := hd.1
  unfold ttD
  omega
/-- the sum of a team's first n points -/
def tnD (ls : List (List FinishD)) (t : Int) (n : Nat) : Int := sm ((tpD ls t).take n)
theorem tnD_bd {ls : List (List FinishD)} (hd : DisOk ls) (t : Int) (n : Nat) : 0 ≤ tnD ls t n ∧ tnD ls t n ≤ 125 := by
  have h := sm_take_bd (tpD_bd hd t) n
  have h5 := hd.1
  have h6 : ((tpD ls t).take n).length ≤ ls.length := by rw [← tpD_len ls t]; exact List.length_take_le' _ _
  unfold tnD
  omega
theorem tnD_all (ls : List (List FinishD)) (t : Int) : tnD ls t ls.length = ttD ls t := by unfold tnD; rw [List.take_of_length_le (by rw [tpD_len]; exact Nat.le_refl _), ttD_sorted]
theorem tnD_min (ls : List (List FinishD)) (t : Int) (n : Nat) : tnD ls t (min n ls.length) = tnD ls t n := by
  unfold tnD
  rcases Nat.le_total n ls.length with h | h
  · rw [Nat.min_eq_left h]
  · rw [Nat.min_eq_right h, List.take_of_length_le (by rw [tpD_len]; exact Nat.le_refl _), List.take_of_length_le (by rw [tpD_len]; exact h)]
/-- who of two teams is ahead -/
def cmpT (ls : List (List FinishD)) (a b : Int) : Int :=
  if ttD ls a = ttD ls b then (if tnD ls a 2 = tnD ls b 2 then sgn (tnD ls a 1 - tnD ls b 1) else sgn (tnD ls a 2 - tnD ls b 2)) else sgn (ttD ls a - ttD ls b)
theorem sgn_zero {n : Int} : sgn n = 0 ↔ n = 0 := by unfold sgn; split <;> (try split) <;> omega
theorem sgn_bd (n : Int) : -1 ≤ sgn n ∧ sgn n ≤ 1 := by unfold sgn; split <;> (try split) <;> omega
theorem cmpT_bd (ls : List (List FinishD)) (a b : Int) : -1 ≤ cmpT ls a b ∧ cmpT ls a b ≤ 1 := by unfold cmpT; split <;> (try split) <;> exact sgn_bd _
/-- the place of the team i + 1 -/
def aheadB (ls : List (List FinishD)) (i : Nat) (j : Nat) : Bool := decide (0 < cmpT ls ((j : Int) + 1) ((i : Int) + 1))
def ahN (ls : List (List FinishD)) (i k : Nat) : Nat := cn (aheadB ls i) (List.range k)
theorem ahN_zero (ls : List (List FinishD)) (i : Nat) : ahN ls i 0 = 0 := rfl
theorem ahN_yes {ls : List (List FinishD)} {i k : Nat} (h : aheadB ls i k = true) : ahN ls i (k + 1) = ahN ls i k + 1 := by
  unfold ahN cn; rw [List.range_succ, List.countP_append]; simp [h]
theorem ahN_no {ls : List (List FinishD)} {i k : Nat} (h : aheadB ls i k = false) : ahN ls i (k + 1) = ahN ls i k := by
  unfold ahN cn; rw [List.range_succ, List.countP_append]; simp [h]
theorem ahN_le (ls : List (List FinishD)) (i k : Nat) : ahN ls i k ≤ k := by have := cn_le (aheadB ls i) (List.range k); simpa [ahN] using this
def plT (ls : List (List FinishD)) (i : Nat) : Int := 1 + (ahN ls i 12 : Int)
/-- what f has for the numbers below k -/
def upR (f : Nat → Int) (k : Nat) : List Int := (List.range k).map f
theorem upR_zero (f : Nat → Int) : upR f 0 = [] := rfl
theorem upR_succ (f : Nat → Int) (k : Nat) : upR f (k + 1) = upR f k ++ [f k] := by unfold upR; rw [List.range_succ]; simp
theorem upR_len (f : Nat → Int) (k : Nat) : (upR f k).length = k := by simp [upR]
theorem upR_at {f : Nat → Int} {k i : Nat} (h : i < k) : (upR f k)[i]? = some (f i) := by unfold upR; rw [List.getElem?_map, List.getElem?_range h]; rfl
/-- the numbers from 1 on of those chosen below n -/
def ix1 (p : Nat → Bool) (n : Nat) : List Int := fm p (fun i : Nat => (i : Int) + 1) (List.range n)
theorem ix1_zero (p : Nat → Bool) : ix1 p 0 = [] := rfl
theorem ix1_yes {p : Nat → Bool} {n : Nat} (h : p n = true) : ix1 p (n + 1) = ix1 p n ++ [(n : Int) + 1] := by
  unfold ix1 fm; rw [List.range_succ, List.filter_append]; simp [h]
theorem ix1_no {p : Nat → Bool} {n : Nat} (h : p n = false) : ix1 p (n + 1) = ix1 p n := by
  unfold ix1 fm; rw [List.range_succ, List.filter_append]; simp [h]
theorem ix1_len (p : Nat → Bool) (n : Nat) : (ix1 p n).length ≤ n := Nat.le_trans (fm_len _ _ _) (by simp)
end Go.Proofs.Ytldcnlhfanbdfaa
