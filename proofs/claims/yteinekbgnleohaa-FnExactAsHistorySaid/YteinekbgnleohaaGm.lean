/-
  A list marked one by one, each element with numbers of its own: plain words. No program is named here.
-/
import Derived.Test.YteinekbgnleohaaWi
namespace Go.Proofs.Yteinekbgnleohaa
open Go.RowKit

section
variable {α : Type} (f : Int → α → α) (c : α → Nat)
def gMk : Int → List α → List α
  | _, [] => []
  | q, x :: l => f q x :: gMk (q + (c x : Int)) l
def gC (l : List α) : Nat := (l.map c).sum
def gAt (q : Int) (l : List α) (k : Nat) : Int := q + (gC c (l.take k) : Int)
def gTo (q : Int) (l : List α) (k : Nat) : List α := gMk f c q (l.take k) ++ l.drop k
def gH (q : Int) (l : List α) (k : Nat) (y : α) : List α := gMk f c q (l.take k) ++ y :: l.drop (k + 1)
end
section
variable {α : Type} {f : Int → α → α} {c : α → Nat}
theorem gC_nil : gC c [] = 0 := rfl
theorem gC_succ {l : List α} {k : Nat} {x : α} (hx : l[k]? = some x) : gC c (l.take (k + 1)) = gC c (l.take k) + c x := by unfold gC; rw [take_snoc hx]; simp
theorem gC_take (l : List α) (k : Nat) : gC c (l.take k) ≤ gC c l := by
  have : l = l.take k ++ l.drop k := (List.take_append_drop k l).symm
  unfold gC
  conv => rhs; rw [this]
  rw [List.map_append, List.sum_append]
  omega
theorem gC_ge (h1 : ∀ x, 1 ≤ c x) : ∀ l : List α, l.length ≤ gC c l
  | [] => Nat.le_refl _
  | x :: l => by have h2 := gC_ge h1 l; have h3 := h1 x; simp [gC] at h2 ⊢; omega
theorem gMk_len : ∀ (q : Int) (l : List α), (gMk f c q l).length = l.length
  | _, [] => rfl
  | q, x :: l => by simp [gMk, gMk_len]
theorem gMk_append : ∀ (q : Int) (l l' : List α), gMk f c q (l ++ l') = gMk f c q l ++ gMk f c (q + (gC c l : Int)) l'
  | q, [], l' => by simp [gMk, gC]
  | q, x :: l, l' => by
    simp only [List.cons_append, gMk, gMk_append _ l l']
    congr 3
    simp [gC]
    omega
theorem gMk_snoc {q : Int} {l : List α} {k : Nat} {x : α} (hx : l[k]? = some x) : gMk f c q (l.take (k + 1)) = gMk f c q (l.take k) ++ [f (gAt c q l k) x] := by
  rw [take_snoc hx, gMk_append]
  rfl
theorem gMk_get {q : Int} {l : List α} {k : Nat} {x : α} (hx : l[k]? = some x) : (gMk f c q l)[k]? = some (f (gAt c q l k) x) := by
  have hk := (List.getElem?_eq_some_iff.1 hx).1
  have e : l = l.take (k + 1) ++ l.drop (k + 1) := (List.take_append_drop _ l).symm
  rw [e, gMk_append, gMk_snoc hx, ← e, List.getElem?_append_left (by simp [gMk_len]; omega), List.getElem?_append_right (by simp [gMk_len]; omega)]
  simp [gMk_len, Nat.min_eq_left (show k ≤ l.length by omega)]
theorem gTo_zero (q : Int) (l : List α) : gTo f c q l 0 = l := rfl
theorem gAt_zero (q : Int) (l : List α) : gAt c q l 0 = q := by simp [gAt, gC]
theorem gTo_end (q : Int) (l : List α) : gTo f c q l l.length = gMk f c q l := by unfold gTo; rw [List.take_length, List.drop_length, List.append_nil]
theorem gAt_end (q : Int) (l : List α) : gAt c q l l.length = q + (gC c l : Int) := by unfold gAt; rw [List.take_length]
theorem gTo_len {q : Int} {l : List α} {k : Nat} (hk : k ≤ l.length) : (gTo f c q l k).length = l.length := by unfold gTo; rw [List.length_append, gMk_len, List.length_drop, List.length_take]; omega
theorem gH_len {q : Int} {l : List α} {k : Nat} {y : α} (hk : k < l.length) : (gH f c q l k y).length = l.length := by unfold gH; rw [List.length_append, gMk_len, List.length_cons, List.length_drop, List.length_take]; omega
theorem gTo_get {q : Int} {l : List α} {k : Nat} {x : α} (hx : l[k]? = some x) : (gTo f c q l k)[k]? = some x := by
  have hk := (List.getElem?_eq_some_iff.1 hx).1
  unfold gTo
  rw [List.getElem?_append_right (by rw [gMk_len, List.length_take]; omega), gMk_len, List.length_take, Nat.min_eq_left (by omega), Nat.sub_self, List.getElem?_drop]
  exact hx
theorem gH_get {q : Int} {l : List α} {k : Nat} {y : α} (hk : k < l.length) : (gH f c q l k y)[k]? = some y := by
  unfold gH
  rw [List.getElem?_append_right (by rw [gMk_len, List.length_take]; omega), gMk_len, List.length_take, Nat.min_eq_left (by omega), Nat.sub_self]
  rfl
theorem gTo_set {q : Int} {l : List α} {k : Nat} {y : α} (hk : k < l.length) : (gTo f c q l k).set k y = gH f c q l k y := by
  unfold gTo gH
  rw [List.set_append_right _ _ (by rw [gMk_len, List.length_take]; omega), gMk_len, List.length_take, Nat.min_eq_left (by omega), Nat.sub_self, List.drop_eq_getElem_cons hk]
  rfl
theorem gH_set {q : Int} {l : List α} {k : Nat} {y z : α} (hk : k < l.length) : (gH f c q l k y).set k z = gH f c q l k z := by
  unfold gH
  rw [List.set_append_right _ _ (by rw [gMk_len, List.length_take]; omega), gMk_len, List.length_take, Nat.min_eq_left (by omega), Nat.sub_self]
  rfl
theorem gH_end {q : Int} {l : List α} {k : Nat} {x : α} (hx : l[k]? = some x) : gH f c q l k (f (gAt c q l k) x) = gTo f c q l (k + 1) := by
  unfold gTo gH
  rw [gMk_snoc hx, List.append_assoc]
  rfl
theorem gAt_succ {q : Int} {l : List α} {k : Nat} {x : α} (hx : l[k]? = some x) : gAt c q l (k + 1) = gAt c q l k + (c x : Int) := by unfold gAt; rw [gC_succ hx]; omega
end
end Go.Proofs.Yteinekbgnleohaa
