/-
  An insertion sort under a total order: plain words. No program is named here.
-/
import Derived.Test.YtkncdoodlggbcaaGreatLs
import Derived.Sort.Statements
namespace Go.Proofs.YtkncdoodlggbcaaGreat
open Go.RowKit

/-- a strict total order on those that satisfy S -/
structure TotOn {α : Type} (lt : α → α → Bool) (S : α → Prop) : Prop where
  asymm : ∀ {a b}, S a → S b → lt a b = true → lt b a = false
  trans : ∀ {a b c}, S a → S b → S c → lt a b = true → lt b c = true → lt a c = true
  total : ∀ {a b}, S a → S b → lt a b = false → lt b a = false → a = b
def insO {α : Type} (lt : α → α → Bool) (x : α) : List α → List α
  | [] => [x]
  | y :: ys => if lt y x = true then y :: insO lt x ys else x :: y :: ys
theorem insO_perm {α : Type} (lt : α → α → Bool) (x : α) : ∀ l : List α, (insO lt x l).Perm (x :: l)
  | [] => List.Perm.refl _
  | y :: ys => by
    unfold insO
    split
    · exact ((insO_perm lt x ys).cons y).trans (List.Perm.swap x y ys)
    · exact List.Perm.refl _
theorem insO_sorted {α : Type} {lt : α → α → Bool} {S : α → Prop} (hT : TotOn lt S) {x : α} (hx : S x) : ∀ {l : List α}, (∀ y ∈ l, S y) → (∀ y ∈ l, y ≠ x) → l.Pairwise (fun a b => lt a b = true) → (insO lt x l).Pairwise (fun a b => lt a b = true)
  | [], _, _, _ => by simp [insO]
  | y :: ys, hS, hne, hp => by
    have hy := hS y (by simp)
    have h1 := (List.pairwise_cons.1 hp).1
    have h2 := (List.pairwise_cons.1 hp).2
    unfold insO
    split
    · rename_i h
      refine List.pairwise_cons.2 ⟨fun z hz => ?_, insO_sorted hT hx (fun z hz => hS z (List.mem_cons_of_mem _ hz)) (fun z hz => hne z (List.mem_cons_of_mem _ hz)) h2⟩
      rcases List.mem_cons.1 ((insO_perm lt x ys).mem_iff.1 hz) with rfl | hz
      · exact h
      · exact h1 z hz
    · rename_i h
      have hxy : lt x y = true := by
        cases e : lt x y with
        | true => rfl
        | false => exact absurd (hT.total hy hx (by simpa using h) e) (hne y (by simp))
      refine List.pairwise_cons.2 ⟨fun z hz => ?_, hp⟩
      rcases List.mem_cons.1 hz with rfl | hz'
      · exact hxy
      · exact hT.trans hx hy (hS z hz) hxy (h1 z hz')
theorem insO_at {α : Type} {lt : α → α → Bool} {S : α → Prop} (hT : TotOn lt S) {x : α} (hx : S x) : ∀ (l : List α) (k : Nat), (∀ y ∈ l, S y) → l.Pairwise (fun a b => lt a b = true) → k ≤ l.length → (∀ j y, k ≤ j → l[j]? = some y → lt y x = false) → (∀ y, 0 < k → l[k - 1]? = some y → lt y x = true) → insO lt x l = l.take k ++ x :: l.drop k
  | [], k, _, _, hk, _, _ => by
    have : k = 0 := by simpa using hk
    subst this
    rfl
  | y :: ys, 0, _, _, _, h1, _ => by
    unfold insO
    rw [if_neg (by rw [h1 0 y (by omega) rfl]; simp)]
    rfl
  | y :: ys, k + 1, hS, hp, hk, h1, h2 => by
    have hp1 := (List.pairwise_cons.1 hp).1
    have hp2 := (List.pairwise_cons.1 hp).2
    have hyx : lt y x = true := by
      cases k with
      | zero => exact h2 y (by omega) rfl
      | succ k =>
        have hlt : k < ys.length := by simp at hk; omega
        have hz := List.getElem?_eq_getElem hlt
        have h3 := h2 ys[k] (by omega) (by simp)
        exact hT.trans (hS y (by simp)) (hS _ (List.mem_cons_of_mem _ (List.mem_of_getElem? hz))) hx (hp1 _ (List.mem_of_getElem? hz)) h3
    unfold insO
    rw [if_pos hyx, insO_at hT hx ys k (fun z hz => hS z (List.mem_cons_of_mem _ hz)) hp2 (by simpa using hk) (fun j z hj hz => h1 (j + 1) z (by omega) (by simpa using hz)) (fun z hk0 hz => h2 z (by omega) (by rw [show k + 1 - 1 = (k - 1) + 1 by omega, List.getElem?_cons_succ]; exact hz))]
    rfl
/-- those of a list inserted one by one -/
def ordO {α : Type} (lt : α → α → Bool) : List α → List α
  | [] => []
  | x :: xs => insO lt x (ordO lt xs)
theorem sorted_one {α : Type} {lt : α → α → Bool} {S : α → Prop} (hT : TotOn lt S) {xs ys : List α} (hS : ∀ x ∈ xs, S x) (hp : xs.Perm ys) (h1 : xs.Pairwise (fun a b => lt a b = true)) (h2 : ys.Pairwise (fun a b => lt a b = true)) : xs = ys :=
  List.Perm.eq_of_pairwise (le := fun a b => lt a b = true) (fun a b ha hb h3 h4 => by rw [hT.asymm (hS a ha) (hS b (hp.mem_iff.2 hb)) h3] at h4; cases h4) h1 h2 hp

end Go.Proofs.YtkncdoodlggbcaaGreat
