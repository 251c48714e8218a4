/-
  The abstract machine: slices.Max of plain numbers.
-/
import Derived.Test.YtldcnlhfanbdfaaShelf
import Derived.Test.YtldcnlhfanbdfaaBr
namespace Go.Proofs.Ytldcnlhfanbdfaa
open Go.RowKit

theorem max_ok (xs : List Int) (h0 : 0 < xs.length) (hn : xs.length ≤ 16777216) : FnEq Try.prog 56 [.d (.lst 1 (xs.map datI))] [.d (.int .i64 (Lib.maxOf xs))] := by
  refine ⟨⟨_, Try.func56, rfl, rfl⟩, fun w X vals hX hl hr => ?_⟩
  have hl1 : vals.size = 1 := hl
  have hv : vals[0]? = some vals[0] := by simp
  have h1 := hr 0 _ _ rfl hv
  generalize vals[0] = v at hv h1
  obtain rfl : vals = #[v] := by
    apply Array.ext
    · simpa using hl1
    · intro i hi hi'
      have : i = 0 := by simp at hi'; omega
      subst this
      rw [Array.getElem?_eq_getElem hi] at hv
      simpa using hv
  have h2 : Rd w X (.lst 1 (xs.map datI)) v := by cases h1; assumption
  generalize he : xs.map datI = es at h2
  cases h2 with
  | nil => simp at he; subst he; simp at h0
  | lst _ _ b off c hcap hsz hc hrr =>
    have hlen : es.length = xs.length := by rw [← he]; simp
    have hcell : ∀ j, j < xs.length → w.cell? ⟨b, off + j, none⟩ = some (.int .i64 (xs.getD j 0)) := by
      intro j hj
      have hx := List.getElem?_eq_getElem hj
      generalize xs[j] = x at hx
      have hg : es[j]? = some [.int .i64 x] := by rw [← he, List.getElem?_map, hx]; rfl
      obtain ⟨_, u, hu⟩ := hc j _ 0 _ hg rfl
      have hu2 := hrr j _ 0 _ u hg rfl hu
      simp only [Nat.mul_one, Nat.add_zero] at hu
      rw [hu, List.getD_eq_getElem?_getD, hx]
      cases hu2
      rfl
    rw [hlen]
    refine (Try.slices_Max_int b off xs.length c xs w h0 (Nat.le_refl _) (by omega) hcell).mono fun e w' ⟨he', hw⟩ => ?_
    subst hw
    rw [List.take_length] at he'
    refine ⟨_, rfl, #[.int .i64 (Lib.maxOf xs)], fun _ _ => False, he', rfl, Bel.refl _ _, fun _ _ _ h _ => h.elim, fun i r u h3 h4 => ?_⟩
    match i with
    | 0 => simp at h3 h4; subst h3 h4; exact .d _ _ (.int _ _)
    | i + 1 => simp at h3
theorem foldl_max_le : ∀ (zs : List Int) (a r : Int), zs.foldl max a ≤ r ↔ a ≤ r ∧ ∀ z ∈ zs, z ≤ r
  | [], a, r => by simp
  | z :: zs, a, r => by
    rw [List.foldl_cons, foldl_max_le zs]
    constructor
    · rintro ⟨h1, h2⟩
      exact ⟨by omega, fun y hy => by rcases List.mem_cons.1 hy with rfl | hy; omega; exact h2 y hy⟩
    · rintro ⟨h1, h2⟩
      have := h2 z (by simp)
      exact ⟨by omega, fun y hy => h2 y (List.mem_cons_of_mem _ hy)⟩
theorem maxOf_le {zs : List Int} (h0 : 0 < zs.length) (r : Int) : Lib.maxOf zs ≤ r ↔ ∀ z ∈ zs, z ≤ r := by
  unfold Lib.maxOf
  rw [foldl_max_le]
  constructor
  · exact fun h => h.2
  · intro h
    refine ⟨?_, h⟩
    cases zs with
    | nil => simp at h0
    | cons z zs => exact h z (by simp)
end Go.Proofs.Ytldcnlhfanbdfaa
