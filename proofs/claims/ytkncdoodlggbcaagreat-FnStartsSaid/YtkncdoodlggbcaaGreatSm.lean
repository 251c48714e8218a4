/-
  The abstract machine: slices.Sort, as a function that changes the row given to it (an ordinary row, a deep one, or a list in a cell of one).
-/
import Derived.Test.YtkncdoodlggbcaaGreatShelf
import Derived.Test.YtkncdoodlggbcaaGreatMf
import Derived.Test.YtkncdoodlggbcaaGreatBr
import Derived.Lib.OwnBridge
import Derived.Sort.OwnSortedInts
namespace Go.Proofs.YtkncdoodlggbcaaGreat
open Go.RowKit Go.Sort

def sortUp (xs : List Int) : List Int := xs.mergeSort fun x y => decide (x ≤ y)
theorem sortUp_len (xs : List Int) : (sortUp xs).length = xs.length := List.length_mergeSort _
theorem sortUp_perm (xs : List Int) : (sortUp xs).Perm xs := List.mergeSort_perm _ _
theorem sortUp_sorted (xs : List Int) : (sortUp xs).Pairwise (· ≤ ·) := by
  have h := List.pairwise_mergeSort (le := fun x y : Int => decide (x ≤ y)) (by simp; omega) (by simp; omega) xs
  exact h.imp (by simp)
theorem sortM_ok (xs : List Int) (hl : xs.length ≤ 16777216) : FnM Tryz.prog 65 1 (xs.map datI) [] ((sortUp xs).map datI) [] := by
  refine ⟨⟨_, Tryz.func65, rfl, rfl⟩, fun w ty l F v hlv hlt hdp => ?_⟩
  cases l with
  | nil =>
    obtain ⟨rfl, hn⟩ := hlv
    have hx : xs = [] := by simpa using hdp.1
    subst hx
    refine (Tryz.slices_Sort_int_none none 0 w).mono fun e w' ⟨he, hw⟩ => ?_
    subst hw
    exact ⟨he, KeepB.refl _ _, F, fun x hx => absurd hx (hdp.2 x), by simp [sortUp], hdp.2⟩
  | blk b c =>
    obtain ⟨rfl, hnc⟩ := hlv
    obtain ⟨h1, arr, h2, h3, h4, h5, h6, Fp, h7, h8, h9⟩ := hdp
    simp only [List.length_map] at hnc h4
    have hb : b < w.heap.size := hlt b (.inr ⟨c, rfl⟩)
    have hcell : ∀ (k : Nat) (x : Int), xs[k]? = some x → arr[k]? = some (.int .i64 x) := by
      intro k x hx
      have hk : k < xs.length := (List.getElem?_eq_some_iff.1 hx).1
      have hk2 : k < arr.size := by rw [h3]; omega
      have hv := Array.getElem?_eq_getElem hk2
      have := h9 k [.int .i64 x] 0 (.int .i64 x) arr[k] (by rw [List.getElem?_map, hx]; rfl) rfl (by simp)
      rw [hv]
      generalize arr[k] = u at this
      cases this
      rfl
    have hH : Holds (Value.int .i64) w b 0 xs.toArray := by
      intro j hj
      have hj' : j < xs.length := by simpa using hj
      have hx := List.getElem?_eq_getElem hj'
      have h10 := hcell j xs[j] hx
      refine ⟨?_, by simp [World.frozen?, h2]⟩
      simp only [World.cell?, h2, Nat.zero_add]
      simp [h10, hj']
    have hsl := sortUp_len xs
    rw [List.length_map]
    refine (Tryz.slices_Sort_int b 0 c xs w hH hb (by omega)).mono fun e w' ⟨he, q, os, hw⟩ => ?_
    subst hw
    have hheap : (grow (putRow (Value.int .i64) (Sort.ahead w q) b 0 (sortUp xs).toArray) os).heap[b]? = some (.cells (putCells (Value.int .i64) 0 (sortUp xs).toArray arr) ty (0, 0)) := by
      rw [heap_grow_old _ _ (by simpa [putRow, mapBlock, Sort.ahead] using hb)]
      simp only [putRow, mapBlock, Sort.ahead, Array.getElem?_modify, h2, if_true, Option.map_some, onCells]
    refine ⟨he, ⟨rfl, rfl, rfl, by simp [grow, putRow, mapBlock, Sort.ahead], fun k hk hn => ?_, Nat.le_add_right _ _⟩, F, fun x hx => ⟨.inl hx, Nat.lt_of_lt_of_le (hlt x (.inl hx)) (by simp [grow, putRow, mapBlock, Sort.ahead])⟩, h1, _, hheap, by rw [← h3]; simp [putCells], by simp only [List.length_map]; omega, h5, fun e he => ?_, fun _ _ _ => False, fun _ _ _ h => h.elim, fun _ _ _ _ _ h => h.elim, fun k e j d v he hd hv => ?_⟩
    · rw [heap_grow_old _ _ (by simpa [putRow, mapBlock, Sort.ahead] using hk)]
      have : b ≠ k := fun e => hn (.inr ⟨c, by rw [e]⟩)
      simp [putRow, mapBlock, Sort.ahead, Array.getElem?_modify, this]
    · obtain ⟨x, _, rfl⟩ := List.mem_map.1 he; rfl
    · rw [List.getElem?_map] at he
      cases hi : (sortUp xs)[k]? with
      | none => rw [hi] at he; cases he
      | some x =>
        rw [hi] at he
        have he' : datI x = e := Option.some.inj he
        subst he'
        have hk : k < (sortUp xs).length := (List.getElem?_eq_some_iff.1 hi).1
        have hj : j = 0 := by
          have := (List.getElem?_eq_some_iff.1 hd).1
          simp [datI] at this
          exact this
        subst hj
        simp [datI] at hd
        subst hd
        have hk2 : k < arr.size := by rw [h3]; omega
        have h11 : (putCells (Value.int .i64) 0 (sortUp xs).toArray arr)[k]? = some (.int .i64 x) := by
          simp only [putCells, Array.getElem?_mapIdx, Array.getElem?_eq_getElem hk2, Option.map_some]
          rw [if_pos ⟨Nat.zero_le _, by simp; omega⟩]
          simp [hk, (List.getElem?_eq_some_iff.1 hi).2]
        simp only [Nat.mul_one, Nat.add_zero] at hv
        rw [h11] at hv
        cases hv
        exact .int _ _ _
end Go.Proofs.YtkncdoodlggbcaaGreat
