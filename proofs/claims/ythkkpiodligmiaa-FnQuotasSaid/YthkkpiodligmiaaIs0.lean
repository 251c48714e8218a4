/-
  Lists of numbers: what the laws' helpers give (szIntS, eqIntS, toIntS, markIntS, heldIntS), in the abstract machine; lists of numbers opened as arguments.
-/
import Derived.Test.YthkkpiodligmiaaWi
import Derived.Test.YthkkpiodligmiaaDp
import Derived.Test.YthkkpiodligmiaaMf
namespace Go.Proofs.Ythkkpiodligmiaa
open Go.ChangeShapes Go.WideShapes Go.ChangeAt Go.RowKit Go.Deep

theorem sc_datI {xs : List Int} {e : List D} (he : e ∈ xs.map datI) {d : D} (hd : d ∈ e) : d.sc := by
  obtain ⟨x, _, rfl⟩ := List.mem_map.1 he
  rw [show datI x = [.int .i64 x] from rfl, List.mem_singleton] at hd
  subst hd
  simp [D.sc]
theorem flatE_datI (xs : List Int) : flatE (xs.map datI) := fun _ he _ hd => sc_datI he hd
/-- a row that is filled up to a place -/
def fillTo {α : Type} (z : α) (xs : List α) (k : Nat) : List α := xs.take k ++ List.replicate (xs.length - k) z
theorem fillTo_len {α : Type} (z : α) (xs : List α) (k : Nat) (hk : k ≤ xs.length) : (fillTo z xs k).length = xs.length := by unfold fillTo; simp; omega
theorem fillTo_zero {α : Type} (z : α) (xs : List α) : fillTo z xs 0 = List.replicate xs.length z := by unfold fillTo; simp
theorem fillTo_end {α : Type} (z : α) (xs : List α) : fillTo z xs xs.length = xs := by unfold fillTo; simp
theorem fillTo_get {α : Type} (z : α) {xs : List α} {k : Nat} (hk : k < xs.length) : (fillTo z xs k)[k]? = some z := by
  unfold fillTo
  have hl : (xs.take k).length = k := by simp; omega
  rw [List.getElem?_append_right (by omega), hl, Nat.sub_self, List.getElem?_replicate, if_pos (by omega)]
theorem fillTo_set {α : Type} (z : α) {xs : List α} {k : Nat} {x : α} (hx : xs[k]? = some x) : (fillTo z xs k).set k x = fillTo z xs (k + 1) := by
  have hk := (List.getElem?_eq_some_iff.1 hx).1
  have hl : (xs.take k).length = k := by simp; omega
  unfold fillTo
  rw [take_snoc hx, show xs.length - k = (xs.length - (k + 1)) + 1 by omega, List.replicate_succ, List.append_assoc, List.set_append_right _ _ (by omega), hl, Nat.sub_self]
  rfl
/-- the numbers from k on -/
def mkI (k : Int) (n : Nat) : List Int := (List.range n).map fun i : Nat => k + (i : Int)
theorem mkI_len (k : Int) (n : Nat) : (mkI k n).length = n := by simp [mkI]
theorem mkI_get {k : Int} {n i : Nat} (h : i < n) : (mkI k n)[i]? = some (k + (i : Int)) := by unfold mkI; rw [List.getElem?_map, List.getElem?_range h]; rfl
theorem mkI_succ (k : Int) (n : Nat) : mkI k (n + 1) = mkI k n ++ [k + (n : Int)] := by unfold mkI; rw [List.range_succ]; simp
/-- the first k of them marked -/
def mkTo (q : Int) (xs : List Int) (k : Nat) : List Int := mkI q k ++ xs.drop k
theorem mkTo_zero (q : Int) (xs : List Int) : mkTo q xs 0 = xs := rfl
theorem mkTo_end (q : Int) (xs : List Int) : mkTo q xs xs.length = mkI q xs.length := by unfold mkTo; rw [List.drop_length, List.append_nil]
theorem mkTo_len {q : Int} {xs : List Int} {k : Nat} (hk : k ≤ xs.length) : (mkTo q xs k).length = xs.length := by unfold mkTo; rw [List.length_append, mkI_len, List.length_drop]; omega
theorem mkTo_get {q : Int} {xs : List Int} {k : Nat} (hk : k < xs.length) : (mkTo q xs k)[k]? = some (xs[k]) := by unfold mkTo; rw [List.getElem?_append_right (by rw [mkI_len]; exact Nat.le_refl _), mkI_len, Nat.sub_self, List.getElem?_drop]; simp
theorem mkTo_set {k : Int} {i : Nat} {xs : List Int} (h : i < xs.length) : (mkTo k xs i).set i (k + (i : Int)) = mkTo k xs (i + 1) := by
  unfold mkTo
  rw [List.set_append_right _ _ (by rw [mkI_len]; exact Nat.le_refl _), mkI_len, Nat.sub_self, mkI_succ, List.append_assoc, List.drop_eq_getElem_cons h]
  rfl
section
variable {H : Type} {enc : TypeId × Value → H} {w : World} {base : Nat} {spare : Nat → Bool} {held : Bool}
set_option maxRecDepth 100000 in
theorem open_intS0 : OpenK enc Try.prog w base spare held (datL 1 datI) (fun xs => xs.length ≤ maxLen ∧ ∀ x ∈ xs, True) 25 1 :=
  OpenK.slc (OpenK.int Try.underlying3) Try.underlying25 (by kernel_rfl) (by decide)
end
end Go.Proofs.Ythkkpiodligmiaa
