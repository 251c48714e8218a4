/-
  A slice of ints that came in, opened.
-/
import Derived.Test.YtjcheccngombkaaOpen
import Derived.Test.YtjcheccngombkaaToI
namespace Go.Proofs.Ytjcheccngombkaa
open Go.ChangeShapes Go.WideShapes Go.ChangeAt Go.RowKit Go.Deep

section
variable {H : Type} {enc : TypeId × Value → H} {w : World} {base : Nat} {spare : Nat → Bool} {held : Bool}
theorem int_elem : ∀ n cs y, DataW.trod enc Try.prog w base spare held n 3 cs = some y → ∃ x : Int, cs = encI x := by
  intro n cs y h
  obtain ⟨a, h1, _⟩ := DataW.trod_int Try.underlying3 h
  exact ⟨a, h1⟩
theorem open_intS {fuel : Nat} {v : Value} {x : DataW H × List MemPlace} (h : DataW.trod enc Try.prog w base spare held fuel 30 [v] = some x) :
    ∃ (A : Option Addr) (c : Nat) (xs : List Int), v = .slice A xs.length c ∧ RdS encI 1 w A xs ∧ xs.length ≤ maxLen :=
  open_rdS Try.underlying30 (by kernel_rfl) encI_len (by decide) int_elem h
end
end Go.Proofs.Ytjcheccngombkaa
