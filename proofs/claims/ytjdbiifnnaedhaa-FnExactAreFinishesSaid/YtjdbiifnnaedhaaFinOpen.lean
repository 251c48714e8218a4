/-
  A slice of finishes that came in, opened.
-/
import Derived.Test.YtjdbiifnnaedhaaOpen
import Derived.Test.YtjdbiifnnaedhaaFin
namespace Go.Proofs.Ytjdbiifnnaedhaa
open Go.ChangeShapes Go.WideShapes Go.ChangeAt Go.RowKit Go.Deep

section
variable {H : Type} {enc : TypeId × Value → H} {w : World} {base : Nat} {spare : Nat → Bool} {held : Bool}
theorem fin_elem : ∀ n cs y, DataW.trod enc Try.prog w base spare held n 64 cs = some y → ∃ x : Finish, cs = x.enc := by
  intro n cs y h
  obtain ⟨hl, hf⟩ := field_one Try.underlying64 (by kernel_rfl) (by kernel_rfl) h
  match cs, hl with
  | [c0, c1], _ =>
    obtain ⟨u0, m0, z0, e0, t0⟩ := hf 0 _ rfl
    obtain ⟨u1, m1, z1, e1, t1⟩ := hf 1 _ rfl
    obtain ⟨a, h0, _⟩ := DataW.trod_int Try.underlying3 t0
    obtain ⟨b, h1, _⟩ := DataW.trod_int Try.underlying3 t1
    simp at e0 e1 h0 h1
    subst e0 e1 h0 h1
    exact ⟨⟨a, b⟩, rfl⟩
theorem open_finS {fuel : Nat} {v : Value} {x : DataW H × List MemPlace} (h : DataW.trod enc Try.prog w base spare held fuel 22 [v] = some x) :
    ∃ (A : Option Addr) (c : Nat) (xs : List Finish), v = .slice A xs.length c ∧ RdS Finish.enc 2 w A xs ∧ xs.length ≤ maxLen :=
  open_rdS Try.underlying22 (by kernel_rfl) Finish.enc_len (by decide) fin_elem h
end
end Go.Proofs.Ytjdbiifnnaedhaa
