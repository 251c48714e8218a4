/-
  A slice of notes that came in, opened.
-/
import Derived.Test.YtjcheccngombkaaOpen
import Derived.Test.YtjcheccngombkaaNoteS
namespace Go.Proofs.Ytjcheccngombkaa
open Go.ChangeShapes Go.WideShapes Go.ChangeAt Go.RowKit Go.Deep

section
variable {H : Type} {enc : TypeId × Value → H} {w : World} {base : Nat} {spare : Nat → Bool} {held : Bool}
theorem note_elem : ∀ n cs y, DataW.trod enc Try.prog w base spare held n 79 cs = some y → ∃ x : NoteD, cs = x.enc := by
  intro n cs y h
  obtain ⟨hl, hf⟩ := field_one Try.underlying79 (by kernel_rfl) (by kernel_rfl) h
  match cs, hl with
  | [c0, c1, c2], _ =>
    obtain ⟨u0, m0, z0, e0, t0⟩ := hf 0 _ rfl
    obtain ⟨u1, m1, z1, e1, t1⟩ := hf 1 _ rfl
    obtain ⟨u2, m2, z2, e2, t2⟩ := hf 2 _ rfl
    obtain ⟨a0, h0, _⟩ := DataW.trod_int Try.underlying3 t0
    obtain ⟨a1, h1, _⟩ := DataW.trod_int Try.underlying3 t1
    obtain ⟨a2, h2, _⟩ := DataW.trod_int Try.underlying3 t2
    simp at e0 e1 e2 h0 h1 h2
    subst e0 e1 e2 h0 h1 h2
    exact ⟨⟨a0, a1, a2⟩, rfl⟩
theorem open_noteS {fuel : Nat} {v : Value} {x : DataW H × List MemPlace} (h : DataW.trod enc Try.prog w base spare held fuel 40 [v] = some x) :
    ∃ (A : Option Addr) (c : Nat) (xs : List NoteD), v = .slice A xs.length c ∧ RdS NoteD.enc 3 w A xs ∧ xs.length ≤ maxLen :=
  open_rdS Try.underlying40 (by kernel_rfl) NoteD.enc_len (by decide) note_elem h
end
end Go.Proofs.Ytjcheccngombkaa
