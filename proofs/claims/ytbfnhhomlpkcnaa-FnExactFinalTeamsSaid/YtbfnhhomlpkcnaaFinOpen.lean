/-
  A slice of finishes that came in, opened.
-/
import Derived.Test.YtbfnhhomlpkcnaaOpen
import Derived.Test.YtbfnhhomlpkcnaaFin
namespace Go.Proofs.Ytbfnhhomlpkcnaa
open Go.ChangeShapes Go.WideShapes Go.ChangeAt Go.RowKit Go.Deep

section
variable {H : Type} {enc : TypeId × Value → H} {w : World} {base : Nat} {spare : Nat → Bool} {held : Bool}
theorem finish_elem : ∀ n cs y, DataW.trod enc Try.prog w base spare held n 64 cs = some y → ∃ x : FinishD, cs = x.enc := by
  intro n cs y h
  obtain ⟨hl, hf⟩ := field_one Try.underlying64 (by kernel_rfl) (by kernel_rfl) h
  match cs, hl with
  | [c0, c1], _ =>
    obtain ⟨u0, m0, z0, e0, t0⟩ := hf 0 _ rfl
    obtain ⟨u1, m1, z1, e1, t1⟩ := hf 1 _ rfl
    obtain ⟨a0, h0, _⟩ := DataW.trod_int Try.underlying3 t0
    obtain ⟨a1, h1, _⟩ := DataW.trod_int Try.underlying3 t1
    simp at e0 e1 h0 h1
    subst e0 e1 h0 h1
    exact ⟨⟨a0, a1⟩, rfl⟩
theorem open_finishS {fuel : Nat} {v : Value} {x : DataW H × List MemPlace} (h : DataW.trod enc Try.prog w base spare held fuel 22 [v] = some x) :
    ∃ (A : Option Addr) (c : Nat) (xs : List FinishD), v = .slice A xs.length c ∧ RdS FinishD.enc 2 w A xs ∧ xs.length ≤ maxLen :=
  open_rdS Try.underlying22 (by kernel_rfl) FinishD.enc_len (by decide) finish_elem h
end
section
variable {H : Type} {enc : TypeId × Value → H} {w : World} {base : Nat} {spare : Nat → Bool} {held : Bool}
theorem open_finishSS {fuel : Nat} {v : Value} {x : DataW H × List MemPlace} (h : DataW.trod enc Try.prog w base spare held fuel 29 [v] = some x) :
    ∃ (A : Option Addr) (c : Nat) (xss : List (List FinishD)), v = .slice A xss.length c ∧ RdL FinishD.enc 2 w A xss ∧ xss.length ≤ maxLen ∧ ∀ xs ∈ xss, xs.length ≤ maxLen :=
  open_rdL Try.underlying29 (by kernel_rfl) (fun _ _ _ h => open_finishS h) h
end
end Go.Proofs.Ytbfnhhomlpkcnaa
