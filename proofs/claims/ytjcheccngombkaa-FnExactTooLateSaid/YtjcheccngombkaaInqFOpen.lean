/-
  A slice of inquiries that came in, opened.
-/
import Derived.Test.YtjcheccngombkaaOpen
import Derived.Test.YtjcheccngombkaaInqF
namespace Go.Proofs.Ytjcheccngombkaa
open Go.ChangeShapes Go.WideShapes Go.ChangeAt Go.RowKit Go.Deep

section
variable {H : Type} {enc : TypeId × Value → H} {w : World} {base : Nat} {spare : Nat → Bool} {held : Bool}
theorem inquiry_elem : ∀ n cs y, DataW.trod enc Try.prog w base spare held n 69 cs = some y → ∃ x : InquiryD, cs = x.enc := by
  intro n cs y h
  obtain ⟨hl, hf⟩ := field_one Try.underlying69 (by kernel_rfl) (by kernel_rfl) h
  match cs, hl with
  | [c0, c1, c2, c3, c4], _ =>
    obtain ⟨u0, m0, z0, e0, t0⟩ := hf 0 _ rfl
    obtain ⟨u1, m1, z1, e1, t1⟩ := hf 1 _ rfl
    obtain ⟨u2, m2, z2, e2, t2⟩ := hf 2 _ rfl
    obtain ⟨u3, m3, z3, e3, t3⟩ := hf 3 _ rfl
    obtain ⟨u4, m4, z4, e4, t4⟩ := hf 4 _ rfl
    obtain ⟨a0, h0, _⟩ := DataW.trod_int Try.underlying3 t0
    obtain ⟨a1, h1, _⟩ := DataW.trod_int Try.underlying3 t1
    obtain ⟨a2, h2, _⟩ := DataW.trod_int Try.underlying3 t2
    obtain ⟨a3, h3, _⟩ := DataW.trod_int Try.underlying3 t3
    obtain ⟨a4, h4, _⟩ := DataW.trod_bool Try.underlying4 t4
    simp at e0 e1 e2 e3 e4 h0 h1 h2 h3 h4
    subst e0 e1 e2 e3 e4 h0 h1 h2 h3 h4
    exact ⟨⟨a0, a1, a2, a3, a4⟩, rfl⟩
theorem open_inquiryS {fuel : Nat} {v : Value} {x : DataW H × List MemPlace} (h : DataW.trod enc Try.prog w base spare held fuel 22 [v] = some x) :
    ∃ (A : Option Addr) (c : Nat) (xs : List InquiryD), v = .slice A xs.length c ∧ RdS InquiryD.enc 5 w A xs ∧ xs.length ≤ maxLen :=
  open_rdS Try.underlying22 (by kernel_rfl) InquiryD.enc_len (by decide) inquiry_elem h
end
end Go.Proofs.Ytjcheccngombkaa
