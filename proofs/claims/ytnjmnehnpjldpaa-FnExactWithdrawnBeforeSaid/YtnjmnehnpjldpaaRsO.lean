/-
  Results opened as arguments.
-/
import Derived.Test.YtnjmnehnpjldpaaMw
import Derived.Test.YtnjmnehnpjldpaaRsT
namespace Go.Proofs.Ytnjmnehnpjldpaa
open Go.ChangeShapes Go.WideShapes Go.ChangeAt Go.RowKit Go.Deep

section
variable {H : Type} {enc : TypeId × Value → H} {w : World} {base : Nat} {spare : Nat → Bool} {held : Bool}
set_option maxRecDepth 100000 in
theorem open_intS : OpenK enc Try.prog w base spare held (datL 1 datI) (fun xs => xs.length ≤ maxLen ∧ ∀ x ∈ xs, True) 37 1 :=
  OpenK.slc (OpenK.int Try.underlying3) Try.underlying37 (by kernel_rfl) (by decide)
set_option maxRecDepth 100000 in
theorem open_result : OpenK enc Try.prog w base spare held ResultD.dat (fun r => r.scores.length ≤ maxLen) 60 2 :=
  OpenK.map (OpenK.st (OpenFs.cons (OpenK.int Try.underlying3) rfl (by kernel_rfl) (OpenFs.cons open_intS rfl (by kernel_rfl) (OpenFs.nil 2))) Try.underlying60 (by kernel_rfl))
    (fun p => (⟨p.1, p.2.1⟩ : ResultD)) ResultD.dat _ (fun _ => rfl) (fun _ => rfl) (fun _ h => h.2.1.1)
set_option maxRecDepth 100000 in
theorem open_resultS : OpenK enc Try.prog w base spare held (datL 2 ResultD.dat) (fun xs => xs.length ≤ maxLen ∧ ∀ r ∈ xs, r.scores.length ≤ maxLen) 22 1 :=
  OpenK.slc open_result Try.underlying22 (by kernel_rfl) (by decide)
end
end Go.Proofs.Ytnjmnehnpjldpaa
