/-
  Results: what the laws use of their sizes.
-/
import Derived.Test.YtnjmnehnpjldpaaRsO
import Derived.Test.YtnjmnehnpjldpaaRk3
namespace Go.Proofs.Ytnjmnehnpjldpaa
open Go.RowKit

theorem cntR_mem {l : List ResultD} {r : ResultD} (h : r ∈ l) : r.scores.length ≤ cntR l := by
  induction l with
  | nil => cases h
  | cons y l ih =>
    have e : cntR (y :: l) = y.scores.length + cntR l := by unfold cntR; simp
    rcases List.mem_cons.1 h with h | h
    · subst h; omega
    · have := ih h; omega
theorem rs_le {l : List ResultD} (hs : ∀ r ∈ l, r.scores.length ≤ maxLen) : ∀ r ∈ l, r.scores.length ≤ 9223372036854775807 := fun r hr => by have := hs r hr; unfold maxLen at this; omega
end Go.Proofs.Ytnjmnehnpjldpaa
