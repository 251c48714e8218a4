/-
  Rows of results that the call makes.
-/
import Derived.Test.YthkkpiodligmiaaRk
import Derived.Test.YthkkpiodligmiaaMf
namespace Go.Proofs.Ythkkpiodligmiaa
open Go.RowKit

/-- the row of the first k: it owns its parts once there is one -/
def ownB (l : List ResultD) (k : Nat) : Blk := if k = 0 then .row 29 2 [] else .deep 0 29 2 ((l.take k).map ResultD.dat)
theorem ownB_zero (l : List ResultD) : ownB l 0 = .row 29 2 [] := rfl
theorem ownB_pos {l : List ResultD} {k : Nat} (h : 0 < k) : ownB l k = .deep 0 29 2 ((l.take k).map ResultD.dat) := by unfold ownB; rw [if_neg (by omega)]
theorem ownB_ren (σ : List (Nat × Nat)) (l : List ResultD) (k : Nat) : renB σ (ownB l k) = ownB l k := by unfold ownB; split <;> rfl
theorem ownB_bd (nx : Nat) (l : List ResultD) (k : Nat) : bdB nx (ownB l k) = true := by unfold ownB; split <;> rfl
theorem ownB_z {l : List ResultD} {k : Nat} (h : k = 0) : ownB l k = .row 29 2 [] := by unfold ownB; rw [if_pos h]
end Go.Proofs.Ythkkpiodligmiaa
