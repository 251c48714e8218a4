/-
  Plain facts on set scores and needed scores. No program is named here.
-/
import Derived.Test.YthkkpiodligmiaaRn
import Derived.Test.YthkkpiodligmiaaRp
namespace Go.Proofs.Ythkkpiodligmiaa
open Go.RowKit

theorem leastW_inv {l : List ResultD} {i s : Nat} {p n : Int} (h : leastW l i s p = some n) : ∃ m : Nat, n = (m : Int) ∧ m ≤ 100000 ∧ plW l i s (m : Int) ≤ p ∧ ∀ v : Nat, v < m → p < plW l i s (v : Int) := by
  unfold leastW at h
  cases e : (List.range 100001).find? (fun v : Nat => decide (plW l i s (v : Int) ≤ p)) with
  | none => rw [e] at h; cases h
  | some m =>
    rw [e] at h
    obtain rfl := Option.some.inj h
    rw [List.find?_range_eq_some] at e
    obtain ⟨h1, h2, h3⟩ := e
    rw [List.mem_range] at h2
    refine ⟨m, rfl, by omega, by simpa using h1, fun v hv => by simpa using h3 v hv⟩
theorem AskR.nat {l : List ResultD} {i s : Int} (h : AskR l i s) : ∃ (a b : Nat), i = (a : Int) ∧ s = (b : Int) ∧ a < l.length ∧ b < len0 l := ⟨i.toNat, s.toNat, by have := h.1.2.1; omega, by have := h.2.2.2.1; omega, by have := h.1.2; omega, by have := h.2.2.2; omega⟩
theorem needed_facts (l : List ResultD) (i s p : Int) : (0 ≤ (ansNeededFor l i s p).getD 0 ∧ (ansNeededFor l i s p).getD 0 ≤ 100000) ∧ ((ansNeededFor l i s p).isSome = true → AskR l i s ∧ ∃ n : Nat, (ansNeededFor l i s p).getD 0 = (n : Int) ∧ SetOk l i s (n : Int) ∧ plW l i.toNat s.toNat (n : Int) ≤ p ∧ (n ≠ 0 → SetOk l i s ((n : Int) - 1) ∧ p < plW l i.toNat s.toNat ((n : Int) - 1))) := by
  by_cases h : NeedV l i s p
  · rw [show ansNeededFor l i s p = _ from if_pos (bP_true h)]
    cases e : leastW l i.toNat s.toNat p with
    | none => exact ⟨by simp, fun h' => by cases h'⟩
    | some n =>
      obtain ⟨m, rfl, hm, h1, h2⟩ := leastW_inv e
      obtain ⟨x, hx, hs⟩ := h.1.at_
      refine ⟨⟨by simp, by simp; omega⟩, fun _ => ⟨h.1, m, rfl, ⟨h.1, ws_sign hx hs (Int.le_refl _) (by omega) (by omega) h.2.2⟩, h1, fun hz => ⟨⟨h.1, ws_sign hx hs (Int.le_refl _) (by omega) (by omega) h.2.2⟩, ?_⟩⟩⟩
      have := h2 (m - 1) (by omega)
      rwa [show ((m - 1 : Nat) : Int) = (m : Int) - 1 by omega] at this
  · rw [show ansNeededFor l i s p = none from if_neg (by rw [bP_false h]; simp)]; exact ⟨by simp, fun h' => by cases h'⟩
theorem setOk_places {l : List ResultD} {i s v : Int} (h : SetOk l i s v) : (plcL (wsD l i.toNat s.toNat v) (wsD l i.toNat s.toNat v).length)[i.toNat]? = some (plW l i.toNat s.toNat v) := by
  obtain ⟨x, hx, _⟩ := h.1.at_
  rw [plcL_get (wsD_at hx), plW_of hx]
end Go.Proofs.Ythkkpiodligmiaa
