/-
  Plain facts on set scores and needed scores. No program is named here.
-/
import Derived.Test.YthkkpiodligmiaaRn
import Derived.Test.YthkkpiodligmiaaRp
namespace Go.Proofs.Ythkkpiodligmiaa
open Go.RowKit

theorem leastW_inv {l : List ResultD} {i s : Nat} {p n : Int} (h : leastW l i s p = some n) : ∃ m : Nat, n = (m : Int) ∧ m ≤ 100000 ∧ plW l i s (m : Int) ≤ p ∧ ∀ v : Nat, v < m → p < plW l i s (v : Int) := by
  unfold leastW at h
  cases e : (List.range 100001).find? (fun v : Nat => decide (plW l i s (v : Int) ≤ p)) with
  | none => rw [e] at h; cases h
  | some m =>
    rw [e] at h
    obtain rfl := Option.some.inj h
    rw [List.find?_range_eq_some] at e
    obtain ⟨h1, h2, h3⟩ := e
    rw [List.mem_range] at h2
    refine ⟨m, rfl, by omega, by simpa using h1, fun v hv => by simpa using h3 v hv⟩
theorem wsD_bad {l : List ResultD} {i s : Nat} {v w : Int} : wsD (wsD l i s v) i s w = wsD l i s w := by
  cases hx : l[i]? with
  | none => unfold wsD; simp only [hx]
  | some x =>
    rw [wsD_of (wsD_at hx), wsD_of hx, wsD_of hx, List.set_set]
    simp [wsR]
theorem wsD_same {l : List ResultD} {i s : Nat} {x : ResultD} {y : Int} (hx : l[i]? = some x) (hy : x.scores[s]? = some y) : wsD l i s y = l := by
  rw [wsD_of hx]
  have e1 : x.scores.set s y = x.scores := by
    apply List.ext_getElem?
    intro k
    by_cases h : k = s
    · subst h; rw [List.getElem?_set_self (List.getElem?_eq_some_iff.1 hy).1, hy]
    · rw [List.getElem?_set_ne (fun e => h e.symm)]
  have e2 : wsR x s y = x := by unfold wsR; rw [e1]
  rw [e2]
  apply List.ext_getElem?
  intro k
  by_cases h : k = i
  · subst h; rw [List.getElem?_set_self (List.getElem?_eq_some_iff.1 hx).1, hx]
  · rw [List.getElem?_set_ne (fun e => h e.symm)]
theorem AskR.nat {l : List ResultD} {i s : Int} (h : AskR l i s) : ∃ (a b : Nat), i = (a : Int) ∧ s = (b : Int) ∧ a < l.length ∧ b < len0 l := ⟨i.toNat, s.toNat, by have := h.1.2.1; omega, by have := h.2.2.2.1; omega, by have := h.1.2; omega, by have := h.2.2.2; omega⟩
theorem SetOk.back {l : List ResultD} {i s v : Int} (h : SetOk l i s v) {x : ResultD} {y : Int} (hx : l[i.toNat]? = some x) (hy : x.scores[s.toNat]? = some y) : SetOk (wsD l i.toNat s.toNat v) i s y ∧ wsD (wsD l i.toNat s.toNat v) i.toNat s.toNat y = l := by
  have e := wsD_same hx hy
  refine ⟨⟨⟨⟨h.2, h.1.1.2.1, by rw [wsD_len]; exact h.1.1.2.2⟩, h.2, by rw [wsD_len]; exact h.1.2.2.1, h.1.2.2.2.1, by rw [wsD_len0]; exact h.1.2.2.2.2⟩, ?_⟩, ?_⟩
  · rw [wsD_bad, e]; exact h.1.1.1
  · rw [wsD_bad, e]
theorem needed_facts (l : List ResultD) (i s p : Int) : (0 ≤ (ansNeededFor l i s p).getD 0 ∧ (ansNeededFor l i s p).getD 0 ≤ 100000) ∧ ((ansNeededFor l i s p).isSome = true → AskR l i s ∧ ∃ n : Nat, (ansNeededFor l i s p).getD 0 = (n : Int) ∧ SetOk l i s (n : Int) ∧ plW l i.toNat s.toNat (n : Int) ≤ p ∧ (n ≠ 0 → SetOk l i s ((n : Int) - 1) ∧ p < plW l i.toNat s.toNat ((n : Int) - 1))) := by
  by_cases h : NeedV l i s p
  · rw [show ansNeededFor l i s p = _ from if_pos (bP_true h)]
    cases e : leastW l i.toNat s.toNat p with
    | none => exact ⟨by simp, fun h' => by cases h'⟩
    | some n =>
      obtain ⟨m, rfl, hm, h1, h2⟩ := leastW_inv e
      obtain ⟨x, hx, hs⟩ := h.1.at_
      refine ⟨⟨by simp, by simp; omega⟩, fun _ => ⟨h.1, m, rfl, ⟨h.1, ws_sign hx hs (Int.le_refl _) (by omega) (by omega) h.2.2⟩, h1, fun hz => ⟨⟨h.1, ws_sign hx hs (Int.le_refl _) (by omega) (by omega) h.2.2⟩, ?_⟩⟩⟩
      have := h2 (m - 1) (by omega)
      rwa [show ((m - 1 : Nat) : Int) = (m : Int) - 1 by omega] at this
  · rw [show ansNeededFor l i s p = none from if_neg (by rw [bP_false h]; simp)]; exact ⟨by simp, fun h' => by cases h'⟩
theorem setOk_places {l : List ResultD} {i s v : Int} (h : SetOk l i s v) : (plcL (wsD l i.toNat s.toNat v) (wsD l i.toNat s.toNat v).length)[i.toNat]? = some (plW l i.toNat s.toNat v) := by
  obtain ⟨x, hx, _⟩ := h.1.at_
  rw [plcL_get (wsD_at hx), plW_of hx]
end Go.Proofs.Ythkkpiodligmiaa
