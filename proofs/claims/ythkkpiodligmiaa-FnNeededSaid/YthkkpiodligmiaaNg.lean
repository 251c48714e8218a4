/-
  Plain facts on places in a segment and flips. No program is named here.
-/
import Derived.Test.YthkkpiodligmiaaRf
import Derived.Test.YthkkpiodligmiaaRq
namespace Go.Proofs.Ythkkpiodligmiaa
open Go.RowKit

theorem cn_lt {α : Type} {p : α → Bool} : ∀ {l : List α} {x : α}, x ∈ l → p x = false → cn p l < l.length := by
  intro l x hx hp
  unfold cn
  rcases Nat.lt_or_eq_of_le (List.countP_le_length (p := p) (l := l)) with h | h
  · exact h
  · rw [List.countP_eq_length] at h
    rw [h x hx] at hp; cases hp
theorem placesIn_facts (l : List ResultD) (s : Int) : ((ansPlacesIn l s).getD []).length ≤ 41 ∧ ((ansPlacesIn l s).isSome = true → SegOk l s ∧ ∀ {k : Nat} {x : ResultD}, l[k]? = some x → x.scores[s.toNat]? = some (sgAt s x) ∧ ∃ y : Int, ((ansPlacesIn l s).getD [])[k]? = some y ∧ y ≤ (l.length : Int) ∧ (y < 0 ↔ sgAt s x < 0)) := by
  by_cases h : SegOk l s
  · rw [show ansPlacesIn l s = some _ from optP_pos h]
    refine ⟨by rw [Option.getD_some]; have := plIs_len (l.map (sgAt s)) l.length; rw [List.length_map] at this; have := h.1.1; omega, fun _ => ⟨h, fun {k x} hx => ⟨(h.score hx).2, plI (l.map (sgAt s)) (sgAt s x), ?_, ?_, ?_⟩⟩⟩
    · rw [Option.getD_some]
      unfold plIs
      rw [List.take_of_length_le (by simp), List.getElem?_map, List.getElem?_map, hx]; rfl
    · unfold plI
      split
      · omega
      · unfold plN grN
        have := cn_lt (p := fun y => decide (sgAt s x < y)) (l := l.map (sgAt s)) (x := sgAt s x) (List.mem_map.2 ⟨x, List.mem_of_getElem? hx, rfl⟩) (by simp)
        rw [List.length_map] at this
        omega
    · unfold plI
      split
      · rename_i h'; simp [h']
      · rename_i h'; unfold plN; constructor <;> omega
  · rw [show ansPlacesIn l s = none from optP_neg h]; exact ⟨by simp, fun h' => by cases h'⟩
theorem flN_tri (l : List ResultD) (s : Int) : ∀ k, 2 * flN l s k + k ≤ k * k
  | 0 => by simp [flN]
  | k + 1 => by
    have ih := flN_tri l s k
    have e : (k + 1) * (k + 1) = k * k + 2 * k + 1 := by simp only [Nat.add_mul, Nat.mul_add]; omega
    have h1 : flN l s (k + 1) ≤ flN l s k + k := by
      cases hx : l[k]? with
      | none => simp only [flN, hx]; omega
      | some a => rw [flN_succ hx]; have := cn_take_le (flB s a) l k; omega
    omega
theorem flips_facts (l : List ResultD) (s : Int) : (0 ≤ (ansFlipsOf l s).getD 0 ∧ (ansFlipsOf l s).getD 0 ≤ 1600) ∧ 2 * (ansFlipsOf l s).getD 0 ≤ (l.length : Int) * ((l.length : Int) - 1) := by
  have key : (0 : Int) ≤ (l.length : Int) * ((l.length : Int) - 1) := by
    rcases Nat.eq_zero_or_pos l.length with h | h
    · rw [h]; decide
    · exact Int.mul_nonneg (by omega) (by omega)
  by_cases h : FlOk l s
  · rw [show ansFlipsOf l s = some _ from optP_pos h, Option.getD_some]
    have h1 := flN_tri l s l.length
    have h2 : l.length * l.length ≤ 40 * 40 := Nat.mul_le_mul h.1.1.1 h.1.1.1
    have h3 : ((l.length * l.length : Nat) : Int) = (l.length : Int) * (l.length : Int) := by simp
    rw [Int.mul_sub]
    omega
  · rw [show ansFlipsOf l s = none from optP_neg h]; exact ⟨by simp, by simpa using key⟩
end Go.Proofs.Ythkkpiodligmiaa
