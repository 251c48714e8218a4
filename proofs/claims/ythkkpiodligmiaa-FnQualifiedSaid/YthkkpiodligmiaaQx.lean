/-
  Plain facts on the qualified: who is in, who stands on the edge, the direct ones and the rest, and safe scores.
-/
import Derived.Test.YthkkpiodligmiaaQe
import Derived.Test.YthkkpiodligmiaaQd
import Derived.Test.YthkkpiodligmiaaNf
import Derived.Test.YthkkpiodligmiaaRn3
import Derived.Test.YthkkpiodligmiaaOo
namespace Go.Proofs.Ythkkpiodligmiaa
open Go.RowKit

theorem ResOk.first {x : ResultD} (h : ResOk x) : x.scores[0]? = some (x.scores.getD 0 0) := by
  have h1 : 0 < x.scores.length := h.2.2.2.1
  rw [List.getD_eq_getElem?_getD, List.getElem?_eq_getElem h1]; rfl
theorem sk_mem {l : List ResultD} (hv : ResultsOk l) {xs : List Int} (hin : ∀ y ∈ xs, inL l y) {k : Nat} {x : ResultD} (hx : l[k]? = some x) : x.skater ∈ xs.map (skZ l) ↔ (k : Int) ∈ xs := by
  rw [List.mem_map]
  constructor
  · rintro ⟨y, hy, e⟩
    have hi := hin y hy
    have e2 := hv.sk_eq hi.at_ hx e
    rwa [show (k : Int) = y by have := hi.1; omega]
  · intro h; exact ⟨k, h, by unfold skZ; rw [resAt_of hx]⟩
theorem stR_mem {l : List ResultD} {k : Nat} {x : ResultD} (hx : l[k]? = some x) : (k : Int) ∈ stR l ↔ 0 ≤ x.scores.getD 0 0 := by
  unfold stR
  rw [fm_mem]
  constructor
  · rintro ⟨y, _, hp, rfl⟩; unfold stB at hp; rw [resAt_of hx] at hp; exact of_decide_eq_true hp
  · intro h; exact ⟨k, ord_mem (List.getElem?_eq_some_iff.1 hx).1, by unfold stB; rw [resAt_of hx]; exact decide_eq_true h, rfl⟩
theorem quR_mem {l : List ResultD} {n : Int} {k : Nat} {x : ResultD} (hx : l[k]? = some x) : (k : Int) ∈ quR l n ↔ plcR l x ≤ n ∧ 0 ≤ x.scores.getD 0 0 := by
  unfold quR
  rw [fm_mem]
  constructor
  · rintro ⟨y, hy, hp, rfl⟩; unfold plZ at hp; rw [resAt_of hx] at hp; exact ⟨of_decide_eq_true hp, (stR_mem hx).1 hy⟩
  · rintro ⟨h1, h2⟩; exact ⟨k, (stR_mem hx).2 h2, by unfold plZ; rw [resAt_of hx]; exact decide_eq_true h1, rfl⟩
theorem edZ_mem {l : List ResultD} {n : Int} {k : Nat} {x : ResultD} (hx : l[k]? = some x) : (k : Int) ∈ edZ l n ↔ (plcR l x ≤ n ∧ 0 ≤ x.scores.getD 0 0) ∧ plcR l x = lastZ l n := by
  unfold edZ
  rw [fm_mem]
  constructor
  · rintro ⟨y, hy, hp, rfl⟩; unfold eqZ at hp; rw [resAt_of hx] at hp; exact ⟨(quR_mem hx).1 hy, of_decide_eq_true hp⟩
  · rintro ⟨h1, h2⟩; exact ⟨k, (quR_mem hx).2 h1, by unfold eqZ; rw [resAt_of hx]; exact decide_eq_true h2, rfl⟩
theorem edZ_in (l : List ResultD) (n : Int) : ∀ y ∈ edZ l n, inL l y := fm_in (quR_in l n)
theorem edZ_len (l : List ResultD) (n : Int) : (edZ l n).length ≤ l.length := Nat.le_trans (fm_len _ _ _) (quR_len l n)
theorem qu_in {l : List ResultD} (hv : ResultsOk l) {n : Int} {k : Nat} {x : ResultD} (hx : l[k]? = some x) : bP (x.skater ∈ (quR l n).map (skZ l)) = (decide (plcR l x ≤ n) && decide (0 ≤ x.scores.getD 0 0)) := by
  rw [Bool.eq_iff_iff, bP_iff, sk_mem hv (quR_in l n) hx, quR_mem hx]; simp
theorem ed_in {l : List ResultD} (hv : ResultsOk l) {n : Int} {k : Nat} {x : ResultD} (hx : l[k]? = some x) : bP (x.skater ∈ (edZ l n).map (skZ l)) = ((decide (plcR l x ≤ n) && decide (0 ≤ x.scores.getD 0 0)) && decide (plcR l x = lastZ l n)) := by
  rw [Bool.eq_iff_iff, bP_iff, sk_mem hv (edZ_in l n) hx, edZ_mem hx]; simp
/-- qualified and edge: all that the law asks of them -/
theorem qualified_facts (l : List ResultD) (n : Int) :
    (((ansQualifiedFor l n).getD []).length ≤ 40 ∧ ((ansEdgeOf l n).getD (0, [])).2.length ≤ 40) ∧ (ansEdgeOf l n).isSome = ((ansQualifiedFor l n).isSome && decide (0 < ((ansQualifiedFor l n).getD []).length)) ∧
    ((ansQualifiedFor l n).isSome = true → ResultsOk l ∧ ∀ {k : Nat} {x : ResultD}, l[k]? = some x → x.scores[0]? = some (x.scores.getD 0 0) ∧ bP (x.skater ∈ (ansQualifiedFor l n).getD []) = (decide (plcR l x ≤ n) && decide (0 ≤ x.scores.getD 0 0)) ∧ ((ansEdgeOf l n).isSome = true → bP (x.skater ∈ ((ansEdgeOf l n).getD (0, [])).2) = ((decide (plcR l x ≤ n) && decide (0 ≤ x.scores.getD 0 0)) && decide (plcR l x = ((ansEdgeOf l n).getD (0, [])).1)))) := by
  by_cases h : ResultsOk l ∧ FldOk n
  · have e1 : ansQualifiedFor l n = some _ := optP_pos h
    have h1 : ((quR l n).map (skZ l)).length ≤ 40 := by rw [List.length_map]; exact Nat.le_trans (quR_len l n) h.1.1
    by_cases h0 : 0 < (quR l n).length
    · rw [e1, show ansEdgeOf l n = some _ from optP_pos ⟨h.1, h.2, h0⟩]
      simp only [Option.getD_some, Option.isSome_some, Bool.true_and]
      refine ⟨⟨h1, by rw [List.length_map]; exact Nat.le_trans (edZ_len l n) h.1.1⟩, by simp [h0], fun _ => ⟨h.1, fun {k x} hx => ⟨(h.1.at_ hx).1.first, qu_in h.1 hx, fun _ => ed_in h.1 hx⟩⟩⟩
    · rw [e1, show ansEdgeOf l n = none from optP_neg (fun h' => h0 h'.2.2)]
      simp only [Option.getD_some, Option.getD_none, Option.isSome_some, Option.isSome_none, Bool.true_and]
      refine ⟨⟨h1, by simp⟩, by simpa using h0, fun _ => ⟨h.1, fun {k x} hx => ⟨(h.1.at_ hx).1.first, qu_in h.1 hx, fun h' => by cases h'⟩⟩⟩
  · rw [show ansQualifiedFor l n = none from optP_neg h, show ansEdgeOf l n = none from optP_neg (fun h' => h ⟨h'.1, h'.2.1⟩)]
    exact ⟨⟨by simp, by simp⟩, rfl, fun h' => by cases h'⟩
theorem direct_facts (l : List ResultD) (d n : Int) : (((ansDirectAndRest l d n).getD ([], [])).1.length ≤ 40 ∧ ((ansDirectAndRest l d n).getD ([], [])).2.length ≤ 40) ∧ ((ansDirectAndRest l d n).isSome = true → (((ansDirectAndRest l d n).getD ([], [])).1.length : Int) ≤ d ∧ (((ansDirectAndRest l d n).getD ([], [])).1.length : Int) + (((ansDirectAndRest l d n).getD ([], [])).2.length : Int) ≤ n ∧ (0 < ((ansDirectAndRest l d n).getD ([], [])).2.length → d ≤ (((ansDirectAndRest l d n).getD ([], [])).1.length : Int))) := by
  by_cases h : ResultsOk l ∧ FldOk n ∧ 0 ≤ d ∧ d ≤ n
  · rw [show ansDirectAndRest l d n = some _ from optP_pos h]
    simp only [Option.getD_some]
    obtain ⟨hv, hf, h0, h1⟩ := h
    have hl : ((stR l).map (skZ l)).length ≤ 40 := by rw [List.length_map]; exact Nat.le_trans (stR_len l) hv.1
    generalize (stR l).map (skZ l) = S at hl
    have ha := drA_len S d
    have hb := drB_len S d n
    refine ⟨⟨by omega, by omega⟩, fun _ => ?_⟩
    unfold drA drB
    simp only [List.length_take, List.length_drop]
    omega
  · rw [show ansDirectAndRest l d n = none from optP_neg h]; exact ⟨by simp, fun h' => by cases h'⟩
theorem safe_facts (l : List ResultD) (i s p : Int) : (0 ≤ (ansSafeScore l i s p).getD 0 ∧ (ansSafeScore l i s p).getD 0 ≤ 100000) ∧ ((ansSafeScore l i s p).isSome = true → AskR l i s ∧ ∃ (x : ResultD) (y : Int), l[i.toNat]? = some x ∧ x.scores[s.toNat]? = some y ∧ (0 ≤ y ∧ y ≤ 100000) ∧ SetOk l i s (y + (ansSafeScore l i s p).getD 0) ∧ plW l i.toNat s.toNat (y + (ansSafeScore l i s p).getD 0) ≤ p) := by
  cases e : ansNeededFor l i s p with
  | none => rw [show ansSafeScore l i s p = none by unfold ansSafeScore; rw [e]]; exact ⟨by simp, fun h' => by cases h'⟩
  | some v =>
    by_cases hs : 0 ≤ scoreOf l i s
    · rw [show ansSafeScore l i s p = some (max (v - scoreOf l i s) 0) by unfold ansSafeScore; rw [e]; exact if_pos hs, Option.getD_some]
      obtain ⟨hask, n, hn, hset, hpl, _⟩ := (needed_facts l i s p).2 (by rw [e]; rfl)
      obtain ⟨_, hb0, hb1⟩ := ans_bd e
      rw [e, Option.getD_some] at hn
      subst hn
      obtain ⟨x, hx, hsl⟩ := hask.at_
      have hsc : scoreOf l i s = sgAt s x := by unfold scoreOf; rw [hx]
      rw [hsc] at hs ⊢
      have hy := (hask.2.score hx).2
      have hyb := (hask.1.1.at_ hx).1.1 s.toNat (sgAt s x) hy
      have hy1 := hyb.2.1
      refine ⟨⟨by omega, by omega⟩, fun _ => ⟨hask, x, sgAt s x, hx, hy, ⟨hs, hy1⟩, ⟨hask, ?_⟩, ?_⟩⟩
      · exact ws_sign hx hsl (show (0 : Int) ≤ (n : Int) by omega) (by omega) (by omega) hset.2
      · exact Int.le_trans (plW_anti hx hsl (show (0 : Int) ≤ (n : Int) by omega) (by omega) (same_len hask hx)) hpl
    · rw [show ansSafeScore l i s p = none by unfold ansSafeScore; rw [e]; exact if_neg hs]; exact ⟨by simp, fun h' => by cases h'⟩
end Go.Proofs.Ythkkpiodligmiaa
