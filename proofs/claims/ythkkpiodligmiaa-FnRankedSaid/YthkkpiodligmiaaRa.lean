/-
  Plain facts on drawn results: answers, comparisons turned round, ties, and the order by places.
-/
import Derived.Test.YthkkpiodligmiaaOr
import Derived.Test.YthkkpiodligmiaaRt
import Derived.Test.YthkkpiodligmiaaRc
import Derived.Test.YthkkpiodligmiaaRp
import Derived.Test.YthkkpiodligmiaaOo
namespace Go.Proofs.Ythkkpiodligmiaa
open Go.RowKit

theorem order_facts (l : List ResultD) : ((ansOrderOfResults l).getD []).length ≤ 40 ∧ (ansOrderOfResults l).isSome = bP (ResultsOk l) ∧ (bP (ResultsOk l) = true → (ansOrderOfResults l).getD [] = ordZ l l.length) := by
  by_cases h : ResultsOk l
  · rw [show ansOrderOfResults l = some _ from optP_pos h, bP_true h]; exact ⟨by rw [Option.getD_some, ordZ_len]; exact h.1, rfl, fun _ => rfl⟩
  · rw [show ansOrderOfResults l = none from optP_neg h, bP_false h]; exact ⟨by simp, rfl, fun h' => by cases h'⟩
theorem sgn_big (n : Int) : (0 < n → sgn n = 1) ∧ (n < 0 → sgn n = -1) := by unfold sgn; split <;> (try split) <;> omega
theorem compare_facts (a b : ResultD) : (-1 ≤ (ansCompareResults a b).getD 0 ∧ (ansCompareResults a b).getD 0 ≤ 1) ∧ ((ansCompareResults a b).isSome = true → ansCompareResults b a = some (-(ansCompareResults a b).getD 0) ∧ ansTotalOfResult a = some (scSum a.scores, (scCnt a.scores : Int)) ∧ ansTotalOfResult b = some (scSum b.scores, (scCnt b.scores : Int)) ∧ ((scCnt a.scores = scCnt b.scores) → (scSum b.scores < scSum a.scores → (ansCompareResults a b).getD 0 = 1) ∧ (scSum a.scores < scSum b.scores → (ansCompareResults a b).getD 0 = -1)) ∧ (scCnt b.scores < scCnt a.scores → (ansCompareResults a b).getD 0 = 1)) := by
  by_cases h : ResOk a ∧ ResOk b ∧ a.scores.length = b.scores.length
  · rw [show ansCompareResults a b = some _ from optP_pos h, show ansCompareResults b a = some _ from optP_pos ⟨h.2.1, h.1, h.2.2.symm⟩, show ansTotalOfResult a = some _ from optP_pos h.1, show ansTotalOfResult b = some _ from optP_pos h.2.1, cmpR_anti h.2.2]
    refine ⟨cmpR_bd _ _, fun _ => ⟨rfl, rfl, rfl, fun e => ?_, fun e => ?_⟩⟩
    · simp only [Option.getD_some]
      unfold cmpR
      rw [if_pos e]
      exact ⟨fun h' => by rw [if_neg (by omega)]; exact (sgn_big _).1 (by omega), fun h' => by rw [if_neg (by omega)]; exact (sgn_big _).2 (by omega)⟩
    · simp only [Option.getD_some]
      unfold cmpR
      rw [if_neg (by omega)]
      exact (sgn_big _).1 (by omega)
  · rw [show ansCompareResults a b = none from optP_neg h]; exact ⟨by simp, fun h' => by cases h'⟩
theorem ixN_mem {p : Nat → Bool} {n k : Nat} (hk : k < n) : bP ((k : Int) ∈ ixN p n) = p k := by
  rw [Bool.eq_iff_iff, bP_iff]
  unfold ixN
  rw [fm_mem]
  constructor
  · rintro ⟨x, _, hp, e⟩; rwa [show x = k by omega] at hp
  · intro h; exact ⟨k, List.mem_range.2 hk, h, rfl⟩
theorem tied_facts (l : List ResultD) (i : Int) : ((ansTiedWith l i).getD []).length ≤ 40 ∧ ((ansTiedWith l i).isSome = true → HasR l i ∧ (ansTiedWith l i).getD [] = ixN (tieB l i.toNat) l.length) := by
  by_cases h : HasR l i
  · rw [show ansTiedWith l i = some _ from optP_pos h]; exact ⟨Nat.le_trans (ixN_len _ _) h.1.1, fun _ => ⟨h, rfl⟩⟩
  · rw [show ansTiedWith l i = none from optP_neg h]; exact ⟨by simp, fun h' => by cases h'⟩
/-- ties are told by places -/
theorem tie_place {l : List ResultD} (hv : ResultsOk l) {i k : Nat} {x z : ResultD} (hx : l[k]? = some x) (hz : l[i]? = some z) : bP ((k : Int) ∈ ixN (tieB l i) l.length) = decide (plcR l x = plcR l z) := by
  have hk := (List.getElem?_eq_some_iff.1 hx).1
  rw [ixN_mem hk, tieB_of hx hz]
  exact decide_eq_decide.2 (plc_eq hv hx hz).symm
theorem tie_self {l : List ResultD} (hv : ResultsOk l) {i : Nat} {z : ResultD} (hz : l[i]? = some z) : bP ((i : Int) ∈ ixN (tieB l i) l.length) = true := by rw [tie_place hv hz hz]; simp
theorem ah_ord (l : List ResultD) (x : ResultD) : ahR l x = (ordZ l l.length).countP (fun y => decide (0 < cmpR (resAt l y) x)) := by
  rw [(ordZ_perm l l.length).countP_eq, resAt_take l (fun y => decide (0 < cmpR y x)) l.length (Nat.le_refl _), List.take_length]
  rfl
theorem ResultsOk.len_at {l : List ResultD} (hv : ResultsOk l) {i : Int} (h : inL l i) : (resAt l i).scores.length = len0 l := (hv.at_ h.at_).2
theorem ord_at {l : List ResultD} {k : Nat} {i : Int} (hk : (ordZ l l.length)[k]? = some i) : inL l i := ordZ_in (Nat.le_refl _) i (List.mem_of_getElem? hk)
/-- the place of who stands k-th -/
theorem ord_place {l : List ResultD} (hv : ResultsOk l) {k : Nat} {i : Int} (hk : (ordZ l l.length)[k]? = some i) : 1 ≤ plcR l (resAt l i) ∧ plcR l (resAt l i) ≤ (k : Int) + 1 := by
  have hs := ordZ_sorted hv l.length (Nat.le_refl _)
  have hi := ord_at hk
  have hlt := (List.getElem?_eq_some_iff.1 hk).1
  have e : ahR l (resAt l i) ≤ k := by
    rw [ah_ord]
    conv => lhs; rw [← List.take_append_drop k (ordZ l l.length)]
    rw [List.countP_append]
    have h1 : ((ordZ l l.length).take k).countP (fun y => decide (0 < cmpR (resAt l y) (resAt l i))) ≤ k := Nat.le_trans List.countP_le_length (List.length_take_le _ _)
    have h2 : ((ordZ l l.length).drop k).countP (fun y => decide (0 < cmpR (resAt l y) (resAt l i))) = 0 := by
      rw [List.countP_eq_zero]
      intro y hy
      obtain ⟨j, hj⟩ := List.getElem?_of_mem hy
      rw [List.getElem?_drop] at hj
      have hy' := ord_at hj
      simp only [decide_eq_true_eq]
      by_cases hj0 : j = 0
      · subst hj0
        rw [Nat.add_zero, hk] at hj
        obtain rfl := Option.some.inj hj
        rw [cmpR_self]; omega
      · obtain ⟨hjl, hje⟩ := List.getElem?_eq_some_iff.1 hj
        have hke := (List.getElem?_eq_some_iff.1 hk).2
        have h3 := List.pairwise_iff_getElem.1 hs k (k + j) hlt hjl (by omega)
        rw [hje, hke, ltR_iff] at h3
        have ha := cmpR_anti (a := resAt l i) (b := resAt l y) (by rw [hv.len_at hi, hv.len_at hy'])
        omega
    omega
  unfold plcR
  omega
theorem ord_next {l : List ResultD} (hv : ResultsOk l) {k : Nat} {b i : Int} (hb : (ordZ l l.length)[k]? = some b) (hk : (ordZ l l.length)[k + 1]? = some i) : 0 ≤ cmpR (resAt l b) (resAt l i) ∧ (cmpR (resAt l b) (resAt l i) = 0 → (resAt l b).skater < (resAt l i).skater ∧ plcR l (resAt l i) = plcR l (resAt l b)) ∧ (0 < cmpR (resAt l b) (resAt l i) → plcR l (resAt l i) = (k : Int) + 1 + 1) := by
  have hs := ordZ_sorted hv l.length (Nat.le_refl _)
  have hi := ord_at hk
  have hb' := ord_at hb
  obtain ⟨hkl, hke⟩ := List.getElem?_eq_some_iff.1 hk
  obtain ⟨hbl, hbe⟩ := List.getElem?_eq_some_iff.1 hb
  have h3 := List.pairwise_iff_getElem.1 hs k (k + 1) hbl hkl (by omega)
  rw [hke, hbe, ltR_iff] at h3
  refine ⟨by omega, fun h0 => ⟨by omega, ?_⟩, fun h0 => ?_⟩
  · exact ((plc_eq hv hb'.at_ hi.at_).2 h0).symm
  · have hp := (ord_place hv hk).2
    have e : k + 1 ≤ ahR l (resAt l i) := by
      rw [ah_ord]
      conv => rhs; rw [← List.take_append_drop (k + 1) (ordZ l l.length)]
      rw [List.countP_append]
      have h1 : ((ordZ l l.length).take (k + 1)).countP (fun y => decide (0 < cmpR (resAt l y) (resAt l i))) = ((ordZ l l.length).take (k + 1)).length := by
        rw [List.countP_eq_length]
        intro y hy
        obtain ⟨j, hj⟩ := List.getElem?_of_mem hy
        obtain ⟨hjt, hje⟩ := List.getElem?_eq_some_iff.1 hj
        rw [List.length_take] at hjt
        rw [List.getElem_take] at hje
        simp only [decide_eq_true_eq]
        by_cases hjk : j = k
        · subst hjk
          rw [hbe] at hje
          rw [← hje]; exact h0
        · have h4 := List.pairwise_iff_getElem.1 hs j k (by omega) hbl (by omega)
          have hy' : inL l y := ord_at (k := j) (List.getElem?_eq_some_iff.2 ⟨by omega, hje⟩)
          rw [hje, hbe, ltR_iff] at h4
          have l1 := hv.len_at hy'
          have l2 := hv.len_at hb'
          have l3 := hv.len_at hi
          rcases h4 with h4 | ⟨h4, _⟩
          · exact cmpR_trans (by omega) (by omega) h4 h0
          · have e1 := cmpR_tie (a := resAt l y) (b := resAt l b) (c := resAt l i) (by omega) (by omega) h4
            have e2 := cmpR_anti (a := resAt l i) (b := resAt l y) (by omega)
            have e3 := cmpR_anti (a := resAt l i) (b := resAt l b) (by omega)
            omega
      rw [h1, List.length_take]
      omega
    unfold plcR at hp ⊢
    omega
end Go.Proofs.Ythkkpiodligmiaa
