/-
  Plain facts on quotas: who is taken, the reserves, and the counts of the clubs.
-/
import Derived.Test.YthkkpiodligmiaaQw
import Derived.Test.YthkkpiodligmiaaOo
import Derived.Test.YthkkpiodligmiaaClub
namespace Go.Proofs.Ythkkpiodligmiaa
open Go.RowKit

theorem stR_nodup {l : List ResultD} (hv : ResultsOk l) : (stR l).Nodup := by
  unfold stR fm
  rw [List.map_id]
  exact List.Pairwise.filter _ (ordZ_nodup hv (Nat.le_refl _))
theorem qF_more (cl : Int → Int) {n q : Int} : ∀ (xs : List Int) (s : List Int × List Int), (s.1.length : Int) ≤ n → (∀ c, (((s.1.map cl).count c : Nat) : Int) ≤ q) → (((xs.foldl (qS cl n q) s).1.length : Int) ≤ n ∧ (∀ c, ((((xs.foldl (qS cl n q) s).1.map cl).count c : Nat) : Int) ≤ q)) ∧ ((xs.foldl (qS cl n q) s).1 ++ (xs.foldl (qS cl n q) s).2).Perm (s.1 ++ s.2 ++ xs)
  | [], s, h1, h2 => ⟨⟨h1, h2⟩, by simp⟩
  | x :: xs, s, h1, h2 => by
    rw [List.foldl_cons]
    by_cases hc : (s.1.length : Int) < n ∧ (((s.1.map cl).count (cl x) : Nat) : Int) < q
    · have e : qS cl n q s x = (s.1 ++ [x], s.2) := by unfold qS; rw [if_pos hc]
      rw [e]
      have ih := qF_more cl (n := n) (q := q) xs (s.1 ++ [x], s.2) (by simp; omega) (fun c => by
        simp only [List.map_append, List.map_cons, List.map_nil, List.count_append, List.count_singleton]
        have := h2 c
        by_cases hx : cl x = c
        · subst hx; simp; omega
        · have : (cl x == c) = false := by simpa using hx
          rw [this]; simp; omega)
      refine ⟨ih.1, ih.2.trans ?_⟩
      simp only [List.append_assoc, List.singleton_append]
      exact List.Perm.append_left _ List.perm_middle.symm
    · have e : qS cl n q s x = (s.1, s.2 ++ [x]) := by unfold qS; rw [if_neg hc]
      rw [e]
      have ih := qF_more cl (n := n) (q := q) xs (s.1, s.2 ++ [x]) h1 h2
      refine ⟨ih.1, ih.2.trans ?_⟩
      simp only [List.append_assoc, List.singleton_append]
      exact List.Perm.refl _
theorem count_cons_sm (v : Int) (vs : List Int) : ∀ m : Nat, sm ((List.range m).map fun c : Nat => (((v :: vs).count ((c : Int) + 1) : Nat) : Int)) = sm ((List.range m).map fun c : Nat => ((vs.count ((c : Int) + 1) : Nat) : Int)) + (if 1 ≤ v ∧ v ≤ (m : Int) then 1 else 0)
  | 0 => by simp; omega
  | m + 1 => by
    have ih := count_cons_sm v vs m
    rw [List.range_succ, List.map_append, List.map_append, sm_append, sm_append, ih]
    simp only [List.map_cons, List.map_nil, sm_cons, sm_nil, List.count_cons]
    by_cases h : v = (m : Int) + 1
    · have hb : (v == (m : Int) + 1) = true := by simpa using h
      rw [hb, if_neg (by omega), if_pos (show 1 ≤ v ∧ v ≤ ((m + 1 : Nat) : Int) by omega)]
      simp
      omega
    · have hb : (v == (m : Int) + 1) = false := by simpa using h
      rw [hb]
      have e : (1 ≤ v ∧ v ≤ ((m + 1 : Nat) : Int)) ↔ (1 ≤ v ∧ v ≤ (m : Int)) := by omega
      simp only [e]
      simp
      omega
theorem cnt20_sum : ∀ {vs : List Int}, (∀ v ∈ vs, 1 ≤ v ∧ v ≤ 20) → sm (cnt20 vs) = (vs.length : Int)
  | [], _ => by decide
  | v :: vs, h => by
    have ih := cnt20_sum (vs := vs) (fun w hw => h w (List.mem_cons_of_mem _ hw))
    have hv := h v (List.mem_cons_self ..)
    unfold cnt20 at ih ⊢
    rw [count_cons_sm, ih, if_pos (show 1 ≤ v ∧ v ≤ ((20 : Nat) : Int) from hv), List.length_cons]
    omega
theorem sk_map_nodup {l : List ResultD} (hv : ResultsOk l) {xs : List Int} (hin : ∀ y ∈ xs, inL l y) (hn : xs.Nodup) : (xs.map (skZ l)).Nodup := by
  unfold List.Nodup at hn ⊢
  rw [List.pairwise_map]
  refine List.Pairwise.imp_of_mem (fun {a b} ha hb hab e => ?_) hn
  have h1 := hin a ha
  have h2 := hin b hb
  have h3 := hv.sk_eq h1.at_ h2.at_ e
  have := h1.1
  have := h2.1
  exact hab (by omega)
theorem ordOk_of {xs : List Int} (hl : xs.length ≤ 40) (hb : ∀ x ∈ xs, 1 ≤ x ∧ x ≤ 999) (hn : xs.Nodup) : OrdOk xs := by
  refine ⟨hl, fun k x hk hx => ⟨(hb x (List.mem_of_getElem? hx)).1, (hb x (List.mem_of_getElem? hx)).2, fun hm => ?_⟩⟩
  obtain ⟨j, hj⟩ := List.getElem?_of_mem hm
  obtain ⟨hj1, hj2⟩ := List.getElem?_eq_some_iff.1 hj
  rw [List.length_take] at hj1
  rw [List.getElem_take] at hj2
  unfold List.Nodup at hn
  rw [List.pairwise_iff_getElem] at hn
  have := hn j k (by omega) hk (by omega)
  rw [hj2, (List.getElem?_eq_some_iff.1 hx).2] at this
  exact this rfl
theorem clZ_sk {l : List ResultD} {c : List ClubD} (hc : ClubsFor l c) {y : Int} (hy : inL l y) : clubOf c (skZ l y) = clZ c y ∧ skB2 c (skZ l y) = true ∧ 1 ≤ clZ c y ∧ clZ c y ≤ 20 := by
  obtain ⟨x, hx, he, h1, h2⟩ := clZ_of hc hy
  have hs := hc.2.2 y.toNat x hx
  unfold skOf at hs
  rw [show ((y.toNat : Nat) : Int) = y by have := hy.1; omega] at hs
  have hs' : skZ l y = x.skater := hs.symm
  rw [hs', he]
  exact ⟨clubOf_at hc.2.1 hx, skB2_iff.2 (List.mem_map.2 ⟨x, List.mem_of_getElem? hx, rfl⟩), h1, h2⟩
/-- all that the law asks of the taken and the reserves -/
theorem quota_facts {l : List ResultD} {c : List ClubD} {n q : Int} (h : QuOk l c n q) (T R : List Int) (hT : T = (tkZ l c n q).1.map (skZ l)) (hR : R = (tkZ l c n q).2.map (skZ l)) :
    (T.length ≤ 40 ∧ R.length ≤ 40) ∧ (T.length : Int) ≤ n ∧ (∃ K : List Int, ansClubCounts c T = some K ∧ K.length = 20 ∧ sm K = (T.length : Int) ∧ ∀ v ∈ K, 0 ≤ v ∧ v ≤ 40 ∧ v ≤ q) ∧ (l.countP (fun x => decide (0 ≤ x.scores.getD 0 0)) = T.length + R.length) ∧ ∀ x ∈ R, bP (x ∈ T) = false := by
  subst hT hR
  obtain ⟨hv, hc, hf, hq1, hq2⟩ := h
  have hm := qF_more (clZ c) (n := n) (q := q) (stR l) ([], []) (by have := hf.1; simp; omega) (fun c => by simp; omega)
  have hl := tkZ_len l c n q
  obtain ⟨hi1, hi2⟩ := tkZ_in l c n q
  have hperm : ((tkZ l c n q).1 ++ (tkZ l c n q).2).Perm (stR l) := by have := hm.2; simpa [tkZ, qF] using this
  have hnd := hperm.nodup_iff.2 (stR_nodup hv)
  obtain ⟨⟨hm1, hm2⟩, _⟩ := hm
  change (((tkZ l c n q).1.length : Int) ≤ n) at hm1
  change (∀ k, ((((tkZ l c n q).1.map (clZ c)).count k : Nat) : Int) ≤ q) at hm2
  have hsl := hperm.length_eq
  rw [List.length_append] at hsl
  have hv1 := hv.1
  generalize (tkZ l c n q).1 = A at *
  generalize (tkZ l c n q).2 = B at *
  have hA : A.Nodup := (List.nodup_append.1 hnd).1
  have hlA : (A.map (skZ l)).length = A.length := List.length_map _
  have hskb : ∀ x ∈ A.map (skZ l), 1 ≤ x ∧ x ≤ 999 := by
    intro x hx
    obtain ⟨y, hy, rfl⟩ := List.mem_map.1 hx
    have := (hv.at_ (hi1 y hy).at_).1
    exact ⟨this.2.1, this.2.2.1⟩
  have hmc : (A.map (skZ l)).map (clubOf c) = A.map (clZ c) := by
    rw [List.map_map]
    exact List.map_congr_left fun y hy => (clZ_sk hc (hi1 y hy)).1
  have hK : ansClubCounts c (A.map (skZ l)) = some (cnt20 (A.map (clZ c))) := by
    rw [← hmc]
    refine optP_pos ⟨hc.2.1, ordOk_of (by omega) hskb (sk_map_nodup hv hi1 hA), fun x hx => ?_⟩
    obtain ⟨y, hy, rfl⟩ := List.mem_map.1 hx
    exact (clZ_sk hc (hi1 y hy)).2.1
  refine ⟨⟨by omega, by rw [List.length_map]; omega⟩, by omega, ⟨_, hK, cnt20_len _, ?_, ?_⟩, ?_, ?_⟩
  · rw [cnt20_sum, List.length_map, List.length_map]
    intro v hv'
    obtain ⟨y, hy, rfl⟩ := List.mem_map.1 hv'
    exact (clZ_sk hc (hi1 y hy)).2.2
  · intro v hv'
    unfold cnt20 at hv'
    obtain ⟨k, _, rfl⟩ := List.mem_map.1 hv'
    have h1 := hm2 ((k : Int) + 1)
    have h2 := List.count_le_length (a := (k : Int) + 1) (l := A.map (clZ c))
    rw [List.length_map] at h2
    exact ⟨by omega, by omega, h1⟩
  · rw [List.length_map, List.length_map, hsl, ← ord_count l (fun x => decide (0 ≤ x.scores.getD 0 0))]
    unfold stR fm
    rw [List.length_map, List.countP_eq_length_filter]
    rfl
  · intro x hx
    refine bP_false fun hx' => ?_
    obtain ⟨y, hy, rfl⟩ := List.mem_map.1 hx
    obtain ⟨z, hz, e⟩ := List.mem_map.1 hx'
    have h3 := hv.sk_eq (hi1 z hz).at_ (hi2 y hy).at_ e
    have h1 := (hi1 z hz).1
    have h2 := (hi2 y hy).1
    have : z = y := by omega
    subst this
    exact (List.nodup_append.1 hnd).2.2 _ hz _ hy rfl
theorem field_facts (a b : List Int) : (((ansFieldChanges a b).getD ([], [])).1.length ≤ 40 ∧ ((ansFieldChanges a b).getD ([], [])).2.length ≤ 40) ∧ ((ansFieldChanges a b).isSome = true → a.length + ((ansFieldChanges a b).getD ([], [])).1.length = b.length + ((ansFieldChanges a b).getD ([], [])).2.length) := by
  by_cases h : OrdOk a ∧ OrdOk b
  · rw [show ansFieldChanges a b = some _ from optP_pos h]
    simp only [Option.getD_some]
    have h1 := wo_len b a
    have h2 := wo_len a b
    have h3 := h.1.1
    have h4 := h.2.1
    refine ⟨⟨by omega, by omega⟩, fun _ => ?_⟩
    have key : ∀ u w : List Int, u.length = (u.filter fun x => bP (x ∈ w)).length + (wo u w).length := by
      intro u w
      unfold wo
      rw [← List.countP_eq_length_filter, ← List.countP_eq_length_filter, List.length_eq_countP_add_countP (p := fun x => bP (x ∈ w)) (l := u)]
      congr 1
      apply List.countP_congr
      intro x _
      cases bP (x ∈ w) <;> simp
    have hp : (a.filter fun x => bP (x ∈ b)).Perm (b.filter fun x => bP (x ∈ a)) := by
      rw [List.perm_ext_iff_of_nodup (List.Pairwise.filter _ h.1.nodup) (List.Pairwise.filter _ h.2.nodup)]
      intro x
      rw [List.mem_filter, List.mem_filter, bP_iff, bP_iff]
      exact ⟨fun h => ⟨h.2, h.1⟩, fun h => ⟨h.2, h.1⟩⟩
    have k1 := key a b
    have k2 := key b a
    have := hp.length_eq
    omega
  · rw [show ansFieldChanges a b = none from optP_neg h]; exact ⟨by simp, fun h' => by cases h'⟩
theorem quotas_facts (l : List ResultD) (c : List ClubD) (n q : Int) : (ansReservesOf l c n q).isSome = (ansWithQuota l c n q).isSome ∧ (((ansWithQuota l c n q).getD []).length ≤ 40 ∧ ((ansReservesOf l c n q).getD []).length ≤ 40) ∧ ((ansWithQuota l c n q).isSome = true → ResultsOk l ∧ (((ansWithQuota l c n q).getD []).length : Int) ≤ n ∧ (∃ K : List Int, ansClubCounts c ((ansWithQuota l c n q).getD []) = some K ∧ K.length = 20 ∧ sm K = (((ansWithQuota l c n q).getD []).length : Int) ∧ ∀ v ∈ K, 0 ≤ v ∧ v ≤ 40 ∧ v ≤ q) ∧ (cn (fun x => decide (0 ≤ x.scores.getD 0 0)) l = ((ansWithQuota l c n q).getD []).length + ((ansReservesOf l c n q).getD []).length) ∧ ∀ x ∈ (ansReservesOf l c n q).getD [], bP (x ∈ (ansWithQuota l c n q).getD []) = false) := by
  by_cases h : QuOk l c n q
  · rw [show ansWithQuota l c n q = some _ from optP_pos h, show ansReservesOf l c n q = some _ from optP_pos h]
    obtain ⟨h1, h2, h3, h4, h5⟩ := quota_facts h _ _ rfl rfl
    exact ⟨rfl, h1, fun _ => ⟨h.1, h2, h3, h4, h5⟩⟩
  · rw [show ansWithQuota l c n q = none from optP_neg h, show ansReservesOf l c n q = none from optP_neg h]
    exact ⟨rfl, ⟨by simp, by simp⟩, fun h' => by cases h'⟩
theorem counts_len (c : List ClubD) (s : List Int) : ((ansClubCounts c s).getD []).length ≤ 40 := by
  by_cases h : ClubsOk c ∧ OrdOk s ∧ ∀ n ∈ s, skB2 c n = true
  · rw [show ansClubCounts c s = some _ from optP_pos h, Option.getD_some, cnt20_len]; decide
  · rw [show ansClubCounts c s = none from optP_neg h]; simp
end Go.Proofs.Ythkkpiodligmiaa
