/-
  Orders by places: plain words and facts.
-/
import Derived.Test.YthocihmhljmgdaaGreatDoorZPl
import Derived.Lib.SplitLaws
import Derived.Test.YthocihmhljmgdaaGreatDoorZOrd
namespace Go.Proofs.YthocihmhljmgdaaGreatDoor
open Go.RowKit

theorem filter_two {α : Type} {p q r : α → Bool} : ∀ {l : List α}, (∀ x ∈ l, r x = (p x || q x) ∧ ¬ (p x = true ∧ q x = true)) → (l.filter r).Perm (l.filter p ++ l.filter q)
  | [], _ => by simp
  | a :: l, h => by
    have ih := filter_two (l := l) fun x hx => h x (List.mem_cons_of_mem _ hx)
    obtain ⟨h1, h2⟩ := h a List.mem_cons_self
    by_cases hp : p a = true
    · have hq : ¬ q a = true := fun hq => h2 ⟨hp, hq⟩
      rw [List.filter_cons_of_pos (by rw [h1, hp]; rfl), List.filter_cons_of_pos hp, List.filter_cons_of_neg hq]
      exact ih.cons a
    · by_cases hq : q a = true
      · rw [List.filter_cons_of_pos (by rw [h1, hq]; simp), List.filter_cons_of_neg hp, List.filter_cons_of_pos hq]
        exact (ih.cons a).trans (List.perm_middle.symm)
      · rw [List.filter_cons_of_neg (by rw [h1]; simp [hp, hq]), List.filter_cons_of_neg hp, List.filter_cons_of_neg hq]
        exact ih
/-- the skaters at a place, among the first k -/
def eqP (sk pl : List Int) (p : Int) (k : Nat) : List Int := fm (fun x : Int × Int => decide (x.2 = p)) Prod.fst ((sk.zip pl).take k)
theorem eqP_zero (sk pl : List Int) (p : Int) : eqP sk pl p 0 = [] := by unfold eqP; rw [List.take_zero]; rfl
theorem zip_at {sk pl : List Int} {k : Nat} {x y : Int} (hx : sk[k]? = some x) (hy : pl[k]? = some y) : (sk.zip pl)[k]? = some (x, y) := by
  rw [List.getElem?_zip_eq_some]
  exact ⟨hx, hy⟩
theorem eqP_yes {sk pl : List Int} {p : Int} {k : Nat} {x y : Int} (hx : sk[k]? = some x) (hy : pl[k]? = some y) (h : y = p) : eqP sk pl p (k + 1) = eqP sk pl p k ++ [x] := by
  unfold eqP
  rw [fm_yes (zip_at hx hy) (by simpa using h)]
theorem eqP_no {sk pl : List Int} {p : Int} {k : Nat} {x y : Int} (hx : sk[k]? = some x) (hy : pl[k]? = some y) (h : ¬ y = p) : eqP sk pl p (k + 1) = eqP sk pl p k := by
  unfold eqP
  rw [fm_no (zip_at hx hy) (by simpa using h)]
theorem eqP_len (sk pl : List Int) (p : Int) (k : Nat) : (eqP sk pl p k).length ≤ k := fm_take_len _ _ _ _
/-- the skaters at the places from 99 down, t places -/
def fallT (ks sk pl : List Int) : Nat → List Int
  | 0 => []
  | t + 1 => fallT ks sk pl t ++ numZ (ks ++ [90, 99 - (t : Int)]) (eqP sk pl (99 - (t : Int)) sk.length)
theorem keyR90 {ks : List Int} (hk : KeyR ks) {t : Nat} (ht : t < 99) : KeyR (ks ++ [90, 99 - (t : Int)]) := hk.app fun x hx => by
  simp at hx
  omega
theorem fall_perm {ks sk pl : List Int} (hkl : ks.length ≤ 4) (hk : KeyR ks) (hs : sk.length ≤ 40) (hp : pl.length = sk.length) (hpl : ∀ x ∈ pl, x ≤ 99) : ∀ t, t ≤ 99 → (fallT ks sk pl t).Perm (fm (fun x : Int × Int => decide (100 - (t : Int) ≤ x.2)) Prod.fst (sk.zip pl))
  | 0, _ => by
    have : fm (fun x : Int × Int => decide (100 - ((0 : Nat) : Int) ≤ x.2)) Prod.fst (sk.zip pl) = [] := by
      unfold fm
      rw [List.map_eq_nil_iff, List.filter_eq_nil_iff]
      rintro ⟨a, b⟩ hx
      have := hpl b (List.of_mem_zip hx).2
      simp
      omega
    rw [this]
    exact List.Perm.refl _
  | t + 1, ht => by
    have hlen := eqP_len sk pl (99 - (t : Int)) sk.length
    have h1 := numZ_perm (ks := ks ++ [90, 99 - (t : Int)]) (g := eqP sk pl (99 - (t : Int)) sk.length) (by simp; omega) (keyR90 hk ht) (by omega)
    have h2 := fall_perm hkl hk hs hp hpl t (by omega)
    rw [fallT]
    refine (h2.append h1).trans ?_
    unfold eqP
    rw [List.take_of_length_le (by rw [List.length_zip]; omega)]
    unfold fm
    rw [← List.map_append]
    refine (List.Perm.map _ (filter_two (fun x _ => ?_))).symm
    constructor
    · rw [Bool.eq_iff_iff]
      simp only [decide_eq_true_eq, Bool.or_eq_true]
      omega
    · simp only [decide_eq_true_eq]
      omega
theorem fall_len {ks sk pl : List Int} (hkl : ks.length ≤ 4) (hk : KeyR ks) (hs : sk.length ≤ 40) (hp : pl.length = sk.length) (hpl : ∀ x ∈ pl, x ≤ 99) {t : Nat} (ht : t ≤ 99) : (fallT ks sk pl t).length ≤ sk.length := by
  rw [(fall_perm hkl hk hs hp hpl t ht).length_eq]
  refine Nat.le_trans (fm_len _ _ _) ?_
  rw [List.length_zip]
  omega
theorem fall_all {ks sk pl : List Int} (hkl : ks.length ≤ 4) (hk : KeyR ks) (hs : sk.length ≤ 40) (hp : pl.length = sk.length) (hpl : ∀ x ∈ pl, 1 ≤ x ∧ x ≤ 99) : (fallT ks sk pl 99).Perm sk := by
  refine (fall_perm hkl hk hs hp (fun x hx => (hpl x hx).2) 99 (Nat.le_refl _)).trans ?_
  unfold fm
  rw [List.filter_eq_self.2, List.map_fst_zip (by omega)]
  rintro ⟨a, b⟩ hx
  have := hpl b (List.of_mem_zip hx).2
  simp only [decide_eq_true_eq]
  omega
/-- a stands ahead of b: b has no greater place -/
def plR (Z : List (Int × Int)) (a b : Int) : Prop := ∀ pa pb, (a, pa) ∈ Z → (b, pb) ∈ Z → pb ≤ pa
theorem zip_fun {sk pl : List Int} (h : sk.Pairwise (· ≠ ·)) {a p q : Int} (hp : (a, p) ∈ sk.zip pl) (hq : (a, q) ∈ sk.zip pl) : p = q := by
  obtain ⟨i, hi⟩ := List.getElem?_of_mem hp
  obtain ⟨j, hj⟩ := List.getElem?_of_mem hq
  rw [List.getElem?_zip_eq_some] at hi hj
  have e : i = j := by
    rcases Nat.lt_trichotomy i j with h1 | h1 | h1
    · obtain ⟨h2, h3⟩ := List.getElem?_eq_some_iff.1 hi.1
      obtain ⟨h4, h5⟩ := List.getElem?_eq_some_iff.1 hj.1
      exact absurd (h3.trans h5.symm) (List.pairwise_iff_getElem.1 h i j h2 h4 h1)
    · exact h1
    · obtain ⟨h2, h3⟩ := List.getElem?_eq_some_iff.1 hi.1
      obtain ⟨h4, h5⟩ := List.getElem?_eq_some_iff.1 hj.1
      exact absurd (h5.trans h3.symm) (List.pairwise_iff_getElem.1 h j i h4 h2 h1)
  subst e
  exact Option.some.inj (hi.2.symm.trans hj.2)
theorem eqP_mem {sk pl : List Int} {p : Int} {k : Nat} {a : Int} (h : a ∈ eqP sk pl p k) : (a, p) ∈ sk.zip pl := by
  unfold eqP at h
  obtain ⟨x, hx, h1, rfl⟩ := fm_mem.1 h
  simp only [decide_eq_true_eq] at h1
  subst h1
  exact List.mem_of_mem_take hx
theorem fall_sorted {ks sk pl : List Int} (hkl : ks.length ≤ 4) (hk : KeyR ks) (hs : sk.length ≤ 40) (hd : sk.Pairwise (· ≠ ·)) : ∀ t, t ≤ 99 → (fallT ks sk pl t).Pairwise (plR (sk.zip pl)) ∧ ∀ a ∈ fallT ks sk pl t, ∃ p, (a, p) ∈ sk.zip pl ∧ 100 - (t : Int) ≤ p
  | 0, _ => ⟨List.Pairwise.nil, fun a h => by simp [fallT] at h⟩
  | t + 1, ht => by
    have hlen := eqP_len sk pl (99 - (t : Int)) sk.length
    have h1 := numZ_perm (ks := ks ++ [90, 99 - (t : Int)]) (g := eqP sk pl (99 - (t : Int)) sk.length) (by simp; omega) (keyR90 hk ht) (by omega)
    obtain ⟨h2, h3⟩ := fall_sorted (pl := pl) hkl hk hs hd t (by omega)
    have hnew : ∀ a ∈ numZ (ks ++ [90, 99 - (t : Int)]) (eqP sk pl (99 - (t : Int)) sk.length), (a, 99 - (t : Int)) ∈ sk.zip pl := fun a ha => eqP_mem (h1.mem_iff.1 ha)
    rw [fallT]
    generalize numZ (ks ++ [90, 99 - (t : Int)]) (eqP sk pl (99 - (t : Int)) sk.length) = nn at hnew
    refine ⟨List.pairwise_append.2 ⟨h2, ?_, fun a ha b hb pa pb hpa hpb => ?_⟩, fun a ha => ?_⟩
    · rw [List.pairwise_iff_getElem]
      intro i j hi hj _ pa pb hpa hpb
      have e1 := zip_fun hd hpa (hnew _ (List.getElem_mem hi))
      have e2 := zip_fun hd hpb (hnew _ (List.getElem_mem hj))
      omega
    · obtain ⟨p, hp, h100⟩ := h3 a ha
      have e1 := zip_fun hd hpa hp
      have e2 := zip_fun hd hpb (hnew b hb)
      omega
    · rcases List.mem_append.1 ha with h | h
      · obtain ⟨p, hp, h100⟩ := h3 a h
        exact ⟨p, hp, by omega⟩
      · exact ⟨_, hnew a h, by omega⟩
/-- the sizes of the groups of n skaters: the first one may be smaller -/
def szO (n s : Nat) : List Int := (if 0 < n % s then [((n % s : Nat) : Int)] else []) ++ List.replicate (n / s) (s : Int)
theorem szO_len (n s : Nat) : (szO n s).length = (if 0 < n % s then 1 else 0) + n / s := by
  unfold szO
  rw [List.length_append, List.length_replicate]
  split <;> rfl
theorem szO_get {n s k : Nat} (hk : k < (szO n s).length) : (szO n s)[k]? = some (if k = 0 ∧ 0 < n % s then ((n % s : Nat) : Int) else (s : Int)) := by
  rw [szO_len] at hk
  unfold szO
  by_cases h : 0 < n % s
  · rw [if_pos h] at hk
    rw [if_pos h]
    cases k with
    | zero => simp [h]
    | succ k =>
      rw [if_neg (by omega), List.singleton_append, List.getElem?_cons_succ, List.getElem?_replicate, if_pos (by omega)]
  · rw [if_neg h] at hk
    rw [if_neg h, if_neg (by omega), List.nil_append, List.getElem?_replicate, if_pos (by omega)]
theorem szO_nn {n s : Nat} : ∀ x ∈ szO n s, 0 ≤ x := by
  intro x hx
  obtain ⟨k, hk⟩ := List.getElem?_of_mem hx
  have := szO_get (List.getElem?_eq_some_iff.1 hk).1
  rw [hk] at this
  rw [Option.some.inj this]
  split <;> omega
theorem offO {n s : Nat} : ∀ k, k ≤ (szO n s).length → offZ (szO n s) k = if 0 < n % s then (if k = 0 then 0 else n % s + (k - 1) * s) else k * s
  | 0, _ => by simp [offZ]
  | k + 1, hk => by
    rw [offZ_succ (szO_get (by omega)), offO k (by omega)]
    by_cases h : 0 < n % s
    · rw [if_pos h, if_pos h, if_neg (by omega : ¬ k + 1 = 0)]
      cases k with
      | zero => rw [if_pos rfl, if_pos ⟨rfl, h⟩, Int.toNat_natCast]; simp
      | succ k =>
        rw [if_neg (by omega), if_neg (by omega)]
        simp only [Int.toNat_natCast, Nat.add_sub_cancel, Nat.succ_mul]
        omega
    · rw [if_neg h, if_neg h, if_neg (by omega)]
      simp only [Int.toNat_natCast, Nat.succ_mul]
theorem offO_end (n s : Nat) (_ : 0 < s) : offZ (szO n s) (szO n s).length = n := by
  rw [offO _ (Nat.le_refl _), szO_len]
  have h := Nat.mod_add_div n s
  rw [Nat.mul_comm] at h
  by_cases h0 : 0 < n % s
  · have h1 : ¬ 1 + n / s = 0 := by
      generalize n / s = q
      omega
    rw [if_pos h0, if_pos h0, if_neg h1, Nat.add_sub_cancel_left]
    exact h
  · have h1 : n % s = 0 := by omega
    rw [if_neg h0, if_neg h0, Nat.zero_add]
    rwa [h1, Nat.zero_add] at h
theorem offO_lt {n s k : Nat} (hs : 0 < s) (hk : k < (szO n s).length) : offZ (szO n s) k < n := by
  have h1 := offZ_succ (szO_get hk)
  have h2 := offZ_le (szO n s) (k + 1)
  rw [offO_end n s hs] at h2
  have h3 : 0 < (if k = 0 ∧ 0 < n % s then ((n % s : Nat) : Int) else (s : Int)).toNat := by split <;> omega
  omega
/-- the groups -/
def grO (F : List Int) (s : Nat) : List (List Int) := cutZ (szO F.length s) F (szO F.length s).length
theorem grO_len (F : List Int) (s : Nat) : (grO F s).length = (szO F.length s).length := cutZ_len _ _ _
theorem grO_get {F : List Int} {s k : Nat} (hk : k < (szO F.length s).length) : (grO F s)[k]? = some ((F.drop (offZ (szO F.length s) k)).take (if k = 0 ∧ 0 < F.length % s then F.length % s else s)) := by
  unfold grO cutZ
  rw [List.getElem?_map, List.getElem?_range hk]
  simp only [Option.map_some, List.getD_eq_getElem?_getD, szO_get hk, Option.getD_some]
  congr 2
  split <;> rfl
theorem grO_flat {F : List Int} {s : Nat} : ∀ k, k ≤ (szO F.length s).length → ((grO F s).take k).flatten = F.take (offZ (szO F.length s) k) := by
  intro k hk
  rw [← cut_flat k hk]
  congr 1
  unfold grO cutZ
  rw [← List.map_take, List.take_range, Nat.min_eq_left hk]
theorem stO_perm {ks : List Int} {gs : List (List Int)} (hl : ks.length ≤ 4) (hk : KeyR ks) (hg : gs.length ≤ 1000) (hb : ∀ c ∈ gs, c.length ≤ 40) : ∀ k, k ≤ gs.length → (stTo ks gs k).Perm (gs.take k).flatten
  | 0, _ => by simp [stTo]
  | k + 1, hkk => by
    have hx := List.getElem?_eq_getElem (show k < gs.length by omega)
    have hc := hb _ (List.mem_of_getElem? hx)
    rw [stTo_succ hx, take_snoc hx, List.flatten_append]
    refine (stO_perm hl hk hg hb k (by omega)).append ?_
    rw [List.flatten_singleton]
    refine numZ_perm (by simp; omega) (fun x h => ?_) (by omega)
    rcases List.mem_append.1 h with h | h
    · exact hk x h
    · rw [List.mem_singleton.1 h]; omega
/-- an order by places -/
def obZ (ks F : List Int) (s : Nat) : List Int := stTo ks (grO F s) (grO F s).length
def ByOk (ks sk pl : List Int) (s : Int) : Prop := KeysOk ks ∧ OrdOk sk ∧ pl.length = sk.length ∧ (∀ x ∈ pl, 1 ≤ x ∧ x ≤ 99) ∧ 1 ≤ s ∧ s ≤ 8
noncomputable abbrev ansOrderByPlaces (ks sk pl : List Int) (s : Int) : Option (List Int) := optP (ByOk ks sk pl s) (obZ ks (fallT ks sk pl 99) s.toNat)
theorem szO_le {n s : Nat} (hs : 0 < s) : (szO n s).length ≤ n := by
  rw [szO_len]
  have h := Nat.mod_add_div n s
  have h2 : n / s ≤ s * (n / s) := Nat.le_mul_of_pos_left _ hs
  split <;> omega
theorem grO_bd {F : List Int} {s : Nat} (hF : F.length ≤ 40) : ∀ c ∈ grO F s, c.length ≤ 40 := by
  intro c hc
  obtain ⟨k, hk⟩ := List.getElem?_of_mem hc
  have hlt := (List.getElem?_eq_some_iff.1 hk).1
  rw [grO_len] at hlt
  rw [grO_get hlt] at hk
  rw [← Option.some.inj hk, List.length_take, List.length_drop]
  omega
theorem ob_to {ks F : List Int} {s : Nat} (hl : ks.length ≤ 4) (hk : KeyR ks) (hF : F.length ≤ 40) (hs : 0 < s) {k : Nat} (hkk : k ≤ (szO F.length s).length) : (stTo ks (grO F s) k).Perm (F.take (offZ (szO F.length s) k)) := by
  have h1 := szO_le (n := F.length) hs
  rw [← grO_flat k hkk]
  exact stO_perm hl hk (by rw [grO_len]; omega) (grO_bd hF) k (by rw [grO_len]; exact hkk)
theorem ob_perm {ks F : List Int} {s : Nat} (hl : ks.length ≤ 4) (hk : KeyR ks) (hF : F.length ≤ 40) (hs : 0 < s) : (obZ ks F s).Perm F := by
  unfold obZ
  rw [grO_len]
  have h := ob_to hl hk hF hs (Nat.le_refl _)
  rwa [offO_end _ _ hs, List.take_length] at h
/-- the last group -/
theorem ob_last {ks F : List Int} {s : Nat} (hl : ks.length ≤ 4) (hk : KeyR ks) (hF : F.length ≤ 40) (hs : 0 < s) (h : s < F.length) : ((obZ ks F s).take (F.length - s)).Perm (F.take (F.length - s)) ∧ ((obZ ks F s).drop (F.length - s)).Perm (F.drop (F.length - s)) := by
  have hle := szO_le (n := F.length) hs
  have hpos : 1 ≤ F.length / s := Nat.div_pos (by omega) hs
  obtain ⟨m, hm⟩ : ∃ m, (szO F.length s).length = m + 1 := ⟨(szO F.length s).length - 1, by rw [szO_len]; omega⟩
  have hend := offO_end F.length s hs
  rw [hm, offZ_succ (szO_get (by omega))] at hend
  have hsz : (if m = 0 ∧ 0 < F.length % s then ((F.length % s : Nat) : Int) else (s : Int)) = (s : Int) := by
    refine if_neg fun h0 => ?_
    rw [szO_len, if_pos h0.2] at hm
    omega
  rw [hsz, Int.toNat_natCast] at hend
  have hoff : offZ (szO F.length s) m = F.length - s := by omega
  have h1 := ob_to hl hk hF hs (show m ≤ (szO F.length s).length by omega)
  rw [hoff] at h1
  have hl1 : (stTo ks (grO F s) m).length = F.length - s := by rw [h1.length_eq, List.length_take]; omega
  have hg := grO_get (show m < (szO F.length s).length by omega)
  have hsn : (if m = 0 ∧ 0 < F.length % s then F.length % s else s) = s := by
    refine if_neg fun h0 => ?_
    rw [szO_len, if_pos h0.2] at hm
    omega
  rw [hsn, hoff, List.take_of_length_le (by rw [List.length_drop]; omega)] at hg
  have he : obZ ks F s = stTo ks (grO F s) m ++ numZ (ks ++ [(m : Int)]) (F.drop (F.length - s)) := by
    unfold obZ
    rw [grO_len, hm, stTo_succ hg]
  rw [he, List.take_left' hl1, List.drop_left' hl1]
  refine ⟨h1, numZ_perm (by simp; omega) (hk.app (KeyR.one (by omega) (by omega))) (by rw [List.length_drop]; omega)⟩
theorem ByOk.perm {ks sk pl : List Int} {s : Int} (h : ByOk ks sk pl s) : (obZ ks (fallT ks sk pl 99) s.toNat).Perm sk := by
  obtain ⟨⟨h1, h2⟩, h3, h4, h5, h6, h7⟩ := h
  have hp := fall_all h1 h2 h3.1 h4 h5
  exact (ob_perm h1 h2 (by rw [hp.length_eq]; exact h3.1) (by omega)).trans hp
/-- a place in the last group is not greater than one before it -/
theorem ByOk.edge {ks sk pl : List Int} {s : Int} (h : ByOk ks sk pl s) (he : s.toNat < sk.length) {i k : Nat} {a b p q : Int} (ha : sk[i]? = some a) (hp : pl[i]? = some p) (hb : sk[k]? = some b) (hq : pl[k]? = some q)
    (h1 : a ∈ (obZ ks (fallT ks sk pl 99) s.toNat).drop (sk.length - s.toNat)) (h2 : b ∈ (obZ ks (fallT ks sk pl 99) s.toNat).take (sk.length - s.toNat)) : p ≤ q := by
  obtain ⟨⟨k1, k2⟩, h3, h4, h5, h6, h7⟩ := h
  have hf := fall_all k1 k2 h3.1 h4 h5
  have hFl := hf.length_eq
  have hsort := (fall_sorted (pl := pl) k1 k2 h3.1 (ord_ne h3) 99 (Nat.le_refl _)).1
  obtain ⟨hx, hy⟩ := ob_last (ks := ks) (F := fallT ks sk pl 99) (s := s.toNat) k1 k2 (by have := h3.1; omega) (by omega) (by omega)
  rw [hFl] at hx hy
  have ma := hy.mem_iff.1 h1
  have mb := hx.mem_iff.1 h2
  rw [← List.take_append_drop (sk.length - s.toNat) (fallT ks sk pl 99)] at hsort
  have hr := (List.pairwise_append.1 hsort).2.2 b mb a ma
  exact hr q p (List.mem_of_getElem? (zip_at hb hq)) (List.mem_of_getElem? (zip_at ha hp))
end Go.Proofs.YthocihmhljmgdaaGreatDoor

/-
  Words on texts: a text cut at each place of a byte, as the library cuts it and as a loop cuts it. No program is named here.
-/
namespace Go.Proofs.YthocihmhljmgdaaGreatDoor

/-- a text cut at each place of a byte. -/
def splL (c : UInt8) : List UInt8 → List (List UInt8)
  | [] => [[]]
  | b :: l => if b = c then [] :: splL c l else match splL c l with
    | [] => [[b]]
    | p :: ps => (b :: p) :: ps
/-- a piece ahead of the first piece. -/
def onto (p : List UInt8) : List (List UInt8) → List (List UInt8)
  | [] => [p]
  | q :: qs => (p ++ q) :: qs
theorem splL_eq (c : UInt8) (l : List UInt8) : splL c (c :: l) = [] :: splL c l := by rw [splL, if_pos rfl]
theorem splL_ne {c b : UInt8} (h : b ≠ c) (l : List UInt8) : splL c (b :: l) = onto [b] (splL c l) := by
  rw [splL, if_neg h]
  cases splL c l <;> rfl
theorem splL_len (c : UInt8) : ∀ l : List UInt8, (splL c l).length = l.count c + 1
  | [] => rfl
  | b :: l => by
    have ih := splL_len c l
    by_cases h : b = c
    · subst h; rw [splL_eq, List.length_cons, ih, List.count_cons_self]
    · rw [splL_ne h, List.count_cons_of_ne (by simpa using h), ← ih]
      cases h' : splL c l with
      | nil => rw [h'] at ih; simp at ih
      | cons p ps => rfl
theorem onto_onto (p q : List UInt8) (x : List (List UInt8)) : onto p (onto q x) = onto (p ++ q) x := by
  cases x <;> simp [onto]
theorem onto_nil {x : List (List UInt8)} (h : x ≠ []) : onto [] x = x := by
  cases x with
  | nil => exact absurd rfl h
  | cons p ps => rfl
theorem splL_some (c : UInt8) (l : List UInt8) : splL c l ≠ [] := by
  intro h
  have := splL_len c l
  rw [h] at this
  simp at this
theorem splitK_one (c : UInt8) : ∀ l : List UInt8, Lib.splitK [c] 0 (Lib.count l [c]) l = splL c l
  | [] => by rw [Lib.count_one]; rfl
  | b :: l => by
    have ih := splitK_one c l
    by_cases h : b = c
    · subst h
      have hix : Lib.index (b :: l) [b] = ((0 : Nat) : Int) := by rw [Lib.index]; simp [List.isPrefixOf]
      rw [Lib.count_cons_eq, Nat.add_comm, Lib.splitK, hix, splL_eq]
      simpa using ih
    · have hp : ([c] : List UInt8).isPrefixOf (b :: l) = false := by simp [List.isPrefixOf, Ne.symm h]
      have hix : Lib.index (b :: l) [c] = if Lib.index l [c] == -1 then -1 else Lib.index l [c] + 1 := by rw [Lib.index, hp]; simp
      rw [Lib.count_cons_ne b c l h, splL_ne h, ← ih]
      by_cases hm : Lib.index l [c] = -1
      · rw [Lib.count_miss hm]; rfl
      · have hge := Lib.index_ge l [c]
        obtain ⟨j, hj⟩ : ∃ j : Nat, Lib.index l [c] = j := ⟨(Lib.index l [c]).toNat, by omega⟩
        rw [hj] at hix
        have hj1 : ¬ ((j : Int) == -1) = true := fun e => by have := beq_iff_eq.1 e; omega
        have hj2 : ¬ ((j : Int) + 1 == -1) = true := fun e => by have := beq_iff_eq.1 e; omega
        rw [if_neg hj1] at hix
        rw [Lib.count_hit (by simp) hj, Nat.add_comm, Lib.splitK, Lib.splitK, hix, hj, if_neg hj2, if_neg hj1]
        simp [onto]

/-- a text cut at each place of a byte, as texts. -/
def splB (c : UInt8) (s : ByteArray) : List ByteArray := (splL c s.data.toList).map fun l => ⟨l.toArray⟩
theorem splB_len (c : UInt8) (s : ByteArray) : (splB c s).length = s.data.toList.count c + 1 := by rw [splB, List.length_map, splL_len]
theorem splB_le (c : UInt8) (s : ByteArray) : (splB c s).length ≤ s.size + 1 := by
  rw [splB_len]
  have h := List.count_le_length (a := c) (l := s.data.toList)
  have := Lib.size_eq s
  omega
theorem splB_lib (c : UInt8) (s : ByteArray) : Lib.splitB ⟨#[c]⟩ 0 (Lib.countB s ⟨#[c]⟩) s = splB c s := by
  have h := Lib.splitB_data ⟨#[c]⟩ 0 (Lib.countB s ⟨#[c]⟩) s
  have e : Lib.countB s ⟨#[c]⟩ = Lib.count s.data.toList [c] := rfl
  rw [e] at h ⊢
  have h2 := h.trans (splitK_one c _)
  rw [splB, ← h2, List.map_map]
  conv => lhs; rw [← List.map_id (Lib.splitB _ _ _ _)]
  exact List.map_congr_left fun x _ => by simp
/-- the loop that cuts: where the piece under way begins, and the pieces that are done. -/
def spI (c : UInt8) (s : ByteArray) : Nat → Nat × List ByteArray
  | 0 => (0, [])
  | k + 1 => if s[k]? = some c then (k + 1, (spI c s k).2 ++ [s.extract (spI c s k).1 k]) else spI c s k
theorem spI_le (c : UInt8) (s : ByteArray) : ∀ k, (spI c s k).1 ≤ k ∧ (spI c s k).2.length ≤ k
  | 0 => ⟨Nat.le_refl _, Nat.le_refl _⟩
  | k + 1 => by
    have := spI_le c s k
    unfold spI
    split
    · simp; omega
    · omega
theorem spI_inv (c : UInt8) (s : ByteArray) : ∀ k, k ≤ s.size → (spI c s k).2.map (·.data.toList) ++ onto (s.extract (spI c s k).1 k).data.toList (splL c (s.data.toList.drop k)) = splL c s.data.toList
  | 0, _ => by
    simp only [spI, List.map_nil, List.nil_append, List.drop_zero]
    rw [Lib.extract_data]
    simp only [Nat.sub_self, List.take_zero]
    exact onto_nil (splL_some _ _)
  | k + 1, hk => by
    have ih := spI_inv c s k (by omega)
    have hle := (spI_le c s k).1
    have hsz : s.data.toList.length = s.size := (Lib.size_eq s).symm
    obtain ⟨b, hb⟩ : ∃ b, s.data.toList[k]? = some b := ⟨_, List.getElem?_eq_getElem (by omega)⟩
    have hbs : s[k]? = some b := by
      rw [← hb, getElem?_pos s k (by omega)]
      simp [ByteArray.getElem_eq_getElem_data]
    have hd : s.data.toList.drop k = b :: s.data.toList.drop (k + 1) := by
      have := List.drop_eq_getElem_cons (l := s.data.toList) (i := k) (by omega)
      rw [this]
      rw [List.getElem?_eq_getElem (by omega)] at hb
      simp only [Option.some.injEq] at hb
      rw [hb]
    rw [hd] at ih
    by_cases h : b = c
    · subst h
      have e : spI b s (k + 1) = (k + 1, (spI b s k).2 ++ [s.extract (spI b s k).1 k]) := by rw [spI, if_pos hbs]
      rw [e]
      rw [splL_eq] at ih
      rw [← ih]
      have : (s.extract (k + 1) (k + 1)).data.toList = [] := by rw [Lib.extract_data]; simp
      simp only [this]
      rw [onto_nil (splL_some _ _)]
      simp [onto]
    · have e : spI c s (k + 1) = spI c s k := by rw [spI, if_neg (by rw [hbs]; simpa using h)]
      rw [e, ← ih, splL_ne h, onto_onto]
      congr 2
      rw [Lib.extract_data, Lib.extract_data]
      have := List.take_add_one (l := s.data.toList.drop (spI c s k).1) (i := k - (spI c s k).1)
      rw [show k + 1 - (spI c s k).1 = k - (spI c s k).1 + 1 by omega, this, List.getElem?_drop, show (spI c s k).1 + (k - (spI c s k).1) = k by omega, hb]
      rfl
theorem spI_end (c : UInt8) (s : ByteArray) : (spI c s s.size).2 ++ [s.extract (spI c s s.size).1 s.size] = splB c s := by
  have h := spI_inv c s s.size (Nat.le_refl _)
  have hd : s.data.toList.drop s.size = [] := List.drop_eq_nil_of_le (by rw [← Lib.size_eq]; exact Nat.le_refl _)
  rw [hd] at h
  simp only [splL, onto, List.append_nil] at h
  rw [splB, ← h, List.map_append, List.map_map]
  congr 1
  conv => lhs; rw [← List.map_id (spI c s s.size).2]
  exact List.map_congr_left fun x _ => by simp
/-- where the piece under way begins; the pieces that are done -/
def spF (c : UInt8) (s : ByteArray) (k : Nat) : Nat := (spI c s k).1
def spO (c : UInt8) (s : ByteArray) (k : Nat) : List ByteArray := (spI c s k).2
theorem spF_zero (c : UInt8) (s : ByteArray) : spF c s 0 = 0 := rfl
theorem spO_zero (c : UInt8) (s : ByteArray) : spO c s 0 = [] := rfl
theorem spF_le (c : UInt8) (s : ByteArray) (k : Nat) : spF c s k ≤ k := (spI_le c s k).1
theorem spO_len (c : UInt8) (s : ByteArray) (k : Nat) : (spO c s k).length ≤ k := (spI_le c s k).2
theorem sp_yes {c : UInt8} {s : ByteArray} {k : Nat} (h : s[k]? = some c) : spF c s (k + 1) = k + 1 ∧ spO c s (k + 1) = spO c s k ++ [s.extract (spF c s k) k] := by
  unfold spF spO
  rw [spI, if_pos h]
  exact ⟨rfl, rfl⟩
theorem sp_no {c : UInt8} {s : ByteArray} {k : Nat} (h : s[k]? ≠ some c) : spF c s (k + 1) = spF c s k ∧ spO c s (k + 1) = spO c s k := by
  unfold spF spO
  rw [spI, if_neg h]
  exact ⟨rfl, rfl⟩
theorem sp_end (c : UInt8) (s : ByteArray) : spO c s s.size ++ [s.extract (spF c s s.size) s.size] = splB c s := spI_end c s

end Go.Proofs.YthocihmhljmgdaaGreatDoor

/-
  Notes: their words.
-/
namespace Go.Proofs.YthocihmhljmgdaaGreatDoor
open Go.RowKit

structure NoteD where
  skater : Int
  before : Int
  inn : Int

def NoteD.enc (x : NoteD) : List Value := [.int .i64 x.skater, .int .i64 x.before, .int .i64 x.inn]
theorem NoteD.eq {x y : NoteD} (h0 : x.skater = y.skater) (h1 : x.before = y.before) (h2 : x.inn = y.inn) : x = y := by cases x; cases y; cases h0; cases h1; cases h2; rfl

end Go.Proofs.YthocihmhljmgdaaGreatDoor

/-
  Notes: when they are valid, which note of a skater holds in a segment; the program's functions and the reference's, in the abstract machine.
-/
set_option linter.unusedSimpArgs false
set_option linter.unusedVariables false
set_option maxHeartbeats 2000000
set_option maxRecDepth 100000
namespace Go.Proofs.YthocihmhljmgdaaGreatDoor
open Go.RowKit

def NoteD.dat (x : NoteD) : List D := [.int .i64 x.skater, .int .i64 x.before, .int .i64 x.inn]
/-- what is asked of a note but for its substitute's being among those who withdraw -/
def NoteLo (l : List NoteD) (k : Nat) (x : NoteD) : Prop := 1 ≤ x.skater ∧ x.skater ≤ 999 ∧ 0 ≤ x.before ∧ x.before ≤ 2 ∧ 0 ≤ x.inn ∧ x.inn ≤ 999 ∧ x.skater ∉ (l.take k).map NoteD.skater ∧ (x.inn = 0 ∨ (x.before ≤ 0 ∧ x.inn ∉ (l.take k).map NoteD.inn))
def NoteAt (l : List NoteD) (k : Nat) (x : NoteD) : Prop := NoteLo l k x ∧ (x.inn = 0 ∨ x.inn ∉ l.map NoteD.skater)
def NotesOk (l : List NoteD) : Prop := l.length ≤ 40 ∧ All (NoteAt l) l
theorem NotesOk.not_at {l : List NoteD} {k : Nat} {x : NoteD} (hx : l[k]? = some x) (hf : ¬ NoteAt l k x) : ¬ NotesOk l := fun h => hf (h.2 k x hx)
/-- the note of a skater that holds in a segment -/
def hdp (n seg : Int) (x : NoteD) : Bool := decide (x.skater = n) && decide (x.before ≤ seg)
end Go.Proofs.YthocihmhljmgdaaGreatDoor

/-
  Words on texts of numbers and of notes: written, read, and that both fit. No program is named here.
-/
namespace Go.Proofs.YthocihmhljmgdaaGreatDoor

/-- a digit -/
def dgt (d : Nat) : UInt8 := UInt8.ofNat (48 + d)
theorem dgt_nat {d : Nat} (h : d < 10) : (dgt d).toNat = 48 + d := by unfold dgt; simp; omega
/-- a number's text -/
def numL (n : Nat) : List UInt8 := if n < 10 then [dgt n] else numL (n / 10) ++ [dgt (n % 10)]
decreasing_by omega
theorem numL_lt {n : Nat} (h : n < 10) : numL n = [dgt n] := by rw [numL, if_pos h]
theorem numL_ge {n : Nat} (h : 10 ≤ n) : numL n = numL (n / 10) ++ [dgt (n % 10)] := by rw [numL, if_neg (by omega)]
/-- a text's number -/
def readL (l : List UInt8) : Nat := l.foldl (fun a b => 10 * a + (b.toNat - 48)) 0
theorem readL_nil : readL [] = 0 := rfl
theorem readL_snoc (l : List UInt8) (b : UInt8) : readL (l ++ [b]) = 10 * readL l + (b.toNat - 48) := by simp [readL]
def isDig (b : UInt8) : Prop := 48 ≤ b.toNat ∧ b.toNat ≤ 57
theorem dgt_dig {d : Nat} (h : d < 10) : isDig (dgt d) := by unfold isDig; rw [dgt_nat h]; omega
theorem dig_dgt {b : UInt8} (h : isDig b) : dgt (b.toNat - 48) = b := by
  apply UInt8.toNat_inj.1
  unfold isDig at h
  rw [dgt_nat (by omega)]
  omega
/-- a number's text as it should be: digits, no nought ahead -/
def canon (l : List UInt8) : Prop := (∀ b ∈ l, isDig b) ∧ (l.length = 1 ∨ (1 < l.length ∧ l[0]? ≠ some 48))
theorem numL_dig (n : Nat) : ∀ b ∈ numL n, isDig b := by
  by_cases h : n < 10
  · rw [numL_lt h]; intro b hb; rw [List.mem_singleton] at hb; subst hb; exact dgt_dig h
  · rw [numL_ge (by omega)]
    intro b hb
    rcases List.mem_append.1 hb with hb | hb
    · exact numL_dig (n / 10) b hb
    · rw [List.mem_singleton] at hb; subst hb; exact dgt_dig (by omega)
termination_by n
decreasing_by omega
theorem numL_pos (n : Nat) : 0 < (numL n).length := by
  by_cases h : n < 10
  · rw [numL_lt h]; simp
  · rw [numL_ge (by omega)]; simp
theorem numL_head (n : Nat) (hn : 0 < n) : (numL n)[0]? ≠ some 48 := by
  by_cases h : n < 10
  · rw [numL_lt h]
    intro h'
    have : dgt n = 48 := by simpa using h'
    have h2 := dgt_nat h
    rw [this] at h2
    simp at h2
    omega
  · rw [numL_ge (by omega), List.getElem?_append_left (numL_pos _)]
    exact numL_head (n / 10) (by omega)
termination_by n
decreasing_by omega
theorem numL_canon (n : Nat) : canon (numL n) := by
  refine ⟨numL_dig n, ?_⟩
  by_cases h : n < 10
  · left; rw [numL_lt h]; rfl
  · right
    refine ⟨?_, numL_head n (by omega)⟩
    rw [numL_ge (by omega), List.length_append]
    have := numL_pos (n / 10)
    simp; omega
theorem readL_numL (n : Nat) : readL (numL n) = n := by
  by_cases h : n < 10
  · rw [numL_lt h, ← List.nil_append [dgt n], readL_snoc, readL_nil, dgt_nat h]; omega
  · rw [numL_ge (by omega), readL_snoc, readL_numL (n / 10), dgt_nat (by omega)]; omega
termination_by n
decreasing_by omega
theorem snoc_ind {α : Type} {p : List α → Prop} (h0 : p []) (h1 : ∀ r a, p r → p (r ++ [a])) (l : List α) : p l := by
  have h : ∀ r : List α, p r.reverse := by
    intro r
    induction r with
    | nil => exact h0
    | cons a r ih => rw [List.reverse_cons]; exact h1 _ _ ih
  have := h l.reverse
  rwa [List.reverse_reverse] at this
theorem numL_readL_aux (l : List UInt8) : ∀ b, (∀ x ∈ l ++ [b], isDig x) → (l = [] ∨ (l ++ [b])[0]? ≠ some 48) → numL (readL (l ++ [b])) = l ++ [b] := by
  induction l using snoc_ind with
  | h0 =>
    intro b hd _
    have hb := hd b (by simp)
    rw [readL_snoc, readL_nil]
    have h2 := hb
    unfold isDig at h2
    rw [numL_lt (by omega), show 10 * 0 + (b.toNat - 48) = b.toNat - 48 by omega, dig_dgt hb]
    rfl
  | h1 r a ih =>
    intro b hd hh
    have hb := hd b (by simp)
    have hda : ∀ x ∈ r ++ [a], isDig x := fun x hx => hd x (List.mem_append_left _ hx)
    have hne : (r ++ [a])[0]? ≠ some 48 := by
      rcases hh with h | h
      · simp at h
      · rwa [List.getElem?_append_left (by simp)] at h
    have e := ih a hda (.inr hne)
    have hpos : 0 < readL (r ++ [a]) := by
      rcases Nat.eq_zero_or_pos (readL (r ++ [a])) with h0 | h0
      · rw [h0, numL_lt (by omega)] at e
        rw [← e] at hne
        exact absurd rfl hne
      · exact h0
    have h2 := hb
    unfold isDig at h2
    rw [readL_snoc, numL_ge (by omega), show (10 * readL (r ++ [a]) + (b.toNat - 48)) / 10 = readL (r ++ [a]) by omega, show (10 * readL (r ++ [a]) + (b.toNat - 48)) % 10 = b.toNat - 48 by omega, e, dig_dgt hb]
theorem numL_readL {l : List UInt8} (h : canon l) : numL (readL l) = l := by
  rcases List.eq_nil_or_concat l with rfl | ⟨r, b, rfl⟩
  · have := h.2; simp at this
  · rw [List.concat_eq_append] at h ⊢
    refine numL_readL_aux r b h.1 ?_
    rcases h.2 with h2 | h2
    · left
      simp at h2
      exact h2
    · exact .inr h2.2
theorem readL_lt {l : List UInt8} (hd : ∀ b ∈ l, isDig b) : readL l < 10 ^ l.length := by
  induction l using snoc_ind with
  | h0 => simp [readL]
  | h1 r a ih =>
    have h1 := ih fun x hx => hd x (List.mem_append_left _ hx)
    have h2 := hd a (by simp)
    unfold isDig at h2
    rw [readL_snoc, List.length_append, List.length_singleton, Nat.pow_succ]
    omega
theorem numL_len {n : Nat} (h : n < 1000) : (numL n).length ≤ 3 := by
  by_cases h1 : n < 10
  · rw [numL_lt h1]; simp
  · rw [numL_ge (by omega)]
    by_cases h2 : n / 10 < 10
    · rw [numL_lt h2]; simp
    · rw [numL_ge (by omega), numL_lt (show n / 10 / 10 < 10 by omega)]; simp

/-! cutting -/
theorem splL_app {c : UInt8} : ∀ {p : List UInt8} (r : List UInt8), c ∉ p → splL c (p ++ c :: r) = p :: splL c r
  | [], r, _ => by rw [List.nil_append, splL_eq]
  | b :: p, r, h => by
    have hb : b ≠ c := fun e => h (by rw [e]; exact List.mem_cons_self)
    rw [List.cons_append, splL_ne hb, splL_app r (fun hm => h (List.mem_cons_of_mem _ hm))]
    rfl
theorem splL_no {c : UInt8} : ∀ {p : List UInt8}, c ∉ p → splL c p = [p]
  | [], _ => rfl
  | b :: p, h => by
    have hb : b ≠ c := fun e => h (by rw [e]; exact List.mem_cons_self)
    rw [splL_ne hb, splL_no (fun hm => h (List.mem_cons_of_mem _ hm))]
    rfl
/-- pieces put together again -/
def joinL (c : UInt8) : List (List UInt8) → List UInt8
  | [] => []
  | [p] => p
  | p :: q :: r => p ++ c :: joinL c (q :: r)
theorem join_onto (c b : UInt8) (x : List (List UInt8)) : joinL c (onto [b] x) = b :: joinL c x := by
  match x with
  | [] => rfl
  | [p] => rfl
  | p :: q :: r => rfl
theorem join_splL (c : UInt8) : ∀ l : List UInt8, joinL c (splL c l) = l
  | [] => rfl
  | b :: l => by
    have ih := join_splL c l
    by_cases h : b = c
    · subst h
      rw [splL_eq]
      have := splL_some b l
      cases hs : splL b l with
      | nil => exact absurd hs this
      | cons p ps => rw [joinL, ← hs, ih]; rfl
    · rw [splL_ne h, join_onto, ih]

/-! notes -/
def numI (z : Int) : List UInt8 := numL z.toNat
theorem no_dig {c : UInt8} (hc : c.toNat < 48) (n : Int) : c ∉ numI n := fun h => by have := numL_dig _ c h; unfold isDig at this; omega
/-- the reference's reading of a word -/
noncomputable def rdS (w : List UInt8) : Int := by
  classical exact if canon w ∧ w.length ≤ 6 then (readL w : Int) else -1
theorem rdS_yes {w : List UInt8} (h : canon w ∧ w.length ≤ 6) : rdS w = (readL w : Int) := by unfold rdS; rw [if_pos h]
theorem rdS_no {w : List UInt8} (h : ¬ (canon w ∧ w.length ≤ 6)) : rdS w = -1 := by unfold rdS; rw [if_neg h]
theorem rdS_num {n : Int} (h0 : 0 ≤ n) (h : n ≤ 999) : rdS (numI n) = n := by
  have h1 := numL_len (n := n.toNat) (by omega)
  unfold numI
  rw [rdS_yes ⟨numL_canon _, by omega⟩, readL_numL]
  omega
/-- the program's reading of a word -/
noncomputable def natV (w : List UInt8) : Option Int := by
  classical exact if canon w ∧ w.length ≤ 12 then some (readL w : Int) else none
theorem natV_yes {w : List UInt8} (h : canon w ∧ w.length ≤ 12) : natV w = some (readL w : Int) := by unfold natV; rw [if_pos h]
theorem natV_no {w : List UInt8} (h : ¬ (canon w ∧ w.length ≤ 12)) : natV w = none := by unfold natV; rw [if_neg h]
noncomputable def intV (w : List UInt8) : Option Int := match w with
  | [] => none
  | b :: r => if b = 45 then (match natV r with
      | some n => if n = 0 then none else some (-n)
      | none => none) else natV (b :: r)
theorem intV_neg {r : List UInt8} : intV (45 :: r) = (match natV r with | some n => if n = 0 then none else some (-n) | none => none) := by rw [intV, if_pos rfl]
theorem intV_pos {w : List UInt8} (h : w[0]? ≠ some 45) : intV w = natV w := by
  cases w with
  | nil => rw [natV_no (by rintro ⟨⟨_, h⟩, _⟩; simp at h)]; rfl
  | cons b r =>
    rw [intV, if_neg (by simpa using h)]
theorem natV_ge {w : List UInt8} {n : Int} (h : natV w = some n) : 0 ≤ n ∧ n ≤ 999999999999 ∧ numI n = w := by
  by_cases hc : canon w ∧ w.length ≤ 12
  · rw [natV_yes hc] at h
    cases h
    have h1 := readL_lt hc.1.1
    have h2 : (10 : Nat) ^ w.length ≤ 10 ^ 12 := Nat.pow_le_pow_right (by decide) hc.2
    refine ⟨by omega, by omega, ?_⟩
    unfold numI
    rw [Int.toNat_natCast, numL_readL hc.1]
  · rw [natV_no hc] at h; cases h
theorem intV_bd {w : List UInt8} {n : Int} (h : intV w = some n) : -999999999999 ≤ n ∧ n ≤ 999999999999 ∧ (0 ≤ n → numI n = w) := by
  by_cases h1 : w[0]? = some 45
  · cases w with
    | nil => simp at h1
    | cons b r =>
      have hb : b = 45 := by simpa using h1
      subst hb
      rw [intV_neg] at h
      cases hn : natV r with
      | none => rw [hn] at h; cases h
      | some m =>
        rw [hn] at h
        have := natV_ge hn
        by_cases h0 : m = 0
        · simp [h0] at h
        · simp [h0] at h
          subst h
          exact ⟨by omega, by omega, fun h3 => by omega⟩
  · rw [intV_pos h1] at h
    have := natV_ge h
    exact ⟨by omega, by omega, fun _ => this.2.2⟩
theorem intV_num {n : Int} (h0 : 0 ≤ n) (h : n ≤ 999) : intV (numI n) = some n := by
  have h1 := numL_len (n := n.toNat) (by omega)
  rw [intV_pos]
  · unfold numI
    rw [natV_yes ⟨numL_canon _, by omega⟩, readL_numL]
    congr 1
    omega
  · intro h2
    have := no_dig (c := 45) (by decide) n
    exact this (List.mem_of_getElem? h2)
/-- the words' numbers, if all of them are numbers -/
noncomputable def intsV (ws : List (List UInt8)) : Option (List Int) := optP (∀ w ∈ ws, (intV w).isSome = true) (ws.map fun w => (intV w).getD 0)
/-- a text's bytes -/
def bl (s : ByteArray) : List UInt8 := s.data.toList
def ba (l : List UInt8) : ByteArray := ⟨l.toArray⟩
theorem bl_ba (l : List UInt8) : bl (ba l) = l := rfl
theorem ba_bl (s : ByteArray) : ba (bl s) = s := rfl
theorem bl_len (s : ByteArray) : (bl s).length = s.size := (Lib.size_eq s).symm
theorem ba_size (l : List UInt8) : (ba l).size = l.length := by rw [← bl_len, bl_ba]
theorem bl_get (s : ByteArray) (k : Nat) : (bl s)[k]? = s[k]? := by
  by_cases hk : k < s.size
  · rw [getElem?_pos s k hk, List.getElem?_eq_getElem (by rw [bl_len]; exact hk)]
    rfl
  · rw [getElem?_neg s k hk, List.getElem?_eq_none (by rw [bl_len]; omega)]
theorem bl_app (a b : ByteArray) : bl (a ++ b) = bl a ++ bl b := by unfold bl; simp
theorem ba_app (a b : List UInt8) : ba a ++ ba b = ba (a ++ b) := by
  have h := bl_app (ba a) (ba b)
  rw [bl_ba, bl_ba] at h
  rw [← ba_bl (ba a ++ ba b), h]
theorem bl_inj {a b : ByteArray} (h : bl a = bl b) : a = b := by rw [← ba_bl a, ← ba_bl b, h]
theorem splB_bl (c : UInt8) (s : ByteArray) : (splB c s).map bl = splL c (bl s) := by
  unfold splB
  rw [List.map_map]
  conv => rhs; rw [← List.map_id (splL c (bl s))]
  exact List.map_congr_left fun x _ => rfl
theorem splB_len2 (c : UInt8) (s : ByteArray) : (splB c s).length = (splL c (bl s)).length := by rw [← splB_bl, List.length_map]
theorem bl_extract (s : ByteArray) (a b : Nat) : bl (s.extract a b) = ((bl s).drop a).take (b - a) := Lib.extract_data s a b
end Go.Proofs.YthocihmhljmgdaaGreatDoor
