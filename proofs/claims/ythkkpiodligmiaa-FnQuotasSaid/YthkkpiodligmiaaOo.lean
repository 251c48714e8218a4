/-
  The order of results: plain words (an insertion sort under a total order; the order of the program). No program is named here.
-/
import Derived.Test.YthkkpiodligmiaaRo
import Derived.Sort.Statements
namespace Go.Proofs.Ythkkpiodligmiaa
open Go.RowKit

/-- a strict total order on those that satisfy S -/
structure TotOn {α : Type} (lt : α → α → Bool) (S : α → Prop) : Prop where
  asymm : ∀ {a b}, S a → S b → lt a b = true → lt b a = false
  trans : ∀ {a b c}, S a → S b → S c → lt a b = true → lt b c = true → lt a c = true
  total : ∀ {a b}, S a → S b → lt a b = false → lt b a = false → a = b
def insO {α : Type} (lt : α → α → Bool) (x : α) : List α → List α
  | [] => [x]
  | y :: ys => if lt y x = true then y :: insO lt x ys else x :: y :: ys
theorem insO_perm {α : Type} (lt : α → α → Bool) (x : α) : ∀ l : List α, (insO lt x l).Perm (x :: l)
  | [] => List.Perm.refl _
  | y :: ys => by
    unfold insO
    split
    · exact ((insO_perm lt x ys).cons y).trans (List.Perm.swap x y ys)
    · exact List.Perm.refl _
theorem insO_sorted {α : Type} {lt : α → α → Bool} {S : α → Prop} (hT : TotOn lt S) {x : α} (hx : S x) : ∀ {l : List α}, (∀ y ∈ l, S y) → (∀ y ∈ l, y ≠ x) → l.Pairwise (fun a b => lt a b = true) → (insO lt x l).Pairwise (fun a b => lt a b = true)
  | [], _, _, _ => by simp [insO]
  | y :: ys, hS, hne, hp => by
    have hy := hS y (by simp)
    have h1 := (List.pairwise_cons.1 hp).1
    have h2 := (List.pairwise_cons.1 hp).2
    unfold insO
    split
    · rename_i h
      refine List.pairwise_cons.2 ⟨fun z hz => ?_, insO_sorted hT hx (fun z hz => hS z (List.mem_cons_of_mem _ hz)) (fun z hz => hne z (List.mem_cons_of_mem _ hz)) h2⟩
      rcases List.mem_cons.1 ((insO_perm lt x ys).mem_iff.1 hz) with rfl | hz
      · exact h
      · exact h1 z hz
    · rename_i h
      have hxy : lt x y = true := by
        cases e : lt x y with
        | true => rfl
        | false => exact absurd (hT.total hy hx (by simpa using h) e) (hne y (by simp))
      refine List.pairwise_cons.2 ⟨fun z hz => ?_, hp⟩
      rcases List.mem_cons.1 hz with rfl | hz'
      · exact hxy
      · exact hT.trans hx hy (hS z hz) hxy (h1 z hz')
theorem insO_at {α : Type} {lt : α → α → Bool} {S : α → Prop} (hT : TotOn lt S) {x : α} (hx : S x) : ∀ (l : List α) (k : Nat), (∀ y ∈ l, S y) → l.Pairwise (fun a b => lt a b = true) → k ≤ l.length → (∀ j y, k ≤ j → l[j]? = some y → lt y x = false) → (∀ y, 0 < k → l[k - 1]? = some y → lt y x = true) → insO lt x l = l.take k ++ x :: l.drop k
  | [], k, _, _, hk, _, _ => by
    have : k = 0 := by simpa using hk
    subst this
    rfl
  | y :: ys, 0, _, _, _, h1, _ => by
    unfold insO
    rw [if_neg (by rw [h1 0 y (by omega) rfl]; simp)]
    rfl
  | y :: ys, k + 1, hS, hp, hk, h1, h2 => by
    have hp1 := (List.pairwise_cons.1 hp).1
    have hp2 := (List.pairwise_cons.1 hp).2
    have hyx : lt y x = true := by
      cases k with
      | zero => exact h2 y (by omega) rfl
      | succ k =>
        have hlt : k < ys.length := by simp at hk; omega
        have hz := List.getElem?_eq_getElem hlt
        have h3 := h2 ys[k] (by omega) (by simp)
        exact hT.trans (hS y (by simp)) (hS _ (List.mem_cons_of_mem _ (List.mem_of_getElem? hz))) hx (hp1 _ (List.mem_of_getElem? hz)) h3
    unfold insO
    rw [if_pos hyx, insO_at hT hx ys k (fun z hz => hS z (List.mem_cons_of_mem _ hz)) hp2 (by simpa using hk) (fun j z hj hz => h1 (j + 1) z (by omega) (by simpa using hz)) (fun z hk0 hz => h2 z (by omega) (by rw [show k + 1 - 1 = (k - 1) + 1 by omega, List.getElem?_cons_succ]; exact hz))]
    rfl
/-- those of a list inserted one by one -/
def ordO {α : Type} (lt : α → α → Bool) : List α → List α
  | [] => []
  | x :: xs => insO lt x (ordO lt xs)
theorem sorted_one {α : Type} {lt : α → α → Bool} {S : α → Prop} (hT : TotOn lt S) {xs ys : List α} (hS : ∀ x ∈ xs, S x) (hp : xs.Perm ys) (h1 : xs.Pairwise (fun a b => lt a b = true)) (h2 : ys.Pairwise (fun a b => lt a b = true)) : xs = ys :=
  List.Perm.eq_of_pairwise (le := fun a b => lt a b = true) (fun a b ha hb h3 h4 => by rw [hT.asymm (hS a ha) (hS b (hp.mem_iff.2 hb)) h3] at h4; cases h4) h1 h2 hp

/-- what the program's comparison of the results at two places says -/
def resAt (l : List ResultD) (i : Int) : ResultD := l.getD i.toNat ⟨0, []⟩
def cfR (l : List ResultD) (i k : Int) : Int := if cmpR (resAt l i) (resAt l k) = 0 then (resAt l i).skater - (resAt l k).skater else - cmpR (resAt l i) (resAt l k)
def ltR (l : List ResultD) (i k : Int) : Bool := decide (cfR l i k < 0)
def inL (l : List ResultD) (i : Int) : Prop := 0 ≤ i ∧ i < (l.length : Int)
theorem inL.at_ {l : List ResultD} {i : Int} (h : inL l i) : l[i.toNat]? = some (resAt l i) := by
  have hi : i.toNat < l.length := by have := h.1; have := h.2; omega
  unfold resAt
  rw [List.getD_eq_getElem?_getD, List.getElem?_eq_getElem hi]
  rfl
theorem resAt_of {l : List ResultD} {k : Nat} {x : ResultD} (hx : l[k]? = some x) : resAt l (k : Int) = x := by
  unfold resAt
  rw [List.getD_eq_getElem?_getD, Int.toNat_natCast, hx]
  rfl
theorem ResultsOk.sk_ne {l : List ResultD} (hv : ResultsOk l) {i k : Nat} {x z : ResultD} (hx : l[i]? = some x) (hz : l[k]? = some z) (h : i < k) : x.skater ≠ z.skater := by
  intro e
  refine (hv.2 k z hz).2.2 (e ▸ List.mem_map.2 ⟨x, List.mem_of_getElem? (i := i) ?_, rfl⟩)
  rw [List.getElem?_take_of_lt h]; exact hx
theorem ResultsOk.sk_eq {l : List ResultD} (hv : ResultsOk l) {i k : Nat} {x z : ResultD} (hx : l[i]? = some x) (hz : l[k]? = some z) (h : x.skater = z.skater) : i = k := by
  rcases Nat.lt_trichotomy i k with h1 | h1 | h1
  · exact absurd h (hv.sk_ne hx hz h1)
  · exact h1
  · exact absurd h.symm (hv.sk_ne hz hx h1)
theorem cfR_bd {l : List ResultD} (hv : ResultsOk l) {i k : Int} (hi : inL l i) (hk : inL l k) : -999 ≤ (resAt l i).skater - (resAt l k).skater ∧ (resAt l i).skater - (resAt l k).skater ≤ 999 := by
  have h1 := (hv.at_ hi.at_).1
  have h2 := (hv.at_ hk.at_).1
  unfold ResOk at h1 h2
  omega
theorem ltR_iff {l : List ResultD} {i k : Int} : ltR l i k = true ↔ 0 < cmpR (resAt l i) (resAt l k) ∨ (cmpR (resAt l i) (resAt l k) = 0 ∧ (resAt l i).skater < (resAt l k).skater) := by
  unfold ltR cfR
  rw [decide_eq_true_eq]
  split <;> omega
theorem ltR_tot {l : List ResultD} (hv : ResultsOk l) : TotOn (ltR l) (inL l) := by
  have hl : ∀ {i}, inL l i → (resAt l i).scores.length = len0 l := fun hi => (hv.at_ hi.at_).2
  have anti : ∀ {i k}, inL l i → inL l k → cmpR (resAt l k) (resAt l i) = - cmpR (resAt l i) (resAt l k) := fun hi hk => cmpR_anti ((hl hi).trans (hl hk).symm)
  refine ⟨fun {a b} ha hb h => ?_, fun {a b c} ha hb hc h1 h2 => ?_, fun {a b} ha hb h1 h2 => ?_⟩
  · have h3 := anti ha hb
    rw [ltR_iff] at h
    rw [Bool.eq_false_iff]
    intro h4
    rw [ltR_iff] at h4
    omega
  · rw [ltR_iff] at h1 h2 ⊢
    have e1 := hl ha
    have e2 := hl hb
    have e3 := hl hc
    rcases h1 with h1 | ⟨h1, h1'⟩
    · rcases h2 with h2 | ⟨h2, h2'⟩
      · exact .inl (cmpR_trans (by omega) (by omega) h1 h2)
      · rw [← cmpR_tie (a := resAt l b) (b := resAt l c) (c := resAt l a) (by omega) (by omega) h2]
        exact .inl h1
    · rcases h2 with h2 | ⟨h2, h2'⟩
      · have h3 := cmpR_tie (a := resAt l a) (b := resAt l b) (c := resAt l c) (by omega) (by omega) h1
        have h4 := anti ha hc
        have h5 := anti hb hc
        exact .inl (by omega)
      · have h3 := cmpR_tie (a := resAt l a) (b := resAt l b) (c := resAt l c) (by omega) (by omega) h1
        have h4 := anti ha hc
        have h5 := anti hb hc
        exact .inr ⟨by omega, by omega⟩
  · have h3 := anti ha hb
    have h1' : ¬ ltR l a b = true := by rw [h1]; simp
    have h2' : ¬ ltR l b a = true := by rw [h2]; simp
    rw [ltR_iff] at h1' h2'
    have e := hv.sk_eq ha.at_ hb.at_ (by omega)
    have := ha.1
    have := hb.1
    omega
/-- the places below m in order -/
def ordZ (l : List ResultD) : Nat → List Int
  | 0 => []
  | m + 1 => insO (ltR l) (m : Int) (ordZ l m)
theorem ordZ_perm (l : List ResultD) : ∀ m, (ordZ l m).Perm (ixN (fun _ => true) m)
  | 0 => List.Perm.refl _
  | m + 1 => by
    rw [ixN_yes rfl]
    exact (insO_perm _ _ _).trans (((ordZ_perm l m).cons _).trans (List.perm_append_singleton _ _).symm)
theorem mem_ixN {m : Nat} {y : Int} : y ∈ ixN (fun _ => true) m ↔ 0 ≤ y ∧ y < (m : Int) := by
  unfold ixN
  rw [fm_mem]
  constructor
  · rintro ⟨x, hx, _, rfl⟩; have := List.mem_range.1 hx; omega
  · rintro ⟨h1, h2⟩; exact ⟨y.toNat, List.mem_range.2 (by omega), rfl, by omega⟩
theorem ordZ_mem {l : List ResultD} {m : Nat} {y : Int} (h : y ∈ ordZ l m) : 0 ≤ y ∧ y < (m : Int) := mem_ixN.1 ((ordZ_perm l m).mem_iff.1 h)
theorem ixN_all_len : ∀ m, (ixN (fun _ => true) m).length = m
  | 0 => rfl
  | m + 1 => by rw [ixN_yes rfl, List.length_append, ixN_all_len m]; rfl
theorem ordZ_len (l : List ResultD) (m : Nat) : (ordZ l m).length = m := by rw [(ordZ_perm l m).length_eq, ixN_all_len]
theorem ordZ_in {l : List ResultD} {m : Nat} (hm : m ≤ l.length) : ∀ y ∈ ordZ l m, inL l y := fun y hy => by have := ordZ_mem hy; exact ⟨this.1, by omega⟩
theorem ordZ_sorted {l : List ResultD} (hv : ResultsOk l) : ∀ m, m ≤ l.length → (ordZ l m).Pairwise (fun a b => ltR l a b = true)
  | 0, _ => List.Pairwise.nil
  | m + 1, hm => insO_sorted (ltR_tot hv) ⟨by omega, by omega⟩ (ordZ_in (by omega)) (fun y hy => by have := (ordZ_mem hy).2; omega) (ordZ_sorted hv m (by omega))
/-- whatever is in order and has these places is this -/
theorem ordZ_one {l : List ResultD} (hv : ResultsOk l) {ys : List Int} (hp : ys.Perm (ixN (fun _ => true) l.length)) (hs : ys.Pairwise (fun a b => ltR l a b = true)) : ys = ordZ l l.length :=
  sorted_one (ltR_tot hv) (fun _ hx => mem_ixN.1 (hp.mem_iff.1 hx)) (hp.trans (ordZ_perm l l.length).symm) hs (ordZ_sorted hv _ (Nat.le_refl _))
/-- where the next goes -/
theorem ordZ_at {l : List ResultD} (hv : ResultsOk l) {m k : Nat} (hm : m < l.length) (hk : k ≤ m) (h1 : ∀ j y, k ≤ j → (ordZ l m)[j]? = some y → ltR l y (m : Int) = false) (h2 : ∀ y, 0 < k → (ordZ l m)[k - 1]? = some y → ltR l y (m : Int) = true) : ordZ l (m + 1) = (ordZ l m).take k ++ (m : Int) :: (ordZ l m).drop k :=
  insO_at (ltR_tot hv) ⟨by omega, by omega⟩ _ k (ordZ_in (by omega)) (ordZ_sorted hv m (by omega)) (by rw [ordZ_len]; exact hk) h1 h2
end Go.Proofs.Ythkkpiodligmiaa
namespace Go.Proofs.Ythkkpiodligmiaa
open Go.RowKit

theorem resAt_take (l : List ResultD) (q : ResultD → Bool) : ∀ m, m ≤ l.length → (ixN (fun _ => true) m).countP (fun y => q (resAt l y)) = (l.take m).countP q
  | 0, _ => by simp [ixN_zero]
  | m + 1, hm => by
    have hx := List.getElem?_eq_getElem (show m < l.length by omega)
    generalize l[m] = x at hx
    rw [ixN_yes rfl, take_snoc hx, List.countP_append, List.countP_append, resAt_take l q m (by omega)]
    simp only [List.countP_cons, List.countP_nil, resAt_of hx]
theorem ord_count (l : List ResultD) (q : ResultD → Bool) : (ordZ l l.length).countP (fun y => q (resAt l y)) = l.countP q := by
  rw [(ordZ_perm l l.length).countP_eq, resAt_take l q l.length (Nat.le_refl _), List.take_length]
theorem ord_mem {l : List ResultD} {k : Nat} (h : k < l.length) : (k : Int) ∈ ordZ l l.length := (ordZ_perm l l.length).mem_iff.2 (mem_ixN.2 ⟨by omega, by omega⟩)
end Go.Proofs.Ythkkpiodligmiaa
