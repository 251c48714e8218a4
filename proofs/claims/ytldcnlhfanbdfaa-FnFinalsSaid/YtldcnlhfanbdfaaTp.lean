/-
  Teams: the plain words. No program is named here.
-/
import Derived.Test.YtldcnlhfanbdfaaFin
import Derived.Test.YtldcnlhfanbdfaaBr
namespace Go.Proofs.Ytldcnlhfanbdfaa
open Go.RowKit

def cntLt (l : List FinishD) (p : Int) : Nat := l.countP (fun y => decide (y.place < p))

theorem cntLt_le (l : List FinishD) (p : Int) : cntLt l p ≤ l.length := List.countP_le_length

theorem cntLt_yes {l : List FinishD} {k : Nat} {y : FinishD} {p : Int} (hy : l[k]? = some y) (h : y.place < p) : cntLt (l.take (k + 1)) p = cntLt (l.take k) p + 1 := by
  rw [take_snoc hy]; simp [cntLt, h]

theorem cntLt_no {l : List FinishD} {k : Nat} {y : FinishD} {p : Int} (hy : l[k]? = some y) (h : ¬ y.place < p) : cntLt (l.take (k + 1)) p = cntLt (l.take k) p := by
  rw [take_snoc hy]; simp [cntLt, h]

theorem cntLt_take (l : List FinishD) (k : Nat) (p : Int) : cntLt (l.take k) p ≤ k := Nat.le_trans (cntLt_le _ _) (List.length_take_le _ _)

def FinAt (l : List FinishD) (i : Nat) (x : FinishD) : Prop := (1 ≤ x.team ∧ x.team ≤ 12) ∧ (∀ j y, j < i → l[j]? = some y → y.team ≠ x.team) ∧ x.place = 1 + (cntLt l x.place : Int)

def FinUpto (l : List FinishD) (k : Nat) : Prop := ∀ i x, i < k → l[i]? = some x → FinAt l i x

def FinOk (l : List FinishD) : Prop := l.length ≤ 12 ∧ FinUpto l l.length

theorem FinUpto.zero (l : List FinishD) : FinUpto l 0 := fun _ _ h => absurd h (by omega)

theorem FinUpto.succ {l : List FinishD} {k : Nat} {x : FinishD} (h : FinUpto l k) (hx : l[k]? = some x) (hf : FinAt l k x) : FinUpto l (k + 1) := by
  intro i y hi hy
  by_cases e : i = k
  · subst e
    rw [hx] at hy
    cases hy
    exact hf
  · exact h i y (by omega) hy

theorem FinOk.not_at {l : List FinishD} {k : Nat} {x : FinishD} (hx : l[k]? = some x) (hf : ¬ FinAt l k x) : ¬ FinOk l :=
  fun h => hf (h.2 k x (List.getElem?_eq_some_iff.1 hx).1 hx)

/-- the inner loop: nobody before i among the first m has the team -/

def NoTeam (l : List FinishD) (i m : Nat) (t : Int) : Prop := ∀ j y, j < m → j < i → l[j]? = some y → y.team ≠ t

theorem NoTeam.zero (l : List FinishD) (i : Nat) (t : Int) : NoTeam l i 0 t := fun _ _ h => absurd h (by omega)

theorem NoTeam.succ {l : List FinishD} {i m : Nat} {t : Int} {y : FinishD} (h : NoTeam l i m t) (hy : l[m]? = some y) (hn : m < i → y.team ≠ t) : NoTeam l i (m + 1) t := by
  intro j z hj hi hz
  by_cases e : j = m
  · subst e
    rw [hy] at hz
    cases hz
    exact hn hi
  · exact h j z (by omega) hi hz

def teamsTo (l : List FinishD) (k : Nat) : List Int := (l.take k).map FinishD.team

theorem mem_teams {l : List FinishD} {k : Nat} {t : Int} : t ∈ teamsTo l k ↔ ∃ j y, j < k ∧ l[j]? = some y ∧ y.team = t := by
  constructor
  · intro h
    obtain ⟨y, hy, rfl⟩ := List.mem_map.1 h
    obtain ⟨j, hj⟩ := List.getElem?_of_mem hy
    rw [List.getElem?_take] at hj
    split at hj
    · exact ⟨j, y, by assumption, hj, rfl⟩
    · cases hj
  · rintro ⟨j, y, hj, hy, rfl⟩
    exact List.mem_map.2 ⟨y, List.mem_of_getElem? (by rw [List.getElem?_take_of_lt hj]; exact hy), rfl⟩

theorem teams_snoc {l : List FinishD} {k : Nat} {x : FinishD} (hx : l[k]? = some x) : teamsTo l (k + 1) = teamsTo l k ++ [x.team] := by
  unfold teamsTo; rw [take_snoc hx]; simp

theorem teams_len (l : List FinishD) (k : Nat) : (teamsTo l k).length ≤ l.length := by unfold teamsTo; simp; omega

def DisUpto (ls : List (List FinishD)) (k : Nat) : Prop := ∀ i l, i < k → ls[i]? = some l → FinOk l

def DisOk (ls : List (List FinishD)) : Prop := ls.length ≤ 5 ∧ DisUpto ls ls.length

theorem DisUpto.zero (ls : List (List FinishD)) : DisUpto ls 0 := fun _ _ h => absurd h (by omega)

theorem DisUpto.succ {ls : List (List FinishD)} {k : Nat} {l : List FinishD} (h : DisUpto ls k) (hl : ls[k]? = some l) (hf : FinOk l) : DisUpto ls (k + 1) := by
  intro i l' hi hl'
  by_cases e : i = k
  · subst e
    rw [hl] at hl'
    cases hl'
    exact hf
  · exact h i l' (by omega) hl'

theorem DisOk.not_at {ls : List (List FinishD)} {k : Nat} {l : List FinishD} (hl : ls[k]? = some l) (hf : ¬ FinOk l) : ¬ DisOk ls :=
  fun h => hf (h.2 k l (List.getElem?_eq_some_iff.1 hl).1 hl)

def share (l : List FinishD) (p : Int) : Nat := l.countP (fun y => decide (y.place = p))

theorem share_le (l : List FinishD) (p : Int) : share l p ≤ l.length := List.countP_le_length

theorem share_yes {l : List FinishD} {k : Nat} {y : FinishD} {p : Int} (hy : l[k]? = some y) (h : y.place = p) : share (l.take (k + 1)) p = share (l.take k) p + 1 := by
  rw [take_snoc hy]; simp [share, h]

theorem share_no {l : List FinishD} {k : Nat} {y : FinishD} {p : Int} (hy : l[k]? = some y) (h : ¬ y.place = p) : share (l.take (k + 1)) p = share (l.take k) p := by
  rw [take_snoc hy]; simp [share, h]

theorem share_take (l : List FinishD) (k : Nat) (p : Int) : share (l.take k) p ≤ k := Nat.le_trans (share_le _ _) (List.length_take_le _ _)

def pts (l : List FinishD) (x : FinishD) : Int := 26 - 2 * x.place - ((share l x.place : Int) - 1)

def dpTo (l : List FinishD) (k : Nat) : List Int := (l.take k).map (pts l)

def dp (l : List FinishD) : List Int := l.map (pts l)

theorem dpTo_snoc {l : List FinishD} {k : Nat} {x : FinishD} (hx : l[k]? = some x) : dpTo l (k + 1) = dpTo l k ++ [pts l x] := by
  unfold dpTo; rw [take_snoc hx]; simp

theorem dpTo_len (l : List FinishD) (k : Nat) : (dpTo l k).length ≤ l.length := by unfold dpTo; simp; omega

theorem dpTo_all {l : List FinishD} {k : Nat} (h : l.length ≤ k) : dpTo l k = dp l := by unfold dpTo dp; rw [List.take_of_length_le h]

theorem FinOk.place {l : List FinishD} (h : FinOk l) {k : Nat} {x : FinishD} (hx : l[k]? = some x) : 1 ≤ x.place ∧ x.place ≤ 13 := by
  have h1 := (h.2 k x (List.getElem?_eq_some_iff.1 hx).1 hx).2.2
  have h2 := cntLt_le l x.place
  have h3 := h.1
  omega

theorem dp_len {l : List FinishD} {r : Option (List Int)} (h : Opt (FinOk l) (dp l) r) : (r.getD []).length ≤ 12 := by
  rcases h with ⟨h, rfl⟩ | ⟨_, rfl⟩
  · simpa [dp] using h.1
  · simp

def ownPts (l : List FinishD) (t : Int) (k : Nat) : Int := (l.take k).foldl (fun acc x => if x.team = t then pts l x else acc) 0

theorem ownPts_yes {l : List FinishD} {t : Int} {k : Nat} {x : FinishD} (hx : l[k]? = some x) (h : x.team = t) : ownPts l t (k + 1) = pts l x := by
  unfold ownPts; rw [take_snoc hx, List.foldl_append]; simp [h]

theorem ownPts_no {l : List FinishD} {t : Int} {k : Nat} {x : FinishD} (hx : l[k]? = some x) (h : ¬ x.team = t) : ownPts l t (k + 1) = ownPts l t k := by
  unfold ownPts; rw [take_snoc hx, List.foldl_append]; simp [h]

theorem pts_bd {l : List FinishD} (hf : FinOk l) {k : Nat} {x : FinishD} (hx : l[k]? = some x) : -12 ≤ pts l x ∧ pts l x ≤ 25 := by
  have h1 := hf.place hx
  have h2 := share_le l x.place
  have h3 := hf.1
  unfold pts
  omega

theorem ownPts_bd {l : List FinishD} (hf : FinOk l) (t : Int) : ∀ k, -12 ≤ ownPts l t k ∧ ownPts l t k ≤ 25
  | 0 => by simp [ownPts]
  | k + 1 => by
    rcases Nat.lt_or_ge k l.length with h | h
    · have hx := List.getElem?_eq_getElem h
      by_cases ht : l[k].team = t
      · rw [ownPts_yes hx ht]; exact pts_bd hf hx
      · rw [ownPts_no hx ht]; exact ownPts_bd hf t k
    · have e : ownPts l t (k + 1) = ownPts l t k := by unfold ownPts; rw [List.take_of_length_le (by omega), List.take_of_length_le h]
      rw [e]; exact ownPts_bd hf t k

def teTo (ls : List (List FinishD)) (t : Int) (k : Nat) : List Int := (ls.take k).map fun l => ownPts l t l.length

def teAllOf (ls : List (List FinishD)) (t : Int) : List Int := ls.map fun l => ownPts l t l.length

theorem teTo_snoc {ls : List (List FinishD)} {t : Int} {k : Nat} {l : List FinishD} (hl : ls[k]? = some l) : teTo ls t (k + 1) = teTo ls t k ++ [ownPts l t l.length] := by
  unfold teTo; rw [take_snoc hl]; simp

theorem teTo_all {ls : List (List FinishD)} {t : Int} {k : Nat} (h : ls.length ≤ k) : teTo ls t k = teAllOf ls t := by unfold teTo teAllOf; rw [List.take_of_length_le h]

theorem teTo_len (ls : List (List FinishD)) (t : Int) (k : Nat) : (teTo ls t k).length ≤ ls.length := by unfold teTo; simp; omega

theorem teAllOf_len (ls : List (List FinishD)) (t : Int) : (teAllOf ls t).length = ls.length := by simp [teAllOf]

theorem DisOk.at_ {ls : List (List FinishD)} (h : DisOk ls) {k : Nat} {l : List FinishD} (hl : ls[k]? = some l) : FinOk l := h.2 k l (List.getElem?_eq_some_iff.1 hl).1 hl

theorem dp_get {l : List FinishD} {k : Nat} {x : FinishD} (hx : l[k]? = some x) : (dp l)[k]? = some (pts l x) := by simp [dp, hx]

theorem dp_length (l : List FinishD) : (dp l).length = l.length := by simp [dp]

def AllLess (l : List Int) (m : Nat) (n : Int) : Prop := ∀ j x, m ≤ j → l[j]? = some x → x < n

theorem AllLess.start (l : List Int) (n : Int) : AllLess l l.length n := fun j x hj hx => by
  have := (List.getElem?_eq_some_iff.1 hx).1; omega

theorem AllLess.next {l : List Int} {m : Nat} {n y : Int} (h : AllLess l m n) (hy : l[m - 1]? = some y) (hn : y < n) : AllLess l (m - 1) n := by
  intro j x hj hx
  by_cases e : j = m - 1
  · subst e
    rw [hy] at hx
    cases hx
    exact hn
  · exact h j x (by omega) hx

/-- a row rewritten in place, perhaps with new blocks behind it -/

def sortA (xs : List Int) : List Int := xs.mergeSort fun x y => decide (x ≤ y)

theorem sortA_len (xs : List Int) : (sortA xs).length = xs.length := List.length_mergeSort _

theorem sortA_perm (xs : List Int) : (sortA xs).Perm xs := List.mergeSort_perm _ _

theorem sortA_sorted (xs : List Int) : (sortA xs).Pairwise (· ≤ ·) := by
  have h := List.pairwise_mergeSort (le := fun x y : Int => decide (x ≤ y)) (by simp; omega) (by simp; omega) xs
  exact h.imp (by simp)

/-- the greatest numbers first, as the reference puts them -/

def insertD (n : Int) : List Int → List Int
  | [] => [n]
  | x :: r => if x < n then n :: x :: r else x :: insertD n r

def sortD (xs : List Int) : List Int := xs.foldl (fun acc n => insertD n acc) []

theorem sortD_snoc {xs : List Int} {k : Nat} {x : Int} (h : xs[k]? = some x) : sortD (xs.take (k + 1)) = insertD x (sortD (xs.take k)) := by
  unfold sortD; rw [take_snoc h, List.foldl_append]; rfl

theorem insertD_perm (n : Int) : ∀ l : List Int, (insertD n l).Perm (n :: l)
  | [] => List.Perm.refl _
  | x :: r => by
    unfold insertD
    split
    · exact List.Perm.refl _
    · exact ((insertD_perm n r).cons x).trans (List.Perm.swap n x r)

theorem insertD_len (n : Int) (l : List Int) : (insertD n l).length = l.length + 1 := by simpa using (insertD_perm n l).length_eq

theorem insertD_sorted (n : Int) : ∀ l : List Int, l.Pairwise (· ≥ ·) → (insertD n l).Pairwise (· ≥ ·)
  | [], _ => by simp [insertD]
  | x :: r, h => by
    unfold insertD
    have h1 := List.pairwise_cons.1 h
    split
    · rename_i hx
      refine List.pairwise_cons.2 ⟨fun y hy => ?_, h⟩
      rcases List.mem_cons.1 hy with rfl | hy
      · omega
      · have := h1.1 y hy; omega
    · rename_i hx
      refine List.pairwise_cons.2 ⟨fun y hy => ?_, insertD_sorted n r h1.2⟩
      rcases List.mem_cons.1 ((insertD_perm n r).mem_iff.1 hy) with rfl | hy
      · omega
      · exact h1.1 y hy

theorem foldD : ∀ (xs acc : List Int), acc.Pairwise (· ≥ ·) → (xs.foldl (fun acc n => insertD n acc) acc).Pairwise (· ≥ ·) ∧ (xs.foldl (fun acc n => insertD n acc) acc).Perm (acc ++ xs)
  | [], acc, h => ⟨h, by simp⟩
  | x :: xs, acc, h => by
    obtain ⟨h1, h2⟩ := foldD xs (insertD x acc) (insertD_sorted x acc h)
    refine ⟨h1, h2.trans ?_⟩
    have h3 : (insertD x acc ++ xs).Perm ((x :: acc) ++ xs) := (insertD_perm x acc).append_right xs
    exact h3.trans (by simpa using (List.perm_middle (a := x) (l₁ := acc) (l₂ := xs)).symm)

theorem sortD_sorted (xs : List Int) : (sortD xs).Pairwise (· ≥ ·) := (foldD xs [] (by simp)).1

theorem sortD_perm (xs : List Int) : (sortD xs).Perm xs := by have h := (foldD xs [] (by simp)).2; rwa [List.nil_append] at h

theorem sortD_len (xs : List Int) : (sortD xs).length = xs.length := (sortD_perm xs).length_eq

theorem sortD_unique {xs ys : List Int} (hp : ys.Perm xs) (hs : ys.Pairwise (· ≥ ·)) : ys = sortD xs :=
  List.Perm.eq_of_pairwise (le := fun a b : Int => a ≥ b) (fun a b _ _ h1 h2 => by omega) hs (sortD_sorted xs) (hp.trans (sortD_perm xs).symm)

theorem sortA_reverse (xs : List Int) : (sortA xs).reverse = sortD xs :=
  sortD_unique ((List.reverse_perm _).trans (sortA_perm xs)) (List.pairwise_reverse.2 (sortA_sorted xs))

/-- the place that the reference finds from behind -/

theorem insertD_at (n : Int) : ∀ (l : List Int) (k : Nat), l.Pairwise (· ≥ ·) → k ≤ l.length → (∀ j x, k ≤ j → l[j]? = some x → x < n) → (∀ x, 0 < k → l[k - 1]? = some x → n ≤ x) → l.take k ++ n :: l.drop k = insertD n l
  | [], k, _, hk, _, _ => by
    have : k = 0 := by simpa using hk
    subst this
    rfl
  | y :: r, 0, _, _, h1, _ => by
    have := h1 0 y (by omega) rfl
    simp [insertD, this]
  | y :: r, k + 1, hs, hk, h1, h2 => by
    have hp := List.pairwise_cons.1 hs
    have hy : n ≤ y := by
      rcases Nat.eq_zero_or_pos k with h0 | h0
      · subst h0
        exact h2 y (by omega) rfl
      · have hkr : k - 1 < r.length := by simp at hk; omega
        have h3 := h2 r[k - 1] (by omega) (by rw [show k + 1 - 1 = (k - 1) + 1 by omega, List.getElem?_cons_succ, List.getElem?_eq_getElem hkr])
        have := hp.1 r[k - 1] (List.getElem_mem hkr)
        omega
    have ih := insertD_at n r k hp.2 (by simpa using hk) (fun j x hj hx => h1 (j + 1) x (by omega) (by simpa using hx)) (fun x h0 hx => h2 x (by omega) (by rw [show k + 1 - 1 = (k - 1) + 1 by omega, List.getElem?_cons_succ]; exact hx))
    simp only [List.take_succ_cons, List.drop_succ_cons, List.cons_append, ih, insertD, if_neg (show ¬ y < n by omega)]

end Go.Proofs.Ytldcnlhfanbdfaa
