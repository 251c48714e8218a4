/-
  Numbers put in order, the greatest first; the greatest and the least of them: plain words. No program is named here.
-/
import Derived.Test.YtphakidbddamfaaGreatZMf
namespace Go.Proofs.YtphakidbddamfaaGreat
open Go.RowKit

/-- the greatest numbers first, as the reference puts them -/
def insertD (n : Int) : List Int → List Int
  | [] => [n]
  | x :: r => if x < n then n :: x :: r else x :: insertD n r
def sortD (xs : List Int) : List Int := xs.foldl (fun acc n => insertD n acc) []
theorem sortD_snoc {xs : List Int} {k : Nat} {x : Int} (h : xs[k]? = some x) : sortD (xs.take (k + 1)) = insertD x (sortD (xs.take k)) := by
  unfold sortD; rw [take_snoc h, List.foldl_append]; rfl
theorem insertD_perm (n : Int) : ∀ l : List Int, (insertD n l).Perm (n :: l)
  | [] => List.Perm.refl _
  | x :: r => by
    unfold insertD
    split
    · exact List.Perm.refl _
    · exact ((insertD_perm n r).cons x).trans (List.Perm.swap n x r)
theorem insertD_sorted (n : Int) : ∀ l : List Int, l.Pairwise (· ≥ ·) → (insertD n l).Pairwise (· ≥ ·)
  | [], _ => by simp [insertD]
  | x :: r, h => by
    unfold insertD
    have h1 := List.pairwise_cons.1 h
    split
    · rename_i hx
      refine List.pairwise_cons.2 ⟨fun y hy => ?_, h⟩
      rcases List.mem_cons.1 hy with rfl | hy
      · omega
      · have := h1.1 y hy; omega
    · rename_i hx
      refine List.pairwise_cons.2 ⟨fun y hy => ?_, insertD_sorted n r h1.2⟩
      rcases List.mem_cons.1 ((insertD_perm n r).mem_iff.1 hy) with rfl | hy
      · omega
      · exact h1.1 y hy
theorem foldD : ∀ (xs acc : List Int), acc.Pairwise (· ≥ ·) → (xs.foldl (fun acc n => insertD n acc) acc).Pairwise (· ≥ ·) ∧ (xs.foldl (fun acc n => insertD n acc) acc).Perm (acc ++ xs)
  | [], acc, h => ⟨h, by simp⟩
  | x :: xs, acc, h => by
    obtain ⟨h1, h2⟩ := foldD xs (insertD x acc) (insertD_sorted x acc h)
    refine ⟨h1, h2.trans ?_⟩
    have h3 : (insertD x acc ++ xs).Perm ((x :: acc) ++ xs) := (insertD_perm x acc).append_right xs
    exact h3.trans (by simpa using (List.perm_middle (a := x) (l₁ := acc) (l₂ := xs)).symm)
theorem sortD_sorted (xs : List Int) : (sortD xs).Pairwise (· ≥ ·) := (foldD xs [] (by simp)).1
theorem sortD_perm (xs : List Int) : (sortD xs).Perm xs := by have h := (foldD xs [] (by simp)).2; rwa [List.nil_append] at h
theorem sortD_len (xs : List Int) : (sortD xs).length = xs.length := (sortD_perm xs).length_eq
/-- the place that the reference finds from behind -/
theorem insertD_at (n : Int) : ∀ (l : List Int) (k : Nat), l.Pairwise (· ≥ ·) → k ≤ l.length → (∀ j x, k ≤ j → l[j]? = some x → x < n) → (∀ x, 0 < k → l[k - 1]? = some x → n ≤ x) → l.take k ++ n :: l.drop k = insertD n l
  | [], k, _, hk, _, _ => by
    have : k = 0 := by simpa using hk
    subst this
    rfl
  | y :: r, 0, _, _, h1, _ => by
    have := h1 0 y (by omega) rfl
    simp [insertD, this]
  | y :: r, k + 1, hs, hk, h1, h2 => by
    have hp := List.pairwise_cons.1 hs
    have hy : n ≤ y := by
      rcases Nat.eq_zero_or_pos k with h0 | h0
      · subst h0
        exact h2 y (by omega) rfl
      · have hkr : k - 1 < r.length := by simp at hk; omega
        have h3 := h2 r[k - 1] (by omega) (by rw [show k + 1 - 1 = (k - 1) + 1 by omega, List.getElem?_cons_succ, List.getElem?_eq_getElem hkr])
        have := hp.1 r[k - 1] (List.getElem_mem hkr)
        omega
    have ih := insertD_at n r k hp.2 (by simpa using hk) (fun j x hj hx => h1 (j + 1) x (by omega) (by simpa using hx)) (fun x h0 hx => h2 x (by omega) (by rw [show k + 1 - 1 = (k - 1) + 1 by omega, List.getElem?_cons_succ]; exact hx))
    simp only [List.take_succ_cons, List.drop_succ_cons, List.cons_append, ih, insertD, if_neg (show ¬ y < n by omega)]
def AllLess (l : List Int) (m : Nat) (n : Int) : Prop := ∀ (j : Nat) (x : Int), m ≤ j → l[j]? = some x → x < n
theorem AllLess.start (l : List Int) (n : Int) : AllLess l l.length n := fun j x hj hx => by
  have := (List.getElem?_eq_some_iff.1 hx).1; omega
theorem AllLess.next {l : List Int} {m : Nat} {n y : Int} (h : AllLess l m n) (hy : l[m - 1]? = some y) (hn : y < n) : AllLess l (m - 1) n := by
  intro j x hj hx
  by_cases e : j = m - 1
  · subst e
    rw [hy] at hx
    cases hx
    exact hn
  · exact h j x (by omega) hx
theorem sortD_zero : sortD [] = [] := rfl
theorem foldl_max_le : ∀ (l : List Int) (a : Int), a ≤ l.foldl max a ∧ (∀ x ∈ l, x ≤ l.foldl max a) ∧ (l.foldl max a = a ∨ l.foldl max a ∈ l)
  | [], a => ⟨Int.le_refl _, by simp, .inl rfl⟩
  | x :: l, a => by
    obtain ⟨h1, h2, h3⟩ := foldl_max_le l (max a x)
    refine ⟨by rw [List.foldl_cons]; omega, fun y hy => ?_, ?_⟩
    · rw [List.foldl_cons]
      rcases List.mem_cons.1 hy with rfl | hy
      · omega
      · exact h2 y hy
    · rw [List.foldl_cons]
      rcases h3 with h3 | h3
      · rw [h3]
        by_cases e : a ≤ x
        · exact .inr (by rw [show max a x = x by omega]; simp)
        · exact .inl (by omega)
      · exact .inr (List.mem_cons_of_mem _ h3)
theorem foldl_min_le : ∀ (l : List Int) (a : Int), l.foldl min a ≤ a ∧ (∀ x ∈ l, l.foldl min a ≤ x) ∧ (l.foldl min a = a ∨ l.foldl min a ∈ l)
  | [], a => ⟨Int.le_refl _, by simp, .inl rfl⟩
  | x :: l, a => by
    obtain ⟨h1, h2, h3⟩ := foldl_min_le l (min a x)
    refine ⟨by rw [List.foldl_cons]; omega, fun y hy => ?_, ?_⟩
    · rw [List.foldl_cons]
      rcases List.mem_cons.1 hy with rfl | hy
      · omega
      · exact h2 y hy
    · rw [List.foldl_cons]
      rcases h3 with h3 | h3
      · rw [h3]
        by_cases e : x ≤ a
        · exact .inr (by rw [show min a x = x by omega]; simp)
        · exact .inl (by omega)
      · exact .inr (List.mem_cons_of_mem _ h3)
theorem maxW_is {xs : List Int} (h0 : 0 < xs.length) : maxW xs ∈ xs ∧ ∀ x ∈ xs, x ≤ maxW xs := by
  cases xs with
  | nil => simp at h0
  | cons a l =>
    obtain ⟨h1, h2, h3⟩ := foldl_max_le l a
    have e : maxW (a :: l) = l.foldl max a := rfl
    rw [e]
    refine ⟨?_, fun x hx => ?_⟩
    · rcases h3 with h3 | h3
      · rw [h3]; simp
      · exact List.mem_cons_of_mem _ h3
    · rcases List.mem_cons.1 hx with rfl | hx
      · exact h1
      · exact h2 x hx
theorem minW_is {xs : List Int} (h0 : 0 < xs.length) : minW xs ∈ xs ∧ ∀ x ∈ xs, minW xs ≤ x := by
  cases xs with
  | nil => simp at h0
  | cons a l =>
    obtain ⟨h1, h2, h3⟩ := foldl_min_le l a
    have e : minW (a :: l) = l.foldl min a := rfl
    rw [e]
    refine ⟨?_, fun x hx => ?_⟩
    · rcases h3 with h3 | h3
      · rw [h3]; simp
      · exact List.mem_cons_of_mem _ h3
    · rcases List.mem_cons.1 hx with rfl | hx
      · exact h1
      · exact h2 x hx
theorem sortD_head {xs : List Int} (h0 : 0 < xs.length) : (sortD xs)[0]? = some (maxW xs) := by
  have hl := sortD_len xs
  have hx := List.getElem?_eq_getElem (show 0 < (sortD xs).length by omega)
  have hm := maxW_is h0
  rw [hx]
  congr 1
  have h1 : (sortD xs)[0] ∈ xs := (sortD_perm xs).mem_iff.1 (List.getElem_mem _)
  have h2 := hm.2 _ h1
  have h3 := (sortD_perm xs).mem_iff.2 hm.1
  obtain ⟨i, hi, he⟩ := List.getElem_of_mem h3
  rcases Nat.eq_zero_or_pos i with e | e
  · subst e; exact he
  · have h4 := List.pairwise_iff_getElem.1 (sortD_sorted xs) 0 i (by omega) hi e
    omega
theorem sortD_last {xs : List Int} (h0 : 0 < xs.length) : (sortD xs)[xs.length - 1]? = some (minW xs) := by
  have hl := sortD_len xs
  have hx := List.getElem?_eq_getElem (show xs.length - 1 < (sortD xs).length by omega)
  have hm := minW_is h0
  rw [hx]
  congr 1
  have h1 : (sortD xs)[xs.length - 1] ∈ xs := (sortD_perm xs).mem_iff.1 (List.getElem_mem _)
  have h2 := hm.2 _ h1
  have h3 := (sortD_perm xs).mem_iff.2 hm.1
  obtain ⟨i, hi, he⟩ := List.getElem_of_mem h3
  by_cases e : i = xs.length - 1
  · subst e; exact he
  · have h4 := List.pairwise_iff_getElem.1 (sortD_sorted xs) i (xs.length - 1) hi (by omega) (by omega)
    omega
/-- the greatest, the least of the first ones -/
theorem maxW_one (xs : List Int) : maxW (xs.take 1) = xs.headD 0 := by cases xs <;> rfl
theorem minW_one (xs : List Int) : minW (xs.take 1) = xs.headD 0 := by cases xs <;> rfl
theorem maxW_succ {xs : List Int} {k : Nat} {x : Int} (h0 : 0 < k) (hx : xs[k]? = some x) : maxW (xs.take (k + 1)) = max (maxW (xs.take k)) x := by
  rw [take_snoc hx]
  cases xs with
  | nil => simp at hx
  | cons a l =>
    obtain ⟨m, rfl⟩ : ∃ m, k = m + 1 := ⟨k - 1, by omega⟩
    simp [maxW, List.foldl_append]
theorem minW_succ {xs : List Int} {k : Nat} {x : Int} (h0 : 0 < k) (hx : xs[k]? = some x) : minW (xs.take (k + 1)) = min (minW (xs.take k)) x := by
  rw [take_snoc hx]
  cases xs with
  | nil => simp at hx
  | cons a l =>
    obtain ⟨m, rfl⟩ : ∃ m, k = m + 1 := ⟨k - 1, by omega⟩
    simp [minW, List.foldl_append]
end Go.Proofs.YtphakidbddamfaaGreat

/-
  Numbers rounded and added: the program's functions and the reference's, in the abstract machine.
-/
set_option linter.unusedSimpArgs false
set_option linter.unusedVariables false
set_option maxHeartbeats 2000000
set_option maxRecDepth 100000
namespace Go.Proofs.YtphakidbddamfaaGreat
open Go.RowKit

theorem sumTake_bd {A : Int} {xs : List Int} (hA : A ≤ 1000000000) (h0 : 0 ≤ A) (h : ∀ x ∈ xs, -A ≤ x ∧ x ≤ A) (hn : xs.length ≤ 1048576) (k : Nat) : -1048576000000000 ≤ (xs.take k).sum ∧ (xs.take k).sum ≤ 1048576000000000 := by
  have h1 := sum_bd (l := xs.take k) fun x hx => h x (List.mem_of_mem_take hx)
  have h2 : (xs.take k).length ≤ 1048576 := by simp; omega
  have h3 := mul_nn (a := A) (b := ((xs.take k).length : Int)) (A := 1000000000) (B := 1048576) h0 hA (by omega) (by omega)
  omega
theorem floorDiv_ok (a b : Int) (h1 : -1000000000000 ≤ a) (h2 : a ≤ 1000000000000) (hb : 0 < b) : FnEq Tryz.prog 218 [.d (.int .i64 a), .d (.int .i64 b)] [.d (.int .i64 (dnW a b))] := by
  have hq := tdiv_bd a b 1000000000000 h1 h2
  have hm := tmod_bd (b := b) h1 h2
  have e : dnW a b = if a.tmod b < 0 then a.tdiv b - 1 else a.tdiv b := rfl
  refine fn_ok G_ok Tryz.func218 rfl rfl ?_; simp only [Tryz.ntmps218, List.length_cons, List.length_nil, Nat.reduceAdd, Nat.reduceSub, enm]
  by_cases hneg : a.tmod b < 0
  · rw [if_pos hneg] at e
    generalize hq0 : a.tdiv b = q at hq e
    generalize hm0 : a.tmod b = m at hm hneg
    repeat' (first | ((with_reducible first | (refine hK _ ?_; clear hK K) | refine stq fun K' hK' => ?_ | refine stc ?_); try simp only [go_sem, hq0, hm0]) | (with_reducible first | refine stp ?_ | (refine hK' _ ?_; clear hK' K') | refine kN kl218 fun K hK => ?_ | refine kO fun K hK => ?_) | (with_reducible refine pK_mk ?_ ?_ <;> (intro hc; (try simp only [go_sem, hq0, hm0]); (try simp at hc); try (exfalso; omega))) | with_reducible refine And.intro (by first | omega | (unfold inI; omega)) ?_)
    all_goals first
      | (exfalso; omega)
      | (refine retQ_ret rfl rfl (by simp [rowsOf, lk]) ?_; rw [e])
  · rw [if_neg hneg] at e
    generalize hq0 : a.tdiv b = q at hq e
    generalize hm0 : a.tmod b = m at hm hneg
    repeat' (first | ((with_reducible first | (refine hK _ ?_; clear hK K) | refine stq fun K' hK' => ?_ | refine stc ?_); try simp only [go_sem, hq0, hm0]) | (with_reducible first | refine stp ?_ | (refine hK' _ ?_; clear hK' K') | refine kN kl218 fun K hK => ?_ | refine kO fun K hK => ?_) | (with_reducible refine pK_mk ?_ ?_ <;> (intro hc; (try simp only [go_sem, hq0, hm0]); (try simp at hc); try (exfalso; omega))) | with_reducible refine And.intro (by first | omega | (unfold inI; omega)) ?_)
    all_goals first
      | (exfalso; omega)
      | (refine retQ_ret rfl rfl (by simp [rowsOf, lk]) ?_; rw [e])
theorem poDown_ok (a b : Int) (h1 : -1000000000000 ≤ a) (h2 : a ≤ 1000000000000) (hb : 0 < b) : FnEq Tryz.prog 215 [.d (.int .i64 a), .d (.int .i64 b)] [.d (.int .i64 (dnW a b))] := by
  have hq := tdiv_bd a b 1000000000000 h1 h2
  have hm := tmod_bd (b := b) h1 h2
  have e : dnW a b = if a.tmod b < 0 then a.tdiv b - 1 else a.tdiv b := rfl
  refine fn_ok G_ok Tryz.func215 rfl rfl ?_; simp only [Tryz.ntmps215, List.length_cons, List.length_nil, Nat.reduceAdd, Nat.reduceSub, enm]
  by_cases hneg : a.tmod b < 0
  · rw [if_pos hneg] at e
    generalize hq0 : a.tdiv b = q at hq e
    generalize hm0 : a.tmod b = m at hm hneg
    repeat' (first | ((with_reducible first | (refine hK _ ?_; clear hK K) | refine stq fun K' hK' => ?_ | refine stc ?_); try simp only [go_sem, hq0, hm0]) | (with_reducible first | refine stp ?_ | (refine hK' _ ?_; clear hK' K') | refine kN kl215 fun K hK => ?_ | refine kO fun K hK => ?_) | (with_reducible refine pK_mk ?_ ?_ <;> (intro hc; (try simp only [go_sem, hq0, hm0]); (try simp at hc); try (exfalso; omega))) | with_reducible refine And.intro (by first | omega | (unfold inI; omega)) ?_)
    all_goals first
      | (exfalso; omega)
      | (refine retQ_ret rfl rfl (by simp [rowsOf, lk]) ?_; rw [e])
  · rw [if_neg hneg] at e
    generalize hq0 : a.tdiv b = q at hq e
    generalize hm0 : a.tmod b = m at hm hneg
    repeat' (first | ((with_reducible first | (refine hK _ ?_; clear hK K) | refine stq fun K' hK' => ?_ | refine stc ?_); try simp only [go_sem, hq0, hm0]) | (with_reducible first | refine stp ?_ | (refine hK' _ ?_; clear hK' K') | refine kN kl215 fun K hK => ?_ | refine kO fun K hK => ?_) | (with_reducible refine pK_mk ?_ ?_ <;> (intro hc; (try simp only [go_sem, hq0, hm0]); (try simp at hc); try (exfalso; omega))) | with_reducible refine And.intro (by first | omega | (unfold inI; omega)) ?_)
    all_goals first
      | (exfalso; omega)
      | (refine retQ_ret rfl rfl (by simp [rowsOf, lk]) ?_; rw [e])
theorem roundDiv_ok (a b : Int) (h1 : -100000000000 ≤ a) (h2 : a ≤ 100000000000) (hb : 0 < b) (hb2 : b ≤ 1000000) : FnEq Tryz.prog 192 [.d (.int .i64 a), .d (.int .i64 b)] [.d (.int .i64 (roundW a b))] := by
  refine fn_ok G_ok Tryz.func192 rfl rfl ?_; simp only [Tryz.ntmps192, List.length_cons, List.length_nil, Nat.reduceAdd, Nat.reduceSub, enm]
  repeat' (first | ((with_reducible first | (refine hK _ ?_; clear hK K) | refine stq fun K' hK' => ?_ | refine stc ?_); try simp only [go_sem]) | (with_reducible first | refine stp ?_ | (refine hK' _ ?_; clear hK' K') | refine kN kl192 fun K hK => ?_ | refine kO fun K hK => ?_) | ((with_reducible apply CallK.eq); (· with_reducible first | exact floorDiv_ok (2 * a + b) (2 * b) (by omega) (by omega) (by omega)); (· simp [RV.flat, D.sc, datI]); try simp only [go_sem]) | (with_reducible refine pK_mk ?_ ?_ <;> (intro hc; (try simp only [go_sem]); (try simp at hc); try (exfalso; omega))) | with_reducible refine And.intro (by first | omega | (unfold inI; omega)) ?_)
  all_goals first
    | (exfalso; omega)
    | (refine retQ_ret rfl rfl (by simp [rowsOf, lk]) ?_; rfl)
theorem poRound_ok (a b : Int) (h1 : -100000000000 ≤ a) (h2 : a ≤ 100000000000) (hb : 0 < b) (hb2 : b ≤ 1000000) : FnEq Tryz.prog 187 [.d (.int .i64 a), .d (.int .i64 b)] [.d (.int .i64 (roundW a b))] := by
  refine fn_ok G_ok Tryz.func187 rfl rfl ?_; simp only [Tryz.ntmps187, List.length_cons, List.length_nil, Nat.reduceAdd, Nat.reduceSub, enm]
  repeat' (first | ((with_reducible first | (refine hK _ ?_; clear hK K) | refine stq fun K' hK' => ?_ | refine stc ?_); try simp only [go_sem]) | (with_reducible first | refine stp ?_ | (refine hK' _ ?_; clear hK' K') | refine kN kl187 fun K hK => ?_ | refine kO fun K hK => ?_) | ((with_reducible apply CallK.eq); (· with_reducible first | exact poDown_ok (2 * a + b) (2 * b) (by omega) (by omega) (by omega)); (· simp [RV.flat, D.sc, datI]); try simp only [go_sem]) | (with_reducible refine pK_mk ?_ ?_ <;> (intro hc; (try simp only [go_sem]); (try simp at hc); try (exfalso; omega))) | with_reducible refine And.intro (by first | omega | (unfold inI; omega)) ?_)
  all_goals first
    | (exfalso; omega)
    | (refine retQ_ret rfl rfl (by simp [rowsOf, lk]) ?_; rfl)
theorem sumInts_ok (xs : List Int) (A : Int) (hA : A ≤ 1000000000) (h0 : 0 ≤ A) (h : ∀ x ∈ xs, -A ≤ x ∧ x ≤ A) (hn : xs.length ≤ 1048576) : FnEq Tryz.prog 165 [.d (.lst 1 (xs.map datI))] [.d (.int .i64 xs.sum)] := by
  refine fn_ok G_ok Tryz.func165 rfl rfl ?_; simp only [Tryz.ntmps165, List.length_cons, List.length_nil, Nat.reduceAdd, Nat.reduceSub, enm]
  repeat' (first | ((with_reducible first | (refine hK _ ?_; clear hK K) | refine stq fun K' hK' => ?_ | refine stc ?_); try simp only [go_sem]) | (with_reducible first | refine stp ?_ | (refine hK' _ ?_; clear hK' K') | refine kN kl165 fun K hK => ?_ | refine kO fun K hK => ?_) | refine iB ?_ | (with_reducible refine pK_mk ?_ ?_ <;> (intro hc; (try simp only [go_sem]); (try simp at hc); try (exfalso; omega))) | with_reducible refine And.intro (by first | omega | (unfold inI; omega)) ?_)
  refine pw_loop_over [2, 3, 5, 8, 9, 10, 11, 12, 13, 14, 15] (fun k : Nat => [(8, .d (.int .i64 (k : Int))), (3, .d (.int .i64 (xs.take k).sum))]) (fun k : Nat => []) 0 (fun k : Nat => k ≤ xs.length) (fun k : Nat => xs.length - k) 0 (Nat.zero_le _) (fits_mk [] (by simp [renL_d, bdL_d, sg, over, wipe, wl, memN, ins, rm, lk, fitFr, fit1, ren, renL, bd, bdL, app, fitHp, hget, renB, bdB, List.take_zero, List.sum_nil] <;> omega)) ?_
  intro k hk
  have hb1 := sumTake_bd hA h0 h hn k
  have hb2 := sumTake_bd hA h0 h hn (k + 1)
  simp only [over, wipe, wl, memN, ins, rm, if_true, if_false, Nat.reduceEqDiff, Bool.false_eq_true, reduceCtorEq]
  by_cases hlt : k < xs.length
  · have hx := List.getElem?_eq_getElem hlt
    generalize xs[k] = x at hx
    have hs := sum_snoc hx
    repeat' (first | ((with_reducible first | (refine hK _ ?_; clear hK K) | refine stq fun K' hK' => ?_ | refine stc ?_); try simp only [go_sem, List.getElem?_map, hx, Option.map_some, datI]) | (with_reducible first | refine stp ?_ | (refine hK' _ ?_; clear hK' K') | refine kN kl165 fun K hK => ?_ | refine kO fun K hK => ?_) | refine iB ?_ | (with_reducible refine pK_mk ?_ ?_ <;> (intro hc; (try simp only [go_sem, List.getElem?_map, hx, Option.map_some, datI]); (try simp at hc); try (exfalso; omega))) | with_reducible refine And.intro (by first | omega | (unfold inI; omega)) ?_)
    all_goals first
      | (exfalso; omega)
      | exact ⟨k + 1, by omega, by omega, (fits_mk [] (by simp [renL_d, bdL_d, sg, over, wipe, wl, memN, ins, rm, lk, fitFr, fit1, ren, renL, bd, bdL, app, fitHp, hget, renB, bdB, hs] <;> omega))⟩
  · have e : xs.take k = xs := List.take_of_length_le (by omega)
    rw [e]
    repeat' (first | ((with_reducible first | (refine hK _ ?_; clear hK K) | refine stq fun K' hK' => ?_ | refine stc ?_); try simp only [go_sem]) | (with_reducible first | refine stp ?_ | (refine hK' _ ?_; clear hK' K') | refine kN kl165 fun K hK => ?_ | refine kO fun K hK => ?_) | refine iB ?_ | (with_reducible refine pK_mk ?_ ?_ <;> (intro hc; (try simp only [go_sem]); (try simp at hc); try (exfalso; omega))) | with_reducible refine And.intro (by first | omega | (unfold inI; omega)) ?_)
    all_goals first
      | (exfalso; omega)
      | (refine retQ_ret rfl rfl (by simp [rowsOf, lk]) ?_; rfl)
theorem poSum_ok (xs : List Int) (A : Int) (hA : A ≤ 1000000000) (h0 : 0 ≤ A) (h : ∀ x ∈ xs, -A ≤ x ∧ x ≤ A) (hn : xs.length ≤ 1048576) : FnEq Tryz.prog 185 [.d (.lst 1 (xs.map datI))] [.d (.int .i64 xs.sum)] := by
  refine fn_ok G_ok Tryz.func185 rfl rfl ?_; simp only [Tryz.ntmps185, List.length_cons, List.length_nil, Nat.reduceAdd, Nat.reduceSub, enm]
  repeat' (first | ((with_reducible first | (refine hK _ ?_; clear hK K) | refine stq fun K' hK' => ?_ | refine stc ?_); try simp only [go_sem]) | (with_reducible first | refine stp ?_ | (refine hK' _ ?_; clear hK' K') | refine kN kl185 fun K hK => ?_ | refine kO fun K hK => ?_) | refine iB ?_ | (with_reducible refine pK_mk ?_ ?_ <;> (intro hc; (try simp only [go_sem]); (try simp at hc); try (exfalso; omega))) | with_reducible refine And.intro (by first | omega | (unfold inI; omega)) ?_)
  refine pw_loop_over [2, 3, 5, 8, 9, 10, 11, 12, 13, 14, 15] (fun k : Nat => [(8, .d (.int .i64 (k : Int))), (3, .d (.int .i64 (xs.take k).sum))]) (fun k : Nat => []) 0 (fun k : Nat => k ≤ xs.length) (fun k : Nat => xs.length - k) 0 (Nat.zero_le _) (fits_mk [] (by simp [renL_d, bdL_d, sg, over, wipe, wl, memN, ins, rm, lk, fitFr, fit1, ren, renL, bd, bdL, app, fitHp, hget, renB, bdB, List.take_zero, List.sum_nil] <;> omega)) ?_
  intro k hk
  have hb1 := sumTake_bd hA h0 h hn k
  have hb2 := sumTake_bd hA h0 h hn (k + 1)
  simp only [over, wipe, wl, memN, ins, rm, if_true, if_false, Nat.reduceEqDiff, Bool.false_eq_true, reduceCtorEq]
  by_cases hlt : k < xs.length
  · have hx := List.getElem?_eq_getElem hlt
    generalize xs[k] = x at hx
    have hs := sum_snoc hx
    repeat' (first | ((with_reducible first | (refine hK _ ?_; clear hK K) | refine stq fun K' hK' => ?_ | refine stc ?_); try simp only [go_sem, List.getElem?_map, hx, Option.map_some, datI]) | (with_reducible first | refine stp ?_ | (refine hK' _ ?_; clear hK' K') | refine kN kl185 fun K hK => ?_ | refine kO fun K hK => ?_) | refine iB ?_ | (with_reducible refine pK_mk ?_ ?_ <;> (intro hc; (try simp only [go_sem, List.getElem?_map, hx, Option.map_some, datI]); (try simp at hc); try (exfalso; omega))) | with_reducible refine And.intro (by first | omega | (unfold inI; omega)) ?_)
    all_goals first
      | (exfalso; omega)
      | exact ⟨k + 1, by omega, by omega, (fits_mk [] (by simp [renL_d, bdL_d, sg, over, wipe, wl, memN, ins, rm, lk, fitFr, fit1, ren, renL, bd, bdL, app, fitHp, hget, renB, bdB, hs] <;> omega))⟩
  · have e : xs.take k = xs := List.take_of_length_le (by omega)
    rw [e]
    repeat' (first | ((with_reducible first | (refine hK _ ?_; clear hK K) | refine stq fun K' hK' => ?_ | refine stc ?_); try simp only [go_sem]) | (with_reducible first | refine stp ?_ | (refine hK' _ ?_; clear hK' K') | refine kN kl185 fun K hK => ?_ | refine kO fun K hK => ?_) | refine iB ?_ | (with_reducible refine pK_mk ?_ ?_ <;> (intro hc; (try simp only [go_sem]); (try simp at hc); try (exfalso; omega))) | with_reducible refine And.intro (by first | omega | (unfold inI; omega)) ?_)
    all_goals first
      | (exfalso; omega)
      | (refine retQ_ret rfl rfl (by simp [rowsOf, lk]) ?_; rfl)
theorem l1Most_ok (a b : Int) : FnEq Tryz.prog 161 [.d (.int .i64 a), .d (.int .i64 b)] [.d (.int .i64 (max a b))] := by
  refine fn_ok G_ok Tryz.func161 rfl rfl ?_; simp only [Tryz.ntmps161, List.length_cons, List.length_nil, Nat.reduceAdd, Nat.reduceSub, enm]
  repeat' (first | ((with_reducible first | (refine hK _ ?_; clear hK K) | refine stq fun K' hK' => ?_ | refine stc ?_); try simp only [go_sem]) | (with_reducible first | refine stp ?_ | (refine hK' _ ?_; clear hK' K') | refine kN kl161 fun K hK => ?_ | refine kO fun K hK => ?_) | (with_reducible refine pK_mk ?_ ?_ <;> (intro hc; (try simp only [go_sem]); (try simp at hc); try (exfalso; omega))) | with_reducible refine And.intro (by first | omega | (unfold inI; omega)) ?_)
  all_goals (refine retQ_ret rfl rfl (by simp [rowsOf, lk]) ?_; congr 3; omega)
theorem l1Least_ok (a b : Int) : FnEq Tryz.prog 175 [.d (.int .i64 a), .d (.int .i64 b)] [.d (.int .i64 (min a b))] := by
  refine fn_ok G_ok Tryz.func175 rfl rfl ?_; simp only [Tryz.ntmps175, List.length_cons, List.length_nil, Nat.reduceAdd, Nat.reduceSub, enm]
  repeat' (first | ((with_reducible first | (refine hK _ ?_; clear hK K) | refine stq fun K' hK' => ?_ | refine stc ?_); try simp only [go_sem]) | (with_reducible first | refine stp ?_ | (refine hK' _ ?_; clear hK' K') | refine kN kl175 fun K hK => ?_ | refine kO fun K hK => ?_) | (with_reducible refine pK_mk ?_ ?_ <;> (intro hc; (try simp only [go_sem]); (try simp at hc); try (exfalso; omega))) | with_reducible refine And.intro (by first | omega | (unfold inI; omega)) ?_)
  all_goals (refine retQ_ret rfl rfl (by simp [rowsOf, lk]) ?_; congr 3; omega)
end Go.Proofs.YtphakidbddamfaaGreat
