/-
  Numbers put one by one into ascending order: plain words; the reference's l1Put, in the abstract machine.
-/
import Derived.Test.YtkncdoodlggbcaaGreatSm
import Derived.Test.YtkncdoodlggbcaaGreatIo
set_option linter.unusedSimpArgs false
set_option linter.unusedVariables false
set_option maxHeartbeats 2000000
set_option maxRecDepth 100000
namespace Go.Proofs.YtkncdoodlggbcaaGreat
open Go.RowKit

def ltI (a b : Int) : Bool := decide (a < b)
theorem ltI_tot : TotOn ltI (fun _ => True) := ⟨fun _ _ h => by simp [ltI] at h ⊢; omega, fun _ _ _ h1 h2 => by simp [ltI] at h1 h2 ⊢; omega, fun _ _ h1 h2 => by simp [ltI] at h1 h2; omega⟩
def insAll (xs : List Int) : List Int := xs.foldl (fun acc x => insO ltI x acc) []
theorem insAll_snoc (xs : List Int) (x : Int) : insAll (xs ++ [x]) = insO ltI x (insAll xs) := by unfold insAll; rw [List.foldl_append]; rfl
theorem insAll_aux : ∀ (xs acc : List Int), acc.Pairwise (fun a b => ltI a b = true) → (∀ x ∈ xs, x ∉ acc) → xs.Pairwise (· ≠ ·) → (xs.foldl (fun acc x => insO ltI x acc) acc).Pairwise (fun a b => ltI a b = true) ∧ (xs.foldl (fun acc x => insO ltI x acc) acc).Perm (acc ++ xs)
  | [], acc, h, _, _ => ⟨h, by simp⟩
  | x :: xs, acc, h, hd, hp => by
    have hp1 := List.pairwise_cons.1 hp
    have h1 := insO_sorted ltI_tot (x := x) trivial (l := acc) (fun _ _ => trivial) (fun y hy e => hd x (by simp) (e ▸ hy)) h
    have hm : ∀ y, y ∈ insO ltI x acc ↔ y = x ∨ y ∈ acc := fun y => by rw [(insO_perm ltI x acc).mem_iff, List.mem_cons]
    obtain ⟨h2, h3⟩ := insAll_aux xs (insO ltI x acc) h1 (fun y hy hy2 => by
      rcases (hm y).1 hy2 with e | e
      · exact hp1.1 y hy e.symm
      · exact hd y (List.mem_cons_of_mem _ hy) e) hp1.2
    refine ⟨h2, h3.trans ?_⟩
    have h4 : (insO ltI x acc ++ xs).Perm ((x :: acc) ++ xs) := (insO_perm ltI x acc).append_right xs
    exact h4.trans (by simpa using (List.perm_middle (a := x) (l₁ := acc) (l₂ := xs)).symm)
theorem insAll_sorted {xs : List Int} (h : xs.Pairwise (· ≠ ·)) : (insAll xs).Pairwise (fun a b => ltI a b = true) := (insAll_aux xs [] List.Pairwise.nil (by simp) h).1
theorem insAll_perm {xs : List Int} (h : xs.Pairwise (· ≠ ·)) : (insAll xs).Perm xs := by have h1 := (insAll_aux xs [] List.Pairwise.nil (by simp) h).2; rwa [List.nil_append] at h1
theorem sortUp_ins {xs : List Int} (h : xs.Pairwise (· ≠ ·)) : sortUp xs = insAll xs := by
  have hp := insAll_perm h
  refine List.Perm.eq_of_pairwise (le := fun a b : Int => a ≤ b) (fun a b _ _ h1 h2 => by omega) (sortUp_sorted xs) ((insAll_sorted h).imp fun h => by simp [ltI] at h; omega) ((sortUp_perm xs).trans hp.symm)
theorem l1Put_ok (xs : List Int) (n : Int) (hxs : xs.length ≤ 1048576) (hs : xs.Pairwise (fun a b => ltI a b = true)) (hne : n ∉ xs) : FnEq Tryz.prog 59 [.d (.lst 1 (xs.map datI)), .d (.int .i64 n)] [.row 3 1 ((insO ltI n xs).map datI)] := by
  refine fn_ok G_ok Tryz.func59 rfl rfl ?_; simp only [Tryz.ntmps59, List.length_cons, List.length_nil, Nat.reduceAdd, Nat.reduceSub, enm]
  repeat' (first | (with_reducible refine execL_step (fun K' hK' => ?_); (first | with_reducible refine s_none rfl ?_ | refine s_some2 rfl ?_); simp only [go_sem]) | (with_reducible refine hK' _ ?_; clear hK' K') | with_reducible refine execL_nil ?_ | (with_reducible refine hK _ ?_; clear hK K; try simp only [go_sem]) | with_reducible refine pw_seq_opsK kl59 G_ok (fun K hK => ?_) | with_reducible (first | refine pw_seq (x := .seq _ _) ?_ | refine thenA_normal ?_ | refine thenA_exit ?_ | refine thenA_ret ?_ | refine inBlockA_same ?_ | refine inBlockA_ret ?_ | refine inBlockA_normal ?_) | refine inBlockA_other (by decide) ?_ | with_reducible (first | refine pw_seq (pw_block ?_) | refine pw_seq (pw_skip (thenA_normal ?_)) | refine pw_skip ?_ | refine pw_exit ?_ | refine pw_ret ?_ | refine pw_ops G_ok (fun K hK => ?_)) | with_reducible refine pw_block ?_ | (with_reducible refine pK_mk (fun hc => ?_) (fun hc => ?_) <;> (try simp only [go_sem]) <;> (try simp at hc) <;> (try (exfalso; omega))) | ((first | refine pw_seq (pw_cond rfl (fun hc => ?_) (fun hc => ?_)) | refine pw_cond rfl (fun hc => ?_) (fun hc => ?_)) <;> (try simp at hc) <;> (try (exfalso; omega))) | with_reducible refine And.intro (by first | omega | (unfold inI; omega) | exact andI_inI _) ?_)
  refine (fun (key : ∀ (i : Nat), i ≤ xs.length → (∀ j y, j < i → xs[j]? = some y → y < n) → (∀ y, xs[i]? = some y → n < y) → insO ltI n xs = xs.take i ++ n :: xs.drop i) => ?main) ?key
  case key =>
    intro i hi h1 h2
    refine insO_at ltI_tot trivial xs i (fun _ _ => trivial) hs hi (fun j y hj hy => ?_) (fun y h0 hy => by simp [ltI]; exact h1 _ y (by omega) hy)
    have hil : i < xs.length := by have := (List.getElem?_eq_some_iff.1 hy).1; omega
    have hz := List.getElem?_eq_getElem hil
    have h3 := h2 _ hz
    rcases Nat.eq_or_lt_of_le hj with e | e
    · subst e
      rw [hz] at hy
      cases hy
      simp [ltI]
      omega
    · have h4 := List.pairwise_iff_getElem.1 hs i j hil (List.getElem?_eq_some_iff.1 hy).1 e
      rw [(List.getElem?_eq_some_iff.1 hy).2] at h4
      simp [ltI] at h4 ⊢
      omega
  case main =>
    refine pw_loop_over [4, 5, 7, 8, 9, 10, 11, 12, 13, 14, 15, 16, 17, 18, 19, 20] (fun i : Nat => [(5, .d (.int .i64 (i : Int)))]) (fun _ => []) 0 (fun i => i ≤ xs.length ∧ ∀ j y, j < i → xs[j]? = some y → y < n) (fun i => xs.length - i) 0 ⟨by omega, fun j y h => absurd h (by omega)⟩ (fits_mk [] (by simp [renL_d, bdL_d, sg, over, wipe, wl, memN, ins, rm, lk, fitFr, fit1, ren, renL, bd, bdL, app, fitHp, hget, renB, bdB] <;> omega)) ?_
    rintro i ⟨hi, hJ⟩
    simp only [over, wipe, wl, memN, ins, rm, if_true, if_false, Nat.reduceEqDiff, Bool.false_eq_true, reduceCtorEq]
    by_cases hlt : i < xs.length
    · have hx := List.getElem?_eq_getElem hlt
      generalize xs[i] = y at hx
      have hny : y ≠ n := fun e => hne (e ▸ List.mem_of_getElem? hx)
      by_cases hyn : y < n
      · have hlt' : (i : Int) < (xs.length : Int) := by omega
        repeat' (first | (with_reducible refine execL_step (fun K' hK' => ?_); (first | with_reducible refine s_none rfl ?_ | refine s_some2 rfl ?_); simp only [go_sem, List.getElem?_map, hx, Option.map_some, datI, hlt, hlt', hyn]) | (with_reducible refine hK' _ ?_; clear hK' K') | with_reducible refine execL_nil ?_ | (with_reducible refine hK _ ?_; clear hK K; try simp only [go_sem, List.getElem?_map, hx, Option.map_some, datI, hlt, hlt', hyn]) | with_reducible refine pw_seq_opsK kl59 G_ok (fun K hK => ?_) | with_reducible (first | refine pw_seq (x := .seq _ _) ?_ | refine thenA_normal ?_ | refine thenA_exit ?_ | refine thenA_ret ?_ | refine inBlockA_same ?_ | refine inBlockA_ret ?_ | refine inBlockA_normal ?_) | refine inBlockA_other (by decide) ?_ | with_reducible (first | refine pw_seq (pw_block ?_) | refine pw_seq (pw_skip (thenA_normal ?_)) | refine pw_skip ?_ | refine pw_exit ?_ | refine pw_ret ?_ | refine pw_ops G_ok (fun K hK => ?_)) | with_reducible refine pw_block ?_ | (with_reducible refine pK_mk (fun hc => ?_) (fun hc => ?_) <;> (try simp only [go_sem, List.getElem?_map, hx, Option.map_some, datI, hlt, hlt', hyn]) <;> (try simp at hc) <;> (try (exfalso; omega))) | ((first | refine pw_seq (pw_cond rfl (fun hc => ?_) (fun hc => ?_)) | refine pw_cond rfl (fun hc => ?_) (fun hc => ?_)) <;> (try simp at hc) <;> (try (exfalso; omega))) | with_reducible refine And.intro (by first | omega | (unfold inI; omega) | exact andI_inI _) ?_)
        all_goals exact ⟨i + 1, ⟨by omega, fun j z hj hz => by
          by_cases e : j = i
          · subst e; rw [hx] at hz; cases hz; exact hyn
          · exact hJ j z (by omega) hz⟩, by omega, (fits_mk [] (by simp [renL_d, bdL_d, sg, over, wipe, wl, memN, ins, rm, lk, fitFr, fit1, ren, renL, bd, bdL, app, fitHp, hget, renB, bdB] <;> omega))⟩
      · have hins := key i hi hJ fun z hz => by rw [hx] at hz; cases hz; omega
        have hlt' : (i : Int) < (xs.length : Int) := by omega
        have hin : i ≤ xs.length := hi
        have htl : (List.take i (List.map datI xs)).length = i := by simp; omega
        have htx : List.take xs.length (List.map datI xs) = List.map datI xs := List.take_of_length_le (by simp)
        have hdl : (List.drop i (List.map datI xs)).length = xs.length - i := by simp
        have hcont : List.take i (List.map datI xs) ++ [[D.int .i64 n]] ++ List.drop i (List.map datI xs) = (insO ltI n xs).map datI := by rw [hins]; simp [datI]
        have hcont2 : List.take i (List.map datI xs) ++ ([D.int .i64 n] :: List.drop i (List.map datI xs)) = (insO ltI n xs).map datI := by rw [hins]; simp [datI]
        have hil : (insO ltI n xs).length = i + 1 + (xs.length - i) := by rw [(insO_perm ltI n xs).length_eq, List.length_cons]; omega
        repeat' (first | (with_reducible refine execL_step (fun K' hK' => ?_); (first | with_reducible refine s_none rfl ?_ | refine s_some2 rfl ?_); simp only [go_sem, List.getElem?_map, hx, Option.map_some, datI, hlt, hlt', hyn, hny, hin, htl, htx, hdl, List.length_append, List.length_cons, List.length_nil, Nat.zero_add]) | (with_reducible refine hK' _ ?_; clear hK' K') | with_reducible refine execL_nil ?_ | (with_reducible refine hK _ ?_; clear hK K; try simp only [go_sem, List.getElem?_map, hx, Option.map_some, datI, hlt, hlt', hyn, hny, hin, htl, htx, hdl, List.length_append, List.length_cons, List.length_nil, Nat.zero_add]) | with_reducible refine pw_seq_opsK kl59 G_ok (fun K hK => ?_) | with_reducible (first | refine pw_seq (x := .seq _ _) ?_ | refine thenA_normal ?_ | refine thenA_exit ?_ | refine thenA_ret ?_ | refine inBlockA_same ?_ | refine inBlockA_ret ?_ | refine inBlockA_normal ?_) | refine inBlockA_other (by decide) ?_ | with_reducible (first | refine pw_seq (pw_block ?_) | refine pw_seq (pw_skip (thenA_normal ?_)) | refine pw_skip ?_ | refine pw_exit ?_ | refine pw_ret ?_ | refine pw_ops G_ok (fun K hK => ?_)) | with_reducible refine pw_block ?_ | (with_reducible refine pK_mk (fun hc => ?_) (fun hc => ?_) <;> (try simp only [go_sem, List.getElem?_map, hx, Option.map_some, datI, hlt, hlt', hyn, hny, hin, htl, htx, hdl, List.length_append, List.length_cons, List.length_nil, Nat.zero_add]) <;> (try simp at hc) <;> (try (exfalso; omega))) | ((first | refine pw_seq (pw_cond rfl (fun hc => ?_) (fun hc => ?_)) | refine pw_cond rfl (fun hc => ?_) (fun hc => ?_)) <;> (try simp at hc) <;> (try (exfalso; omega))) | with_reducible refine And.intro (by first | omega | (unfold inI; omega) | exact andI_inI _) ?_)
        all_goals first
          | (exfalso; omega)
          | (refine retQ_ret rfl (by simp only [hcont, hcont2, hil, retL, ret1, hget, lk, List.length_map, List.length_nil, List.length_append, List.length_take, if_true, if_false, Nat.reduceEqDiff, Nat.reduceBEq, Bool.false_eq_true, Option.some.injEq]; rfl) (by simp [rowsOf, lk]) ?_; rfl)
          | skip
    · have hins := key i hi hJ fun z hz => by rw [List.getElem?_eq_none (by omega)] at hz; cases hz
      have hlt' : ¬ (i : Int) < (xs.length : Int) := by omega
      have hin : i ≤ xs.length := hi
      have htl : (List.take i (List.map datI xs)).length = i := by simp; omega
      have htx : List.take xs.length (List.map datI xs) = List.map datI xs := List.take_of_length_le (by simp)
      have hdl : (List.drop i (List.map datI xs)).length = xs.length - i := by simp
      have hcont : List.take i (List.map datI xs) ++ [[D.int .i64 n]] ++ List.drop i (List.map datI xs) = (insO ltI n xs).map datI := by rw [hins]; simp [datI]
      have hcont2 : List.take i (List.map datI xs) ++ ([D.int .i64 n] :: List.drop i (List.map datI xs)) = (insO ltI n xs).map datI := by rw [hins]; simp [datI]
      have hil : (insO ltI n xs).length = i + 1 + (xs.length - i) := by rw [(insO_perm ltI n xs).length_eq, List.length_cons]; omega
      repeat' (first | (with_reducible refine execL_step (fun K' hK' => ?_); (first | with_reducible refine s_none rfl ?_ | refine s_some2 rfl ?_); simp only [go_sem, hlt, hlt', hin, htl, htx, hdl, List.length_append, List.length_cons, List.length_nil, Nat.zero_add]) | (with_reducible refine hK' _ ?_; clear hK' K') | with_reducible refine execL_nil ?_ | (with_reducible refine hK _ ?_; clear hK K; try simp only [go_sem, hlt, hlt', hin, htl, htx, hdl, List.length_append, List.length_cons, List.length_nil, Nat.zero_add]) | with_reducible refine pw_seq_opsK kl59 G_ok (fun K hK => ?_) | with_reducible (first | refine pw_seq (x := .seq _ _) ?_ | refine thenA_normal ?_ | refine thenA_exit ?_ | refine thenA_ret ?_ | refine inBlockA_same ?_ | refine inBlockA_ret ?_ | refine inBlockA_normal ?_) | refine inBlockA_other (by decide) ?_ | with_reducible (first | refine pw_seq (pw_block ?_) | refine pw_seq (pw_skip (thenA_normal ?_)) | refine pw_skip ?_ | refine pw_exit ?_ | refine pw_ret ?_ | refine pw_ops G_ok (fun K hK => ?_)) | with_reducible refine pw_block ?_ | (with_reducible refine pK_mk (fun hc => ?_) (fun hc => ?_) <;> (try simp only [go_sem, hlt, hlt', hin, htl, htx, hdl, List.length_append, List.length_cons, List.length_nil, Nat.zero_add]) <;> (try simp at hc) <;> (try (exfalso; omega))) | ((first | refine pw_seq (pw_cond rfl (fun hc => ?_) (fun hc => ?_)) | refine pw_cond rfl (fun hc => ?_) (fun hc => ?_)) <;> (try simp at hc) <;> (try (exfalso; omega))) | with_reducible refine And.intro (by first | omega | (unfold inI; omega) | exact andI_inI _) ?_)
      all_goals first
        | (exfalso; omega)
        | (refine retQ_ret rfl (by simp only [hcont, hcont2, hil, retL, ret1, hget, lk, List.length_map, List.length_nil, List.length_append, List.length_take, if_true, if_false, Nat.reduceEqDiff, Nat.reduceBEq, Bool.false_eq_true, Option.some.injEq]; rfl) (by simp [rowsOf, lk]) ?_; rfl)
        | skip
end Go.Proofs.YtkncdoodlggbcaaGreat
