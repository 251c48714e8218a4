/-
  Bounds and membership: the small functions that all chapters call, in the abstract machine.
-/
import Derived.Test.YtldcnlhfanbdfaaLs
set_option linter.unusedSimpArgs false
set_option linter.unusedVariables false
set_option maxHeartbeats 2000000
set_option maxRecDepth 100000
namespace Go.Proofs.Ytldcnlhfanbdfaa
open Go.RowKit

theorem within_ok (n lo hi : Int) : FnEq Try.prog 50 [.d (.int .i64 n), .d (.int .i64 lo), .d (.int .i64 hi)] [.d (.bool (decide (lo ≤ n) && decide (n ≤ hi)))] := by
  refine fn_ok G_ok Try.func50 rfl rfl ?_; simp only [Try.ntmps50, List.length_cons, List.length_nil, Nat.reduceAdd, Nat.reduceSub, enm]
  repeat' (first | (with_reducible refine execL_step (fun K' hK' => ?_); (first | with_reducible refine s_none rfl ?_ | refine s_some2 rfl ?_); simp only [go_sem]) | (with_reducible refine hK' _ ?_; clear hK' K') | with_reducible refine execL_nil ?_ | (with_reducible refine hK _ ?_; clear hK K; try simp only [go_sem]) | with_reducible refine pw_seq_opsK kl50 G_ok (fun K hK => ?_) | with_reducible (first | refine pw_seq (x := .seq _ _) ?_ | refine thenA_normal ?_ | refine thenA_exit ?_ | refine thenA_ret ?_ | refine inBlockA_same ?_ | refine inBlockA_ret ?_ | refine inBlockA_normal ?_) | refine inBlockA_other (by decide) ?_ | with_reducible (first | refine pw_seq (pw_block ?_) | refine pw_seq (pw_skip (thenA_normal ?_)) | refine pw_skip ?_ | refine pw_exit ?_ | refine pw_ret ?_ | refine pw_ops G_ok (fun K hK => ?_)) | with_reducible refine pw_block ?_ | (with_reducible refine pK_mk (fun hc => ?_) (fun hc => ?_) <;> (try simp only [go_sem]) <;> (try simp at hc) <;> (try (exfalso; omega))) | ((first | refine pw_seq (pw_cond rfl (fun hc => ?_) (fun hc => ?_)) | refine pw_cond rfl (fun hc => ?_) (fun hc => ?_)) <;> (try simp at hc) <;> (try (exfalso; omega))) | with_reducible refine And.intro (by first | omega | (unfold inI; omega) | exact andI_inI _) ?_)
  · refine retQ_ret rfl rfl (by simp [rowsOf, lk]) ?_; simp [hc]
  · refine retQ_ret rfl rfl (by simp [rowsOf, lk]) ?_; simp; omega
theorem l1In_ok (n lo hi : Int) : FnEq Try.prog 52 [.d (.int .i64 n), .d (.int .i64 lo), .d (.int .i64 hi)] [.d (.bool (decide (lo ≤ n) && decide (n ≤ hi)))] := by
  refine fn_ok G_ok Try.func52 rfl rfl ?_; simp only [Try.ntmps52, List.length_cons, List.length_nil, Nat.reduceAdd, Nat.reduceSub, enm]
  repeat' (first | (with_reducible refine execL_step (fun K' hK' => ?_); (first | with_reducible refine s_none rfl ?_ | refine s_some2 rfl ?_); simp only [go_sem]) | (with_reducible refine hK' _ ?_; clear hK' K') | with_reducible refine execL_nil ?_ | (with_reducible refine hK _ ?_; clear hK K; try simp only [go_sem]) | with_reducible refine pw_seq_opsK kl52 G_ok (fun K hK => ?_) | with_reducible (first | refine pw_seq (x := .seq _ _) ?_ | refine thenA_normal ?_ | refine thenA_exit ?_ | refine thenA_ret ?_ | refine inBlockA_same ?_ | refine inBlockA_ret ?_ | refine inBlockA_normal ?_) | refine inBlockA_other (by decide) ?_ | with_reducible (first | refine pw_seq (pw_block ?_) | refine pw_seq (pw_skip (thenA_normal ?_)) | refine pw_skip ?_ | refine pw_exit ?_ | refine pw_ret ?_ | refine pw_ops G_ok (fun K hK => ?_)) | with_reducible refine pw_block ?_ | (with_reducible refine pK_mk (fun hc => ?_) (fun hc => ?_) <;> (try simp only [go_sem]) <;> (try simp at hc) <;> (try (exfalso; omega))) | ((first | refine pw_seq (pw_cond rfl (fun hc => ?_) (fun hc => ?_)) | refine pw_cond rfl (fun hc => ?_) (fun hc => ?_)) <;> (try simp at hc) <;> (try (exfalso; omega))) | with_reducible refine And.intro (by first | omega | (unfold inI; omega) | exact andI_inI _) ?_)
  · refine retQ_ret rfl rfl (by simp [rowsOf, lk]) ?_; simp [hc]
  · refine retQ_ret rfl rfl (by simp [rowsOf, lk]) ?_; simp; omega
theorem l1Has_ok (xs : List Int) (n : Int) (hn : xs.length ≤ 16777216) : FnEq Try.prog 60 [.d (.lst 1 (xs.map datI)), .d (.int .i64 n)] [.d (.bool (bP (n ∈ xs)))] := by
  refine fn_ok G_ok Try.func60 rfl rfl ?_; simp only [Try.ntmps60, List.length_cons, List.length_nil, Nat.reduceAdd, Nat.reduceSub, enm]
  repeat' (first | (with_reducible refine execL_step (fun K' hK' => ?_); (first | with_reducible refine s_none rfl ?_ | refine s_some2 rfl ?_); simp only [go_sem]) | (with_reducible refine hK' _ ?_; clear hK' K') | with_reducible refine execL_nil ?_ | (with_reducible refine hK _ ?_; clear hK K; try simp only [go_sem]) | with_reducible refine pw_seq_opsK kl60 G_ok (fun K hK => ?_) | with_reducible (first | refine pw_seq (x := .seq _ _) ?_ | refine thenA_normal ?_ | refine thenA_exit ?_ | refine thenA_ret ?_ | refine inBlockA_same ?_ | refine inBlockA_ret ?_ | refine inBlockA_normal ?_) | refine inBlockA_other (by decide) ?_ | with_reducible (first | refine pw_seq (pw_block ?_) | refine pw_seq (pw_skip (thenA_normal ?_)) | refine pw_skip ?_ | refine pw_exit ?_ | refine pw_ret ?_ | refine pw_ops G_ok (fun K hK => ?_)) | with_reducible refine pw_block ?_ | (with_reducible refine pK_mk (fun hc => ?_) (fun hc => ?_) <;> (try simp only [go_sem]) <;> (try simp at hc) <;> (try (exfalso; omega))) | ((first | refine pw_seq (pw_cond rfl (fun hc => ?_) (fun hc => ?_)) | refine pw_cond rfl (fun hc => ?_) (fun hc => ?_)) <;> (try simp at hc) <;> (try (exfalso; omega))) | with_reducible refine And.intro (by first | omega | (unfold inI; omega) | exact andI_inI _) ?_)
  refine pw_loop_over [4, 6, 9, 10, 11, 12, 13, 14, 15, 16] (fun k : Nat => [(9, .d (.int .i64 (k : Int)))]) (fun k : Nat => []) 0 (fun k : Nat => k ≤ xs.length ∧ n ∉ xs.take k) (fun k : Nat => xs.length - k) 0 ⟨Nat.zero_le _, by simp⟩ (fits_mk [] (by simp [renL_d, bdL_d, sg, over, wipe, wl, memN, ins, rm, lk, fitFr, fit1, ren, renL, bd, bdL, app, fitHp, hget, renB, bdB] <;> omega)) ?_
  rintro k ⟨hk, hJ⟩
  simp only [over, wipe, wl, memN, ins, rm, if_true, if_false, Nat.reduceEqDiff, Bool.false_eq_true, reduceCtorEq]
  by_cases hlt : k < xs.length
  · have hx := List.getElem?_eq_getElem hlt
    generalize xs[k] = x at hx
    repeat' (first | (with_reducible refine execL_step (fun K' hK' => ?_); (first | with_reducible refine s_none rfl ?_ | refine s_some2 rfl ?_); simp only [go_sem, List.getElem?_map, hx, Option.map_some, datI]) | (with_reducible refine hK' _ ?_; clear hK' K') | with_reducible refine execL_nil ?_ | (with_reducible refine hK _ ?_; clear hK K; try simp only [go_sem, List.getElem?_map, hx, Option.map_some, datI]) | with_reducible refine pw_seq_opsK kl60 G_ok (fun K hK => ?_) | with_reducible (first | refine pw_seq (x := .seq _ _) ?_ | refine thenA_normal ?_ | refine thenA_exit ?_ | refine thenA_ret ?_ | refine inBlockA_same ?_ | refine inBlockA_ret ?_ | refine inBlockA_normal ?_) | refine inBlockA_other (by decide) ?_ | with_reducible (first | refine pw_seq (pw_block ?_) | refine pw_seq (pw_skip (thenA_normal ?_)) | refine pw_skip ?_ | refine pw_exit ?_ | refine pw_ret ?_ | refine pw_ops G_ok (fun K hK => ?_)) | with_reducible refine pw_block ?_ | (with_reducible refine pK_mk (fun hc => ?_) (fun hc => ?_) <;> (try simp only [go_sem, List.getElem?_map, hx, Option.map_some, datI]) <;> (try simp at hc) <;> (try (exfalso; omega))) | ((first | refine pw_seq (pw_cond rfl (fun hc => ?_) (fun hc => ?_)) | refine pw_cond rfl (fun hc => ?_) (fun hc => ?_)) <;> (try simp at hc) <;> (try (exfalso; omega))) | with_reducible refine And.intro (by first | omega | (unfold inI; omega) | exact andI_inI _) ?_)
    · refine retQ_ret rfl rfl (by simp [rowsOf, lk]) ?_; rw [bP_true (hc ▸ List.mem_of_getElem? hx)]
    · exact ⟨k + 1, ⟨by omega, by rw [take_snoc hx]; simp [hJ, Ne.symm hc]⟩, by omega, (fits_mk [] (by simp [renL_d, bdL_d, sg, over, wipe, wl, memN, ins, rm, lk, fitFr, fit1, ren, renL, bd, bdL, app, fitHp, hget, renB, bdB] <;> omega))⟩
  · repeat' (first | (with_reducible refine execL_step (fun K' hK' => ?_); (first | with_reducible refine s_none rfl ?_ | refine s_some2 rfl ?_); simp only [go_sem]) | (with_reducible refine hK' _ ?_; clear hK' K') | with_reducible refine execL_nil ?_ | (with_reducible refine hK _ ?_; clear hK K; try simp only [go_sem]) | with_reducible refine pw_seq_opsK kl60 G_ok (fun K hK => ?_) | with_reducible (first | refine pw_seq (x := .seq _ _) ?_ | refine thenA_normal ?_ | refine thenA_exit ?_ | refine thenA_ret ?_ | refine inBlockA_same ?_ | refine inBlockA_ret ?_ | refine inBlockA_normal ?_) | refine inBlockA_other (by decide) ?_ | with_reducible (first | refine pw_seq (pw_block ?_) | refine pw_seq (pw_skip (thenA_normal ?_)) | refine pw_skip ?_ | refine pw_exit ?_ | refine pw_ret ?_ | refine pw_ops G_ok (fun K hK => ?_)) | with_reducible refine pw_block ?_ | (with_reducible refine pK_mk (fun hc => ?_) (fun hc => ?_) <;> (try simp only [go_sem]) <;> (try simp at hc) <;> (try (exfalso; omega))) | ((first | refine pw_seq (pw_cond rfl (fun hc => ?_) (fun hc => ?_)) | refine pw_cond rfl (fun hc => ?_) (fun hc => ?_)) <;> (try simp at hc) <;> (try (exfalso; omega))) | with_reducible refine And.intro (by first | omega | (unfold inI; omega) | exact andI_inI _) ?_)
    refine retQ_ret rfl rfl (by simp [rowsOf, lk]) ?_; rw [bP_false]; rwa [List.take_of_length_le (by omega)] at hJ
/-- the sign of a number -/
def sgn (n : Int) : Int := if 0 < n then 1 else if n < 0 then -1 else 0
theorem signOf_ok (n : Int) : FnEq Try.prog 66 [.d (.int .i64 n)] [.d (.int .i64 (sgn n))] := by
  refine fn_ok G_ok Try.func66 rfl rfl ?_; simp only [Try.ntmps66, List.length_cons, List.length_nil, Nat.reduceAdd, Nat.reduceSub, enm]
  repeat' (first | (with_reducible refine execL_step (fun K' hK' => ?_); (first | with_reducible refine s_none rfl ?_ | refine s_some2 rfl ?_); simp only [go_sem]) | (with_reducible refine hK' _ ?_; clear hK' K') | with_reducible refine execL_nil ?_ | (with_reducible refine hK _ ?_; clear hK K; try simp only [go_sem]) | with_reducible refine pw_seq_opsK kl66 G_ok (fun K hK => ?_) | with_reducible (first | refine pw_seq (x := .seq _ _) ?_ | refine thenA_normal ?_ | refine thenA_exit ?_ | refine thenA_ret ?_ | refine inBlockA_same ?_ | refine inBlockA_ret ?_ | refine inBlockA_normal ?_) | refine inBlockA_other (by decide) ?_ | with_reducible (first | refine pw_seq (pw_block ?_) | refine pw_seq (pw_skip (thenA_normal ?_)) | refine pw_skip ?_ | refine pw_exit ?_ | refine pw_ret ?_ | refine pw_ops G_ok (fun K hK => ?_)) | with_reducible refine pw_block ?_ | (with_reducible refine pK_mk (fun hc => ?_) (fun hc => ?_) <;> (try simp only [go_sem]) <;> (try simp at hc) <;> (try (exfalso; omega))) | ((first | refine pw_seq (pw_cond rfl (fun hc => ?_) (fun hc => ?_)) | refine pw_cond rfl (fun hc => ?_) (fun hc => ?_)) <;> (try simp at hc) <;> (try (exfalso; omega))) | with_reducible refine And.intro (by first | omega | (unfold inI; omega) | exact andI_inI _) ?_)
  all_goals (refine retQ_ret rfl rfl (by simp [rowsOf, lk]) ?_; unfold sgn; first | rw [if_pos (by omega)] | (rw [if_neg (by omega)]; first | rw [if_pos (by omega)] | rw [if_neg (by omega)]))
theorem l1Sign_ok (n : Int) : FnEq Try.prog 68 [.d (.int .i64 n)] [.d (.int .i64 (sgn n))] := by
  refine fn_ok G_ok Try.func68 rfl rfl ?_; simp only [Try.ntmps68, List.length_cons, List.length_nil, Nat.reduceAdd, Nat.reduceSub, enm]
  repeat' (first | (with_reducible refine execL_step (fun K' hK' => ?_); (first | with_reducible refine s_none rfl ?_ | refine s_some2 rfl ?_); simp only [go_sem]) | (with_reducible refine hK' _ ?_; clear hK' K') | with_reducible refine execL_nil ?_ | (with_reducible refine hK _ ?_; clear hK K; try simp only [go_sem]) | with_reducible refine pw_seq_opsK kl68 G_ok (fun K hK => ?_) | with_reducible (first | refine pw_seq (x := .seq _ _) ?_ | refine thenA_normal ?_ | refine thenA_exit ?_ | refine thenA_ret ?_ | refine inBlockA_same ?_ | refine inBlockA_ret ?_ | refine inBlockA_normal ?_) | refine inBlockA_other (by decide) ?_ | with_reducible (first | refine pw_seq (pw_block ?_) | refine pw_seq (pw_skip (thenA_normal ?_)) | refine pw_skip ?_ | refine pw_exit ?_ | refine pw_ret ?_ | refine pw_ops G_ok (fun K hK => ?_)) | with_reducible refine pw_block ?_ | (with_reducible refine pK_mk (fun hc => ?_) (fun hc => ?_) <;> (try simp only [go_sem]) <;> (try simp at hc) <;> (try (exfalso; omega))) | ((first | refine pw_seq (pw_cond rfl (fun hc => ?_) (fun hc => ?_)) | refine pw_cond rfl (fun hc => ?_) (fun hc => ?_)) <;> (try simp at hc) <;> (try (exfalso; omega))) | with_reducible refine And.intro (by first | omega | (unfold inI; omega) | exact andI_inI _) ?_)
  all_goals (refine retQ_ret rfl rfl (by simp [rowsOf, lk]) ?_; unfold sgn; first | rw [if_pos (by omega)] | (rw [if_neg (by omega)]; first | rw [if_pos (by omega)] | rw [if_neg (by omega)]))
/-- the sum of a list -/
def sm (xs : List Int) : Int := xs.foldl (fun a x => a + x) 0
theorem sm_nil : sm [] = 0 := rfl
theorem sm_snoc {xs : List Int} {k : Nat} {x : Int} (h : xs[k]? = some x) : sm (xs.take (k + 1)) = sm (xs.take k) + x := by
  unfold sm; rw [take_snoc h, List.foldl_append]; rfl
theorem sm_from (xs : List Int) (a : Int) : xs.foldl (fun a x => a + x) a = a + sm xs := by
  induction xs generalizing a with
  | nil => simp [sm]
  | cons x xs ih => unfold sm; rw [List.foldl_cons, List.foldl_cons, ih, ih (0 + x)]; omega
theorem sm_cons (x : Int) (xs : List Int) : sm (x :: xs) = x + sm xs := by
  have h : sm (x :: xs) = xs.foldl (fun a x => a + x) (0 + x) := rfl
  rw [h, sm_from]; omega
theorem sm_append (xs ys : List Int) : sm (xs ++ ys) = sm xs + sm ys := by
  have h : sm (xs ++ ys) = ys.foldl (fun a x => a + x) (xs.foldl (fun a x => a + x) 0) := List.foldl_append
  rw [h, sm_from]; rfl
theorem sm_perm {xs ys : List Int} (h : xs.Perm ys) : sm xs = sm ys := by
  induction h with
  | nil => rfl
  | cons x _ ih => rw [sm_cons, sm_cons, ih]
  | swap x y l => rw [sm_cons, sm_cons, sm_cons, sm_cons]; omega
  | trans _ _ h1 h2 => exact h1.trans h2
theorem sm_bd {M : Int} : ∀ {xs : List Int}, (∀ x ∈ xs, 0 ≤ x ∧ x ≤ M) → 0 ≤ sm xs ∧ sm xs ≤ M * xs.length
  | [], _ => by simp [sm]
  | x :: xs, h => by
    have h1 := h x (by simp)
    have h2 := sm_bd (xs := xs) fun y hy => h y (List.mem_cons_of_mem _ hy)
    rw [sm_cons, List.length_cons]
    have e : M * ((xs.length + 1 : Nat) : Int) = M * xs.length + M := by rw [Int.natCast_add]; simp [Int.mul_add]
    rw [e]
    omega
/-- the sum of what a walk has met, and bounds on it -/
theorem sm_take_bd {M : Int} {xs : List Int} (h : ∀ x ∈ xs, 0 ≤ x ∧ x ≤ M) (k : Nat) : 0 ≤ sm (xs.take k) ∧ sm (xs.take k) ≤ M * (xs.take k).length :=
  sm_bd fun x hx => h x (List.mem_of_mem_take hx)
end Go.Proofs.Ytldcnlhfanbdfaa
