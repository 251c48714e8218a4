/-
  Numbers put in at a place of a list: the reference's l1Own, and words.
-/
import Derived.Test.YtldcnlhfanbdfaaAn
import Derived.Test.YtldcnlhfanbdfaaWi
set_option linter.unusedSimpArgs false
set_option linter.unusedVariables false
set_option maxHeartbeats 2000000
set_option maxRecDepth 100000
namespace Go.Proofs.Ytldcnlhfanbdfaa
open Go.RowKit

theorem datI_sc {xs : List Int} {e : List D} (he : e ∈ xs.map datI) {d : D} (hd : d ∈ e) : d.sc := by
  obtain ⟨x, _, rfl⟩ := List.mem_map.1 he
  rw [show datI x = [.int .i64 x] from rfl, List.mem_singleton] at hd
  subst hd
  simp [D.sc]
theorem flat_one {b : Bool} {ty : TypeId} {sz : Nat} {es : List (List D)} (h : ∀ e ∈ es, ∀ d ∈ e, d.sc) : b = true → ∀ r ∈ [RV.row ty sz es], r.flat := by
  intro _ r hr
  rw [List.mem_singleton] at hr
  subst hr
  exact h
theorem l1Own_ok (es : List (List D)) (hb : es.length ≤ 16777216) : FnEq Try.prog 71 [.d (.lst 1 es)] [.row 3 1 es] := by
  refine fn_ok G_ok Try.func71 rfl rfl ?_; simp only [Try.ntmps71, List.length_cons, List.length_nil, Nat.reduceAdd, Nat.reduceSub, enm]
  repeat' (first | (with_reducible refine execL_step (fun K' hK' => ?_); (first | with_reducible refine s_none rfl ?_ | refine s_some2 rfl ?_); simp only [go_sem]) | (with_reducible refine hK' _ ?_; clear hK' K') | with_reducible refine execL_nil ?_ | (with_reducible refine hK _ ?_; clear hK K; try simp only [go_sem]) | with_reducible refine pw_seq_opsK kl71 G_ok (fun K hK => ?_) | with_reducible (first | refine pw_seq (x := .seq _ _) ?_ | refine thenA_normal ?_ | refine thenA_exit ?_ | refine thenA_ret ?_ | refine inBlockA_same ?_ | refine inBlockA_ret ?_ | refine inBlockA_normal ?_) | refine inBlockA_other (by decide) ?_ | with_reducible (first | refine pw_seq (pw_block ?_) | refine pw_seq (pw_skip (thenA_normal ?_)) | refine pw_skip ?_ | refine pw_exit ?_ | refine pw_ret ?_ | refine pw_ops G_ok (fun K hK => ?_)) | with_reducible refine pw_block ?_ | (with_reducible refine pK_mk (fun hc => ?_) (fun hc => ?_) <;> (try simp only [go_sem]) <;> (try simp at hc) <;> (try (exfalso; omega))) | ((first | refine pw_seq (pw_cond rfl (fun hc => ?_) (fun hc => ?_)) | refine pw_cond rfl (fun hc => ?_) (fun hc => ?_)) <;> (try simp at hc) <;> (try (exfalso; omega))) | with_reducible refine And.intro (by first | omega | (unfold inI; omega) | exact andI_inI _) ?_)
  refine retQ_ret rfl (by simp only [retL, ret1, hget, lk, List.length_map, List.length_nil, List.length_append, List.length_take, if_true, if_false, Nat.reduceEqDiff, Nat.reduceBEq, Bool.false_eq_true, Option.some.injEq]; rfl) (by simp [rowsOf, lk]) ?_; rfl
end Go.Proofs.Ytldcnlhfanbdfaa
