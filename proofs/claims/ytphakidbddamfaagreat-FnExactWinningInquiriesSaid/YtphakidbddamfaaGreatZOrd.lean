/-
  Orders of skaters: which are valid, who is in one, who is in one and not in another; the program's functions and the reference's, in the abstract machine.
-/
import Derived.Test.YtphakidbddamfaaGreatZAw
set_option linter.unusedSimpArgs false
set_option linter.unusedVariables false
set_option maxHeartbeats 2000000
set_option maxRecDepth 100000
namespace Go.Proofs.YtphakidbddamfaaGreat
open Go.RowKit

def OrdAt (l : List Int) (k : Nat) (x : Int) : Prop := 1 ≤ x ∧ x ≤ 999 ∧ x ∉ l.take k
def OrdUpto (l : List Int) (k : Nat) : Prop := ∀ j x, j < k → l[j]? = some x → OrdAt l j x
def OrdOk (l : List Int) : Prop := l.length ≤ 40 ∧ OrdUpto l l.length
theorem OrdUpto.zero (l : List Int) : OrdUpto l 0 := fun _ _ h => absurd h (by omega)
theorem OrdUpto.succ {l : List Int} {k : Nat} {x : Int} (h : OrdUpto l k) (hx : l[k]? = some x) (hf : OrdAt l k x) : OrdUpto l (k + 1) := by
  intro j y hj hy
  by_cases e : j = k
  · subst e
    rw [hx] at hy
    cases hy
    exact hf
  · exact h j y (by omega) hy
theorem OrdOk.not_at {l : List Int} {k : Nat} {x : Int} (hx : l[k]? = some x) (hf : ¬ OrdAt l k x) : ¬ OrdOk l :=
  fun h => hf (h.2 k x (List.getElem?_eq_some_iff.1 hx).1 hx)
theorem copyInts_ok (l : List Int) (hn : l.length ≤ 1048576) : FnEq Tryz.prog 180 [.d (.lst 1 (l.map datI))] [.row 3 1 (l.map datI)] := by
  refine fn_ok G_ok Tryz.func180 rfl rfl ?_; simp only [Tryz.ntmps180, List.length_cons, List.length_nil, Nat.reduceAdd, Nat.reduceSub, enm]
  repeat' (first | ((with_reducible first | (refine hK _ ?_; clear hK K) | refine stq fun K' hK' => ?_ | refine stc ?_); try simp only [go_sem]) | (with_reducible first | refine stp ?_ | (refine hK' _ ?_; clear hK' K') | refine kN kl180 fun K hK => ?_ | refine kO fun K hK => ?_) | (with_reducible refine pK_mk ?_ ?_ <;> (intro hc; (try simp only [go_sem]); (try simp at hc); try (exfalso; omega))) | with_reducible refine And.intro (by first | omega | (unfold inI; omega)) ?_)
  refine retQ_ret rfl (by simp only [retL, ret1, hget, lk, List.length_map, List.length_nil, List.length_append, List.length_take, if_true, if_false, Nat.reduceEqDiff, Nat.reduceBEq, Bool.false_eq_true, Option.some.injEq]; rfl) (by simp [rowsOf, lk]) ?_; rfl
end Go.Proofs.YtphakidbddamfaaGreat
