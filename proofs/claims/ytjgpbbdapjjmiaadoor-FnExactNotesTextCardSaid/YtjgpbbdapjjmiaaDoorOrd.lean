/-
  Orders of skaters: which are valid, who is in one, who is in one and not in another; the program's functions and the reference's, in the abstract machine.
-/
import Derived.Test.YtjgpbbdapjjmiaaDoorWi
set_option linter.unusedSimpArgs false
set_option linter.unusedVariables false
set_option maxHeartbeats 2000000
set_option maxRecDepth 100000
namespace Go.Proofs.YtjgpbbdapjjmiaaDoor
open Go.RowKit

def OrdAt (l : List Int) (k : Nat) (x : Int) : Prop := 1 ≤ x ∧ x ≤ 999 ∧ x ∉ l.take k
def OrdUpto (l : List Int) (k : Nat) : Prop := ∀ j x, j < k → l[j]? = some x → OrdAt l j x
def OrdOk (l : List Int) : Prop := l.length ≤ 40 ∧ OrdUpto l l.length
theorem OrdUpto.zero (l : List Int) : OrdUpto l 0 := fun _ _ h => absurd h (by omega)
theorem OrdUpto.succ {l : List Int} {k : Nat} {x : Int} (h : OrdUpto l k) (hx : l[k]? = some x) (hf : OrdAt l k x) : OrdUpto l (k + 1) := by
  intro j y hj hy
  by_cases e : j = k
  · subst e
    rw [hx] at hy
    cases hy
    exact hf
  · exact h j y (by omega) hy
theorem OrdOk.not_at {l : List Int} {k : Nat} {x : Int} (hx : l[k]? = some x) (hf : ¬ OrdAt l k x) : ¬ OrdOk l :=
  fun h => hf (h.2 k x (List.getElem?_eq_some_iff.1 hx).1 hx)
theorem ord_end {l : List Int} {k : Nat} (h : OrdUpto l k) (hk : l.length ≤ k) (hk' : k ≤ l.length) : (decide ((l.length : Int) ≤ 40)) = bP (OrdOk l) := by
  by_cases h1 : l.length ≤ 40
  · rw [bP_true ⟨h1, by rwa [show k = l.length by omega] at h⟩]; simp; omega
  · rw [bP_false fun h' => h1 h'.1]; simp; omega
theorem idxOf_at {n : Int} : ∀ {xs : List Int} {k : Nat}, xs[k]? = some n → n ∉ xs.take k → xs.idxOf n = k
  | [], k, h, _ => by simp at h
  | x :: xs, 0, h, _ => by simp at h; simp [h]
  | x :: xs, k + 1, h, hn => by
    simp only [List.getElem?_cons_succ] at h
    simp only [List.take_succ_cons, List.mem_cons, not_or] at hn
    rw [List.idxOf_cons, Bool.cond_eq_ite, if_neg (by simpa using Ne.symm hn.1), idxOf_at h hn.2]
/-- the first place of a number, or -1 -/
noncomputable def ixOf (xs : List Int) (n : Int) : Int := if bP (n ∈ xs) = true then (xs.idxOf n : Int) else -1
/-- the numbers of a list that are not in another -/
noncomputable def wo (l o : List Int) : List Int := l.filter fun x => !bP (x ∈ o)
theorem wo_yes {l o : List Int} {k : Nat} {x : Int} (hx : l[k]? = some x) (h : bP (x ∈ o) = false) : wo (l.take (k + 1)) o = wo (l.take k) o ++ [x] := by
  unfold wo; rw [take_snoc hx, List.filter_append]; simp [h]
theorem wo_no {l o : List Int} {k : Nat} {x : Int} (hx : l[k]? = some x) (h : bP (x ∈ o) = true) : wo (l.take (k + 1)) o = wo (l.take k) o := by
  unfold wo; rw [take_snoc hx, List.filter_append]; simp [h]
theorem wo_len (l o : List Int) : (wo l o).length ≤ l.length := List.length_filter_le _ _
theorem wo_take_len (l o : List Int) (k : Nat) : (wo (l.take k) o).length ≤ k := Nat.le_trans (wo_len _ _) (List.length_take_le _ _)

theorem isSkater_ok (n : Int) : FnEq Tryd.prog 38 [.d (.int .i64 n)] [.d (.bool (decide (1 ≤ n) && decide (n ≤ 999)))] := by
  refine fn_ok G_ok Tryd.func38 rfl rfl ?_; simp only [Tryd.ntmps38, List.length_cons, List.length_nil, Nat.reduceAdd, Nat.reduceSub, enm]
  repeat' (first | ((with_reducible first | (refine hK _ ?_; clear hK K) | refine stq fun K' hK' => ?_ | refine stc ?_); try simp only [go_sem]) | (with_reducible first | refine stp ?_ | (refine hK' _ ?_; clear hK' K') | refine kN kl38 fun K hK => ?_ | refine kO fun K hK => ?_) | ((with_reducible apply CallK.eq); (· with_reducible first | exact within_ok _ _ _); (· simp [RV.flat, D.sc, datI]); try simp only [go_sem]) | (with_reducible refine pK_mk ?_ ?_ <;> (intro hc; (try simp only [go_sem]); (try simp at hc); try (exfalso; omega))) | with_reducible refine And.intro (by first | omega | (unfold inI; omega)) ?_)
  refine retQ_ret rfl rfl (by simp [rowsOf, lk]) ?_; rfl
end Go.Proofs.YtjgpbbdapjjmiaaDoor
