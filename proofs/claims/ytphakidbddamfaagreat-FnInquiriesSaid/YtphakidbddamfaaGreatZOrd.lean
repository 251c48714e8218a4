/-
  Orders of skaters: which are valid, who is in one, who is in one and not in another; the program's functions and the reference's, in the abstract machine.
-/
import Derived.Test.YtphakidbddamfaaGreatZAw
set_option linter.unusedSimpArgs false
set_option linter.unusedVariables false
set_option maxHeartbeats 2000000
set_option maxRecDepth 100000
namespace Go.Proofs.YtphakidbddamfaaGreat
open Go.RowKit
def sF (l:List Int) (k:Nat) (x:Int):Prop:=1≤x∧x≤999∧x ∉ l.take k
def OrdUpto (l:List Int) (k:Nat):Prop:=∀ j x,j < k→l[j]? = some x→sF l j x
def OrdOk (l:List Int):Prop:=l.length≤40∧OrdUpto l l.length
theorem OrdUpto.zero (l:List Int):OrdUpto l 0:=fun _ _ h=>absurd h (by omega)
theorem OrdUpto.succ {l:List Int} {k:Nat} {x:Int} (h:OrdUpto l k) (hx:l[k]? = some x) (hf:sF l k x):OrdUpto l (k + 1):=by
 intro j y hj hy
 by_cases e:j = k
 ·subst e
  rw [hx] at hy
  cases hy
  exact hf
 ·exact h j y (by omega) hy
theorem OrdOk.not_at {l:List Int} {k:Nat} {x:Int} (hx:l[k]? = some x) (hf:¬ sF l k x):¬ OrdOk l:=
 fun h=>hf (h.2 k x (List.getElem?_eq_some_iff.1 hx).1 hx)
theorem ra (l:List Int) (hn:l.length≤1048576):FnEq Tryz.prog 180 [.d (.lst 1 (l.map aa))] [.row 3 1 (l.map aa)]:=by
 refine aN ae Tryz.func180 rfl rfl ?_;simp only [Tryz.ntmps180,aP,aK,Nat.reduceAdd,Nat.reduceSub,aV]
 repeat' (first|((with_reducible first|(apply hK;clear hK K)|refine ah fun U O=>?_|apply ag|(apply Z<;>(intro hc;try simp at hc;try omega)))<;>try simp only [go_sem])|(with_reducible first|apply aj|(apply O;clear O U)|refine kN yl fun K hK=>?_|refine kO fun K hK=>?_|refine aI ?_)|fail)
 refine ak rfl (by simp only [bj,bn,ab,lk,ao,aK,List.length_append,List.length_take,if_true,if_false,Nat.reduceEqDiff,Nat.reduceBEq,Bool.false_eq_true,Option.some.injEq];rfl) (by simp [am,lk]) ?_;rfl
end Go.Proofs.YtphakidbddamfaaGreat
