/-
  Groups of entrants by rank, for all entrants and sizes: the program's RankGroups and the reference's, in the abstract machine.
-/
import Derived.Test.YthocihmhljmgdaaGreatDoorZEr
import Derived.Test.YthocihmhljmgdaaGreatDoorZGf
set_option linter.unusedSimpArgs false
set_option linter.unusedVariables false
set_option maxHeartbeats 2000000
set_option maxRecDepth 100000
namespace Go.Proofs.YthocihmhljmgdaaGreatDoor
open Go.RowKit Go.Sort

def RgOk (l : List EntrantD) (s : Int) : Prop := EntsOk l ∧ 1 ≤ s ∧ s ≤ 8 ∧ many l s.toNat ≤ 8
theorem cutInto_nil (xs ss : List Int) (h0 : ss.length = 0) (hn : xs.length ≤ 1048576) :
    FnEq Tryz.prog 79 [.d (.lst 1 (xs.map datI)), .d (.lst 1 (ss.map datI))] [.row 31 1 []] := by
  refine fn_ok G_ok Tryz.func79 rfl rfl ?_; simp only [Tryz.ntmps79, List.length_cons, List.length_nil, Nat.reduceAdd, Nat.reduceSub, enm]
  repeat' (first | ((with_reducible first | (refine hK _ ?_; clear hK K) | refine stq fun K' hK' => ?_ | refine stc ?_); try simp only [go_sem]) | (with_reducible first | refine stp ?_ | (refine hK' _ ?_; clear hK' K') | refine kN kl79 fun K hK => ?_ | refine kO fun K hK => ?_) | refine iB ?_ | (with_reducible refine pK_mk ?_ ?_ <;> (intro hc; (try simp only [go_sem]); (try simp at hc); try (exfalso; omega))) | with_reducible refine And.intro (by first | omega | (unfold inI; omega)) ?_)
  refine pw_loop_over [0, 4, 5, 7, 11, 12, 13, 14, 15, 16, 17, 18, 19, 20, 21, 22, 23, 24, 25] (fun k : Nat => [(11, .d (.int .i64 (k : Int))), (5, .row 0 0)]) (fun k : Nat => [(0, .row 31 1 [])]) 1 (fun k : Nat => k ≤ ss.length) (fun k : Nat => ss.length - k) 0 (Nat.zero_le _) (fits_mk [] (by simp [renL_d, bdL_d, sg, over, wipe, wl, memN, ins, rm, lk, fitFr, fit1, ren, renL, bd, bdL, app, fitHp, hget, renB, bdB] <;> omega)) ?_
  intro k hkl
  simp only [over, wipe, wl, memN, ins, rm, if_true, if_false, Nat.reduceEqDiff, Bool.false_eq_true, reduceCtorEq]
  repeat' (first | ((with_reducible first | (refine hK _ ?_; clear hK K) | refine stq fun K' hK' => ?_ | refine stc ?_); try simp only [go_sem]) | (with_reducible first | refine stp ?_ | (refine hK' _ ?_; clear hK' K') | refine kN kl79 fun K hK => ?_ | refine kO fun K hK => ?_) | refine iB ?_ | (with_reducible refine pK_mk ?_ ?_ <;> (intro hc; (try simp only [go_sem]); (try simp at hc); try (exfalso; omega))) | with_reducible refine And.intro (by first | omega | (unfold inI; omega)) ?_)
  all_goals first
    | (exfalso; omega)
    | (refine retQ_ret rfl (by simp only [retL, ret1, hget, lk, List.length_map, List.length_nil, List.length_append, List.length_take, if_true, if_false, Nat.reduceEqDiff, Nat.reduceBEq, Bool.false_eq_true, Option.some.injEq]; rfl) (by simp [rowsOf, lk]) ?_; rfl)
theorem soGroups_nil (l : List EntrantD) (s : Nat) (h0 : l.length = 0) (hs : 1 ≤ s) (hs8 : s ≤ 8) : FnEq Tryz.prog 135 [.d (.lst 2 (l.map EntrantD.dat)), .d (.int .i64 (s : Int))] [.row 31 1 [], .d (.bool true)] := by
  refine fn_ok G_ok Tryz.func135 rfl rfl ?_; simp only [Tryz.ntmps135, List.length_cons, List.length_nil, Nat.reduceAdd, Nat.reduceSub, enm]
  have hs0 : ¬ (s : Int) = 0 := by omega
  have hz : (0 + s - 1) / s = 0 := Nat.div_eq_of_lt (by omega)
  have hq : ((l.length : Int) + (s : Int) - 1).tdiv (s : Int) = ((0 : Nat) : Int) := by
    rw [show (l.length : Int) + (s : Int) - 1 = ((0 + s - 1 : Nat) : Int) by omega]
    exact congrArg Int.ofNat hz
  repeat' (first | ((with_reducible first | (refine hK _ ?_; clear hK K) | refine stq fun K' hK' => ?_ | refine stc ?_); try simp only [go_sem, hq, hs0]) | (with_reducible first | refine stp ?_ | (refine hK' _ ?_; clear hK' K') | refine kN kl135 fun K hK => ?_ | refine kO fun K hK => ?_) | refine iB ?_ | (with_reducible refine pK_mk ?_ ?_ <;> (intro hc; (try simp only [go_sem, hq, hs0]); (try simp at hc); try (exfalso; omega))) | with_reducible refine And.intro (by first | omega | (unfold inI; omega)) ?_)
  all_goals first
    | (exfalso; omega)
    | (refine retQ_ret rfl (by simp only [retL, ret1, hget, lk, List.length_map, List.length_nil, List.length_append, List.length_take, if_true, if_false, Nat.reduceEqDiff, Nat.reduceBEq, Bool.false_eq_true, Option.some.injEq]; rfl) (by simp [rowsOf, lk]) ?_; rfl)
theorem soGroups_many (l : List EntrantD) (s : Nat) (hn : l.length ≤ 40) (hs : 1 ≤ s) (hs8 : s ≤ 8) (hm : 8 < many l s) : FnEq Tryz.prog 135 [.d (.lst 2 (l.map EntrantD.dat)), .d (.int .i64 (s : Int))] [.row 31 1 [], .d (.bool false)] := by
  refine fn_ok G_ok Tryz.func135 rfl rfl ?_; simp only [Tryz.ntmps135, List.length_cons, List.length_nil, Nat.reduceAdd, Nat.reduceSub, enm]
  have hs0 : ¬ (s : Int) = 0 := by omega
  have hq : ((l.length : Int) + (s : Int) - 1).tdiv (s : Int) = (many l s : Int) := by
    rw [show (l.length : Int) + (s : Int) - 1 = ((l.length + s - 1 : Nat) : Int) by omega]
    rfl
  have hm2 : many l s ≤ l.length + s - 1 := Nat.div_le_self _ _
  generalize many l s = g at *
  repeat' (first | ((with_reducible first | (refine hK _ ?_; clear hK K) | refine stq fun K' hK' => ?_ | refine stc ?_); try simp only [go_sem, hq, hs0]) | (with_reducible first | refine stp ?_ | (refine hK' _ ?_; clear hK' K') | refine kN kl135 fun K hK => ?_ | refine kO fun K hK => ?_) | refine iB ?_ | (with_reducible refine pK_mk ?_ ?_ <;> (intro hc; (try simp only [go_sem, hq, hs0]); (try simp at hc); try (exfalso; omega))) | with_reducible refine And.intro (by first | omega | (unfold inI; omega)) ?_)
  all_goals first
    | (exfalso; omega)
    | (refine retQ_ret rfl (by simp only [retL, ret1, hget, lk, List.length_map, List.length_nil, List.length_append, List.length_take, if_true, if_false, Nat.reduceEqDiff, Nat.reduceBEq, Bool.false_eq_true, Option.some.injEq]; rfl) (by simp [rowsOf, lk]) ?_; rfl)
theorem soSize_ok (n : Int) : FnEq Tryz.prog 83 [.d (.int .i64 n)] [.d (.bool (decide (1 ≤ n) && decide (n ≤ 8)))] := by
  refine fn_ok G_ok Tryz.func83 rfl rfl ?_; simp only [Tryz.ntmps83, List.length_cons, List.length_nil, Nat.reduceAdd, Nat.reduceSub, enm]
  repeat' (first | ((with_reducible first | (refine hK _ ?_; clear hK K) | refine stq fun K' hK' => ?_ | refine stc ?_); try simp only [go_sem]) | (with_reducible first | refine stp ?_ | (refine hK' _ ?_; clear hK' K') | refine kN kl83 fun K hK => ?_ | refine kO fun K hK => ?_) | ((with_reducible apply CallK.eq); (· with_reducible first | exact l1In_ok _ _ _); (· simp [RV.flat, D.sc, datI]); try simp only [go_sem]) | (with_reducible refine pK_mk ?_ ?_ <;> (intro hc; (try simp only [go_sem]); (try simp at hc); try (exfalso; omega))) | with_reducible refine And.intro (by first | omega | (unfold inI; omega)) ?_)
  refine retQ_ret rfl rfl (by simp [rowsOf, lk]) ?_; rfl
theorem isGroupSize_ok (n : Int) : FnEq Tryz.prog 76 [.d (.int .i64 n)] [.d (.bool (decide (1 ≤ n) && decide (n ≤ 8)))] := by
  refine fn_ok G_ok Tryz.func76 rfl rfl ?_; simp only [Tryz.ntmps76, List.length_cons, List.length_nil, Nat.reduceAdd, Nat.reduceSub, enm]
  repeat' (first | ((with_reducible first | (refine hK _ ?_; clear hK K) | refine stq fun K' hK' => ?_ | refine stc ?_); try simp only [go_sem]) | (with_reducible first | refine stp ?_ | (refine hK' _ ?_; clear hK' K') | refine kN kl76 fun K hK => ?_ | refine kO fun K hK => ?_) | ((with_reducible apply CallK.eq); (· with_reducible first | exact within_ok _ _ _); (· simp [RV.flat, D.sc, datI]); try simp only [go_sem]) | (with_reducible refine pK_mk ?_ ?_ <;> (intro hc; (try simp only [go_sem]); (try simp at hc); try (exfalso; omega))) | with_reducible refine And.intro (by first | omega | (unfold inI; omega)) ?_)
  refine retQ_ret rfl rfl (by simp [rowsOf, lk]) ?_; rfl
end Go.Proofs.YthocihmhljmgdaaGreatDoor
namespace Go.Proofs.YthocihmhljmgdaaGreatDoor
open Go.RowKit

def gsE (l : List EntrantD) (s : Int) : List (List Int) := grpE l (many l s.toNat)
theorem grpE_bd {l : List EntrantD} (hv : EntsOk l) (g : Nat) : ∀ c ∈ grpE l g, c.length ≤ 40 := by
  intro c hc
  obtain ⟨d, hd, rfl⟩ := List.mem_map.1 hc
  rw [sortUp_len]
  exact chE_bd hv g d hd
theorem grpE_len (l : List EntrantD) (g : Nat) : (grpE l g).length = g := by unfold grpE; rw [List.length_map, chE_len]
theorem gsE_nil {l : List EntrantD} {s : Int} (h0 : l.length = 0) (h1 : 1 ≤ s) : gsE l s = [] := by
  have h : many l s.toNat = 0 := by unfold many; rw [h0]; exact Nat.div_eq_of_lt (by omega)
  exact List.eq_nil_of_length_eq_zero (by unfold gsE; rw [h, grpE_len])
theorem ord_ne {o : List Int} (h : OrdOk o) : o.Pairwise (· ≠ ·) := by
  rw [List.pairwise_iff_getElem]
  intro i j hi hj hij e
  refine (h.2 j o[j] hj (List.getElem?_eq_getElem hj)).2.2 ?_
  rw [← e]
  exact List.mem_of_getElem? (i := i) (by rw [List.getElem?_take_of_lt hij]; exact List.getElem?_eq_getElem hi)
end Go.Proofs.YthocihmhljmgdaaGreatDoor
