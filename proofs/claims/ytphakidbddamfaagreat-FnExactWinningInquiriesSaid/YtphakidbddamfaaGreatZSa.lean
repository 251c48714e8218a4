/-
  Numbers rounded and added: the program's functions and the reference's, in the abstract machine.
-/
import Derived.Test.YtphakidbddamfaaGreatZGw
set_option linter.unusedSimpArgs false
set_option linter.unusedVariables false
set_option maxHeartbeats 2000000
set_option maxRecDepth 100000
namespace Go.Proofs.YtphakidbddamfaaGreat
open Go.RowKit

theorem sumTake_bd {A : Int} {xs : List Int} (hA : A ≤ 1000000000) (h0 : 0 ≤ A) (h : ∀ x ∈ xs, -A ≤ x ∧ x ≤ A) (hn : xs.length ≤ 1048576) (k : Nat) : -1048576000000000 ≤ (xs.take k).sum ∧ (xs.take k).sum ≤ 1048576000000000 := by
  have h1 := sum_bd (l := xs.take k) fun x hx => h x (List.mem_of_mem_take hx)
  have h2 : (xs.take k).length ≤ 1048576 := by simp; omega
  have h3 := mul_nn (a := A) (b := ((xs.take k).length : Int)) (A := 1000000000) (B := 1048576) h0 hA (by omega) (by omega)
  omega
theorem floorDiv_ok (a b : Int) (h1 : -1000000000000 ≤ a) (h2 : a ≤ 1000000000000) (hb : 0 < b) : FnEq Tryz.prog 218 [.d (.int .i64 a), .d (.int .i64 b)] [.d (.int .i64 (dnW a b))] := by
  have hq := tdiv_bd a b 1000000000000 h1 h2
  have hm := tmod_bd (b := b) h1 h2
  have e : dnW a b = if a.tmod b < 0 then a.tdiv b - 1 else a.tdiv b := rfl
  refine fn_ok G_ok Tryz.func218 rfl rfl ?_; simp only [Tryz.ntmps218, List.length_cons, List.length_nil, Nat.reduceAdd, Nat.reduceSub, enm]
  by_cases hneg : a.tmod b < 0
  · rw [if_pos hneg] at e
    generalize hq0 : a.tdiv b = q at hq e
    generalize hm0 : a.tmod b = m at hm hneg
    repeat' (first | ((with_reducible first | (refine hK _ ?_; clear hK K) | refine stq fun K' hK' => ?_ | refine stc ?_); try simp only [go_sem, hq0, hm0]) | (with_reducible first | refine stp ?_ | (refine hK' _ ?_; clear hK' K') | refine kN kl218 fun K hK => ?_ | refine kO fun K hK => ?_) | (with_reducible refine pK_mk ?_ ?_ <;> (intro hc; (try simp only [go_sem, hq0, hm0]); (try simp at hc); try (exfalso; omega))) | with_reducible refine And.intro (by first | omega | (unfold inI; omega)) ?_)
    all_goals first
      | (exfalso; omega)
      | (refine retQ_ret rfl rfl (by simp [rowsOf, lk]) ?_; rw [e])
  · rw [if_neg hneg] at e
    generalize hq0 : a.tdiv b = q at hq e
    generalize hm0 : a.tmod b = m at hm hneg
    repeat' (first | ((with_reducible first | (refine hK _ ?_; clear hK K) | refine stq fun K' hK' => ?_ | refine stc ?_); try simp only [go_sem, hq0, hm0]) | (with_reducible first | refine stp ?_ | (refine hK' _ ?_; clear hK' K') | refine kN kl218 fun K hK => ?_ | refine kO fun K hK => ?_) | (with_reducible refine pK_mk ?_ ?_ <;> (intro hc; (try simp only [go_sem, hq0, hm0]); (try simp at hc); try (exfalso; omega))) | with_reducible refine And.intro (by first | omega | (unfold inI; omega)) ?_)
    all_goals first
      | (exfalso; omega)
      | (refine retQ_ret rfl rfl (by simp [rowsOf, lk]) ?_; rw [e])
theorem poDown_ok (a b : Int) (h1 : -1000000000000 ≤ a) (h2 : a ≤ 1000000000000) (hb : 0 < b) : FnEq Tryz.prog 215 [.d (.int .i64 a), .d (.int .i64 b)] [.d (.int .i64 (dnW a b))] := by
  have hq := tdiv_bd a b 1000000000000 h1 h2
  have hm := tmod_bd (b := b) h1 h2
  have e : dnW a b = if a.tmod b < 0 then a.tdiv b - 1 else a.tdiv b := rfl
  refine fn_ok G_ok Tryz.func215 rfl rfl ?_; simp only [Tryz.ntmps215, List.length_cons, List.length_nil, Nat.reduceAdd, Nat.reduceSub, enm]
  by_cases hneg : a.tmod b < 0
  · rw [if_pos hneg] at e
    generalize hq0 : a.tdiv b = q at hq e
    generalize hm0 : a.tmod b = m at hm hneg
    repeat' (first | ((with_reducible first | (refine hK _ ?_; clear hK K) | refine stq fun K' hK' => ?_ | refine stc ?_); try simp only [go_sem, hq0, hm0]) | (with_reducible first | refine stp ?_ | (refine hK' _ ?_; clear hK' K') | refine kN kl215 fun K hK => ?_ | refine kO fun K hK => ?_) | (with_reducible refine pK_mk ?_ ?_ <;> (intro hc; (try simp only [go_sem, hq0, hm0]); (try simp at hc); try (exfalso; omega))) | with_reducible refine And.intro (by first | omega | (unfold inI; omega)) ?_)
    all_goals first
      | (exfalso; omega)
      | (refine retQ_ret rfl rfl (by simp [rowsOf, lk]) ?_; rw [e])
  · rw [if_neg hneg] at e
    generalize hq0 : a.tdiv b = q at hq e
    generalize hm0 : a.tmod b = m at hm hneg
    repeat' (first | ((with_reducible first | (refine hK _ ?_; clear hK K) | refine stq fun K' hK' => ?_ | refine stc ?_); try simp only [go_sem, hq0, hm0]) | (with_reducible first | refine stp ?_ | (refine hK' _ ?_; clear hK' K') | refine kN kl215 fun K hK => ?_ | refine kO fun K hK => ?_) | (with_reducible refine pK_mk ?_ ?_ <;> (intro hc; (try simp only [go_sem, hq0, hm0]); (try simp at hc); try (exfalso; omega))) | with_reducible refine And.intro (by first | omega | (unfold inI; omega)) ?_)
    all_goals first
      | (exfalso; omega)
      | (refine retQ_ret rfl rfl (by simp [rowsOf, lk]) ?_; rw [e])
theorem roundDiv_ok (a b : Int) (h1 : -100000000000 ≤ a) (h2 : a ≤ 100000000000) (hb : 0 < b) (hb2 : b ≤ 1000000) : FnEq Tryz.prog 192 [.d (.int .i64 a), .d (.int .i64 b)] [.d (.int .i64 (roundW a b))] := by
  refine fn_ok G_ok Tryz.func192 rfl rfl ?_; simp only [Tryz.ntmps192, List.length_cons, List.length_nil, Nat.reduceAdd, Nat.reduceSub, enm]
  repeat' (first | ((with_reducible first | (refine hK _ ?_; clear hK K) | refine stq fun K' hK' => ?_ | refine stc ?_); try simp only [go_sem]) | (with_reducible first | refine stp ?_ | (refine hK' _ ?_; clear hK' K') | refine kN kl192 fun K hK => ?_ | refine kO fun K hK => ?_) | ((with_reducible apply CallK.eq); (· with_reducible first | exact floorDiv_ok (2 * a + b) (2 * b) (by omega) (by omega) (by omega)); (· simp [RV.flat, D.sc, datI]); try simp only [go_sem]) | (with_reducible refine pK_mk ?_ ?_ <;> (intro hc; (try simp only [go_sem]); (try simp at hc); try (exfalso; omega))) | with_reducible refine And.intro (by first | omega | (unfold inI; omega)) ?_)
  all_goals first
    | (exfalso; omega)
    | (refine retQ_ret rfl rfl (by simp [rowsOf, lk]) ?_; rfl)
theorem poRound_ok (a b : Int) (h1 : -100000000000 ≤ a) (h2 : a ≤ 100000000000) (hb : 0 < b) (hb2 : b ≤ 1000000) : FnEq Tryz.prog 187 [.d (.int .i64 a), .d (.int .i64 b)] [.d (.int .i64 (roundW a b))] := by
  refine fn_ok G_ok Tryz.func187 rfl rfl ?_; simp only [Tryz.ntmps187, List.length_cons, List.length_nil, Nat.reduceAdd, Nat.reduceSub, enm]
  repeat' (first | ((with_reducible first | (refine hK _ ?_; clear hK K) | refine stq fun K' hK' => ?_ | refine stc ?_); try simp only [go_sem]) | (with_reducible first | refine stp ?_ | (refine hK' _ ?_; clear hK' K') | refine kN kl187 fun K hK => ?_ | refine kO fun K hK => ?_) | ((with_reducible apply CallK.eq); (· with_reducible first | exact poDown_ok (2 * a + b) (2 * b) (by omega) (by omega) (by omega)); (· simp [RV.flat, D.sc, datI]); try simp only [go_sem]) | (with_reducible refine pK_mk ?_ ?_ <;> (intro hc; (try simp only [go_sem]); (try simp at hc); try (exfalso; omega))) | with_reducible refine And.intro (by first | omega | (unfold inI; omega)) ?_)
  all_goals first
    | (exfalso; omega)
    | (refine retQ_ret rfl rfl (by simp [rowsOf, lk]) ?_; rfl)
theorem sumInts_ok (xs : List Int) (A : Int) (hA : A ≤ 1000000000) (h0 : 0 ≤ A) (h : ∀ x ∈ xs, -A ≤ x ∧ x ≤ A) (hn : xs.length ≤ 1048576) : FnEq Tryz.prog 165 [.d (.lst 1 (xs.map datI))] [.d (.int .i64 xs.sum)] := by
  refine fn_ok G_ok Tryz.func165 rfl rfl ?_; simp only [Tryz.ntmps165, List.length_cons, List.length_nil, Nat.reduceAdd, Nat.reduceSub, enm]
  repeat' (first | ((with_reducible first | (refine hK _ ?_; clear hK K) | refine stq fun K' hK' => ?_ | refine stc ?_); try simp only [go_sem]) | (with_reducible first | refine stp ?_ | (refine hK' _ ?_; clear hK' K') | refine kN kl165 fun K hK => ?_ | refine kO fun K hK => ?_) | refine iB ?_ | (with_reducible refine pK_mk ?_ ?_ <;> (intro hc; (try simp only [go_sem]); (try simp at hc); try (exfalso; omega))) | with_reducible refine And.intro (by first | omega | (unfold inI; omega)) ?_)
  refine pw_loop_over [2, 3, 5, 8, 9, 10, 11, 12, 13, 14, 15] (fun k : Nat => [(8, .d (.int .i64 (k : Int))), (3, .d (.int .i64 (xs.take k).sum))]) (fun k : Nat => []) 0 (fun k : Nat => k ≤ xs.length) (fun k : Nat => xs.length - k) 0 (Nat.zero_le _) (fits_mk [] (by simp [renL_d, bdL_d, sg, over, wipe, wl, memN, ins, rm, lk, fitFr, fit1, ren, renL, bd, bdL, app, fitHp, hget, renB, bdB, List.take_zero, List.sum_nil] <;> omega)) ?_
  intro k hk
  have hb1 := sumTake_bd hA h0 h hn k
  have hb2 := sumTake_bd hA h0 h hn (k + 1)
  simp only [over, wipe, wl, memN, ins, rm, if_true, if_false, Nat.reduceEqDiff, Bool.false_eq_true, reduceCtorEq]
  by_cases hlt : k < xs.length
  · have hx := List.getElem?_eq_getElem hlt
    generalize xs[k] = x at hx
    have hs := sum_snoc hx
    repeat' (first | ((with_reducible first | (refine hK _ ?_; clear hK K) | refine stq fun K' hK' => ?_ | refine stc ?_); try simp only [go_sem, List.getElem?_map, hx, Option.map_some, datI]) | (with_reducible first | refine stp ?_ | (refine hK' _ ?_; clear hK' K') | refine kN kl165 fun K hK => ?_ | refine kO fun K hK => ?_) | refine iB ?_ | (with_reducible refine pK_mk ?_ ?_ <;> (intro hc; (try simp only [go_sem, List.getElem?_map, hx, Option.map_some, datI]); (try simp at hc); try (exfalso; omega))) | with_reducible refine And.intro (by first | omega | (unfold inI; omega)) ?_)
    all_goals first
      | (exfalso; omega)
      | exact ⟨k + 1, by omega, by omega, (fits_mk [] (by simp [renL_d, bdL_d, sg, over, wipe, wl, memN, ins, rm, lk, fitFr, fit1, ren, renL, bd, bdL, app, fitHp, hget, renB, bdB, hs] <;> omega))⟩
  · have e : xs.take k = xs := List.take_of_length_le (by omega)
    rw [e]
    repeat' (first | ((with_reducible first | (refine hK _ ?_; clear hK K) | refine stq fun K' hK' => ?_ | refine stc ?_); try simp only [go_sem]) | (with_reducible first | refine stp ?_ | (refine hK' _ ?_; clear hK' K') | refine kN kl165 fun K hK => ?_ | refine kO fun K hK => ?_) | refine iB ?_ | (with_reducible refine pK_mk ?_ ?_ <;> (intro hc; (try simp only [go_sem]); (try simp at hc); try (exfalso; omega))) | with_reducible refine And.intro (by first | omega | (unfold inI; omega)) ?_)
    all_goals first
      | (exfalso; omega)
      | (refine retQ_ret rfl rfl (by simp [rowsOf, lk]) ?_; rfl)
theorem poSum_ok (xs : List Int) (A : Int) (hA : A ≤ 1000000000) (h0 : 0 ≤ A) (h : ∀ x ∈ xs, -A ≤ x ∧ x ≤ A) (hn : xs.length ≤ 1048576) : FnEq Tryz.prog 185 [.d (.lst 1 (xs.map datI))] [.d (.int .i64 xs.sum)] := by
  refine fn_ok G_ok Tryz.func185 rfl rfl ?_; simp only [Tryz.ntmps185, List.length_cons, List.length_nil, Nat.reduceAdd, Nat.reduceSub, enm]
  repeat' (first | ((with_reducible first | (refine hK _ ?_; clear hK K) | refine stq fun K' hK' => ?_ | refine stc ?_); try simp only [go_sem]) | (with_reducible first | refine stp ?_ | (refine hK' _ ?_; clear hK' K') | refine kN kl185 fun K hK => ?_ | refine kO fun K hK => ?_) | refine iB ?_ | (with_reducible refine pK_mk ?_ ?_ <;> (intro hc; (try simp only [go_sem]); (try simp at hc); try (exfalso; omega))) | with_reducible refine And.intro (by first | omega | (unfold inI; omega)) ?_)
  refine pw_loop_over [2, 3, 5, 8, 9, 10, 11, 12, 13, 14, 15] (fun k : Nat => [(8, .d (.int .i64 (k : Int))), (3, .d (.int .i64 (xs.take k).sum))]) (fun k : Nat => []) 0 (fun k : Nat => k ≤ xs.length) (fun k : Nat => xs.length - k) 0 (Nat.zero_le _) (fits_mk [] (by simp [renL_d, bdL_d, sg, over, wipe, wl, memN, ins, rm, lk, fitFr, fit1, ren, renL, bd, bdL, app, fitHp, hget, renB, bdB, List.take_zero, List.sum_nil] <;> omega)) ?_
  intro k hk
  have hb1 := sumTake_bd hA h0 h hn k
  have hb2 := sumTake_bd hA h0 h hn (k + 1)
  simp only [over, wipe, wl, memN, ins, rm, if_true, if_false, Nat.reduceEqDiff, Bool.false_eq_true, reduceCtorEq]
  by_cases hlt : k < xs.length
  · have hx := List.getElem?_eq_getElem hlt
    generalize xs[k] = x at hx
    have hs := sum_snoc hx
    repeat' (first | ((with_reducible first | (refine hK _ ?_; clear hK K) | refine stq fun K' hK' => ?_ | refine stc ?_); try simp only [go_sem, List.getElem?_map, hx, Option.map_some, datI]) | (with_reducible first | refine stp ?_ | (refine hK' _ ?_; clear hK' K') | refine kN kl185 fun K hK => ?_ | refine kO fun K hK => ?_) | refine iB ?_ | (with_reducible refine pK_mk ?_ ?_ <;> (intro hc; (try simp only [go_sem, List.getElem?_map, hx, Option.map_some, datI]); (try simp at hc); try (exfalso; omega))) | with_reducible refine And.intro (by first | omega | (unfold inI; omega)) ?_)
    all_goals first
      | (exfalso; omega)
      | exact ⟨k + 1, by omega, by omega, (fits_mk [] (by simp [renL_d, bdL_d, sg, over, wipe, wl, memN, ins, rm, lk, fitFr, fit1, ren, renL, bd, bdL, app, fitHp, hget, renB, bdB, hs] <;> omega))⟩
  · have e : xs.take k = xs := List.take_of_length_le (by omega)
    rw [e]
    repeat' (first | ((with_reducible first | (refine hK _ ?_; clear hK K) | refine stq fun K' hK' => ?_ | refine stc ?_); try simp only [go_sem]) | (with_reducible first | refine stp ?_ | (refine hK' _ ?_; clear hK' K') | refine kN kl185 fun K hK => ?_ | refine kO fun K hK => ?_) | refine iB ?_ | (with_reducible refine pK_mk ?_ ?_ <;> (intro hc; (try simp only [go_sem]); (try simp at hc); try (exfalso; omega))) | with_reducible refine And.intro (by first | omega | (unfold inI; omega)) ?_)
    all_goals first
      | (exfalso; omega)
      | (refine retQ_ret rfl rfl (by simp [rowsOf, lk]) ?_; rfl)
theorem l1Most_ok (a b : Int) : FnEq Tryz.prog 161 [.d (.int .i64 a), .d (.int .i64 b)] [.d (.int .i64 (max a b))] := by
  refine fn_ok G_ok Tryz.func161 rfl rfl ?_; simp only [Tryz.ntmps161, List.length_cons, List.length_nil, Nat.reduceAdd, Nat.reduceSub, enm]
  repeat' (first | ((with_reducible first | (refine hK _ ?_; clear hK K) | refine stq fun K' hK' => ?_ | refine stc ?_); try simp only [go_sem]) | (with_reducible first | refine stp ?_ | (refine hK' _ ?_; clear hK' K') | refine kN kl161 fun K hK => ?_ | refine kO fun K hK => ?_) | (with_reducible refine pK_mk ?_ ?_ <;> (intro hc; (try simp only [go_sem]); (try simp at hc); try (exfalso; omega))) | with_reducible refine And.intro (by first | omega | (unfold inI; omega)) ?_)
  all_goals (refine retQ_ret rfl rfl (by simp [rowsOf, lk]) ?_; congr 3; omega)
theorem l1Least_ok (a b : Int) : FnEq Tryz.prog 175 [.d (.int .i64 a), .d (.int .i64 b)] [.d (.int .i64 (min a b))] := by
  refine fn_ok G_ok Tryz.func175 rfl rfl ?_; simp only [Tryz.ntmps175, List.length_cons, List.length_nil, Nat.reduceAdd, Nat.reduceSub, enm]
  repeat' (first | ((with_reducible first | (refine hK _ ?_; clear hK K) | refine stq fun K' hK' => ?_ | refine stc ?_); try simp only [go_sem]) | (with_reducible first | refine stp ?_ | (refine hK' _ ?_; clear hK' K') | refine kN kl175 fun K hK => ?_ | refine kO fun K hK => ?_) | (with_reducible refine pK_mk ?_ ?_ <;> (intro hc; (try simp only [go_sem]); (try simp at hc); try (exfalso; omega))) | with_reducible refine And.intro (by first | omega | (unfold inI; omega)) ?_)
  all_goals (refine retQ_ret rfl rfl (by simp [rowsOf, lk]) ?_; congr 3; omega)
end Go.Proofs.YtphakidbddamfaaGreat
