/-
  All calls that an inquiry can ask for: the program's function and the reference's, in the abstract machine.
-/
import Derived.Test.YtphakidbddamfaaGreatZTk
import Derived.Test.YtphakidbddamfaaGreatZGr
import Derived.Test.YtphakidbddamfaaGreatZIs0
import Derived.Test.YtphakidbddamfaaGreatZPt
import Derived.Test.YtphakidbddamfaaGreatZM11
import Derived.Test.YtphakidbddamfaaGreatZGw
set_option linter.unusedSimpArgs false
set_option linter.unusedVariables false
set_option maxHeartbeats 2000000
set_option maxRecDepth 100000
namespace Go.Proofs.YtphakidbddamfaaGreat
open Go.RowKit

def w2 (l : List ItemD) (i : Nat) (ms : List Int) (k : Nat) : List (List Int) := c3 l i ++ c2 i ms k
def w1 (l : List ItemD) (i : Nat) (ms : List Int) (k : Nat) (now : Int) (m : Nat) : List (List Int) := w2 l i ms k ++ c1 i k now m
theorem c3_zero (l : List ItemD) : c3 l 0 = [] := rfl
theorem w2_zero (l : List ItemD) (i : Nat) (ms : List Int) : w2 l i ms 0 = c3 l i := by simp [w2, c2]
theorem w1_zero (l : List ItemD) (i : Nat) (ms : List Int) (k : Nat) (now : Int) : w1 l i ms k now 0 = w2 l i ms k := by simp [w1, c1]
theorem w1_no (l : List ItemD) (i : Nat) (ms : List Int) (k : Nat) {now : Int} {m : Nat} (h : (m : Int) = now) : w1 l i ms k now (m + 1) = w1 l i ms k now m := by simp only [w1, c1, if_pos h]
theorem w1_yes (l : List ItemD) (i : Nat) (ms : List Int) (k : Nat) {now : Int} {m : Nat} (h : ¬ (m : Int) = now) : w1 l i ms k now (m + 1) = w1 l i ms k now m ++ [[(i : Int), (k : Int), (m : Int)]] := by simp only [w1, c1, if_neg h, List.append_assoc]
theorem w1_four (l : List ItemD) (i : Nat) (ms : List Int) (k : Nat) : w1 l i ms k (ms.getD k 0) 4 = w2 l i ms (k + 1) := by simp only [w1, w2, c2, List.append_assoc]
theorem w2_end {l : List ItemD} {i : Nat} {it : ItemD} (h : l[i]? = some it) : w2 l i it.marks it.marks.length = c3 l (i + 1) := by simp only [w2, c3, msAt_of h]
theorem w1_len (l : List ItemD) (i : Nat) (ms : List Int) (k : Nat) (now : Int) (m : Nat) : (w1 l i ms k now m).length = (c3 l i).length + (c2 i ms k).length + (c1 i k now m).length := by simp only [w1, w2, List.length_append]
theorem otherCalls_ok (l : List ItemD) (hv : ItsOk l) : FnEq Tryz.prog 85 [.d (.lst 3 (l.map ItemD.dat))] [.deep 23 1 ((callsW l).map (datL 1 datI))] := by
  have hl14 := hv.1
  refine fn_ok G_ok Tryz.func85 rfl rfl ?_; simp only [Tryz.ntmps85, List.length_cons, List.length_nil, Nat.reduceAdd, Nat.reduceSub, enm]
  repeat' (first | with_reducible refine stop_seq (id := 2) ?_ | with_reducible refine stop_one (id := 2) ?_ | ((with_reducible first | (refine hK _ ?_; clear hK K) | refine stq fun K' hK' => ?_ | refine stc ?_); try simp only [go_sem]) | (with_reducible first | refine stp ?_ | (refine hK' _ ?_; clear hK' K') | refine kN kl85 fun K hK => ?_ | refine kO fun K hK => ?_) | refine iB ?_ | (with_reducible refine pK_mk ?_ ?_ <;> (intro hc; (try simp only [go_sem]); (try simp at hc); try (exfalso; omega))) | with_reducible refine And.intro (by first | omega | (unfold inI; omega)) ?_)
  unfold Stop
  refine pw_deepen 1 rfl (fun _ h => by cases h) ?_
  simp only [go_sem]
  repeat' (first | ((with_reducible first | (refine hK _ ?_; clear hK K) | refine stq fun K' hK' => ?_ | refine stc ?_); try simp only [go_sem]) | (with_reducible first | refine stp ?_ | (refine hK' _ ?_; clear hK' K') | refine kN kl85 fun K hK => ?_ | refine kO fun K hK => ?_) | refine iB ?_ | (with_reducible refine pK_mk ?_ ?_ <;> (intro hc; (try simp only [go_sem]); (try simp at hc); try (exfalso; omega))) | with_reducible refine And.intro (by first | omega | (unfold inI; omega)) ?_)
  refine pw_loop_over [2, 3, 4, 5, 6, 7, 8, 12, 13, 14, 15, 16, 17, 18, 19, 20, 21, 22, 23, 24, 25, 26, 27, 28, 29, 30, 31, 32, 33, 34, 35, 36, 37, 38, 39, 40] (fun i : Nat => [(12, .d (.int .i64 (i : Int))), (3, .row 0 (c3 l i).length), (5, .und)]) (fun i => [(0, .deep 0 23 1 ((c3 l i).map (datL 1 datI)))]) 1 (fun i => i ≤ l.length) (fun i => l.length - i) 0 (Nat.zero_le _) (fits_mk [] (by simp [renL_d, bdL_d, sg, over, wipe, wl, memN, ins, rm, lk, fitFr, fit1, ren, renL, bd, bdL, app, fitHp, hget, renB, bdB, c3_zero] <;> omega)) ?_
  intro i hi; simp only [over, wipe, wl, memN, ins, rm, if_true, if_false, Nat.reduceEqDiff, Bool.false_eq_true, reduceCtorEq]
  by_cases hlt : i < l.length
  · have hx := List.getElem?_eq_getElem hlt
    generalize l[i] = it at hx
    have hml := marks_le hv hx
    have h3 := c3_len hv i
    repeat' (first | ((with_reducible first | (refine hK _ ?_; clear hK K) | refine stq fun K' hK' => ?_ | refine stc ?_); try simp only [go_sem, List.getElem?_map, hx, Option.map_some, ItemD.dat, hlt]) | (with_reducible first | refine stp ?_ | (refine hK' _ ?_; clear hK' K') | refine kN kl85 fun K hK => ?_ | refine kO fun K hK => ?_) | refine iB ?_ | (with_reducible refine pK_mk ?_ ?_ <;> (intro hc; (try simp only [go_sem, List.getElem?_map, hx, Option.map_some, ItemD.dat, hlt]); (try simp at hc); try (exfalso; omega))) | with_reducible refine And.intro (by first | omega | (unfold inI; omega)) ?_)
    refine pw_loop_over [2, 3, 6, 7, 8, 20, 21, 22, 23, 24, 25, 26, 27, 28, 29, 30, 31, 32, 33, 34, 35, 36, 37, 38, 39] (fun k : Nat => [(20, .d (.int .i64 (k : Int))), (3, .row 0 (w2 l i it.marks k).length), (5, .und)]) (fun k => [(0, .deep 0 23 1 ((w2 l i it.marks k).map (datL 1 datI)))]) 1 (fun k => k ≤ it.marks.length) (fun k => it.marks.length - k) 0 (Nat.zero_le _) (fits_mk [] (by simp [renL_d, bdL_d, sg, over, wipe, wl, memN, ins, rm, lk, fitFr, fit1, ren, renL, bd, bdL, app, fitHp, hget, renB, bdB, w2_zero] <;> omega)) ?_
    intro k hk; simp only [over, wipe, wl, memN, ins, rm, if_true, if_false, Nat.reduceEqDiff, Bool.false_eq_true, reduceCtorEq]
    have h2 := c2_len i it.marks k
    by_cases hlk : k < it.marks.length
    · have hy := List.getElem?_eq_getElem hlk
      have hgd : it.marks.getD k 0 = it.marks[k] := by rw [List.getD_eq_getElem?_getD, hy]; rfl
      generalize it.marks[k] = now at hy hgd
      repeat' (first | ((with_reducible first | (refine hK _ ?_; clear hK K) | refine stq fun K' hK' => ?_ | refine stc ?_); try simp only [go_sem, List.getElem?_map, hy, Option.map_some, datI, hlk]) | (with_reducible first | refine stp ?_ | (refine hK' _ ?_; clear hK' K') | refine kN kl85 fun K hK => ?_ | refine kO fun K hK => ?_) | refine iB ?_ | (with_reducible refine pK_mk ?_ ?_ <;> (intro hc; (try simp only [go_sem, List.getElem?_map, hy, Option.map_some, datI, hlk]); (try simp at hc); try (exfalso; omega))) | with_reducible refine And.intro (by first | omega | (unfold inI; omega)) ?_)
      refine pw_loop_over [2, 3, 8, 25, 26, 27, 28, 29, 30, 31, 32, 33, 34, 35, 36, 37, 38] (fun m : Nat => [(8, .d (.int .i64 (m : Int))), (3, .row 0 (w1 l i it.marks k now m).length)]) (fun m => [(0, .deep 0 23 1 ((w1 l i it.marks k now m).map (datL 1 datI)))]) 1 (fun m => m ≤ 4) (fun m => 4 - m) 0 (Nat.zero_le _) (fits_mk [] (by simp [renL_d, bdL_d, sg, over, wipe, wl, memN, ins, rm, lk, fitFr, fit1, ren, renL, bd, bdL, app, fitHp, hget, renB, bdB, w1_zero] <;> omega)) ?_
      intro m hm; simp only [over, wipe, wl, memN, ins, rm, if_true, if_false, Nat.reduceEqDiff, Bool.false_eq_true, reduceCtorEq]
      have h1 := c1_len i k now m
      have hw := w1_len l i it.marks k now m
      by_cases hlm : m < 4
      · have hlm' : (m : Int) ≤ 3 := by omega
        by_cases he : (m : Int) = now
        · have hno := w1_no l i it.marks k he
          repeat' (first | ((with_reducible first | (refine hK _ ?_; clear hK K) | refine stq fun K' hK' => ?_ | refine stc ?_); try simp only [go_sem, hlm', he]) | (with_reducible first | refine stp ?_ | (refine hK' _ ?_; clear hK' K') | refine kN kl85 fun K hK => ?_ | refine kO fun K hK => ?_) | refine iB ?_ | (with_reducible refine pK_mk ?_ ?_ <;> (intro hc; (try simp only [go_sem, hlm', he]); (try simp at hc); try (exfalso; omega))) | with_reducible refine And.intro (by first | omega | (unfold inI; omega)) ?_)
          all_goals first
            | (exfalso; omega)
            | exact ⟨m + 1, by omega, by omega, (fits_mk [] (by simp [renL_d, bdL_d, sg, over, wipe, wl, memN, ins, rm, lk, fitFr, fit1, ren, renL, bd, bdL, app, fitHp, hget, renB, bdB, hno] <;> omega))⟩
        · have hyes := w1_yes l i it.marks k he
          repeat' (first | ((with_reducible first | (refine hK _ ?_; clear hK K) | refine stq fun K' hK' => ?_ | refine stc ?_); try simp only [go_sem, hlm', he]) | (with_reducible first | refine stp ?_ | (refine hK' _ ?_; clear hK' K') | refine kN kl85 fun K hK => ?_ | refine kO fun K hK => ?_) | refine iB ?_ | (with_reducible refine pK_mk ?_ ?_ <;> (intro hc; (try simp only [go_sem, hlm', he]); (try simp at hc); try (exfalso; omega))) | with_reducible refine And.intro (by first | omega | (unfold inI; omega)) ?_)
          all_goals first
            | (exfalso; omega)
            | skip
          refine po_buildSlice_deep (cs := [.row 1 3]) (ds := datL 1 datI [(i : Int), (k : Int), (m : Int)]) rfl (G_ok _ _ G27) (by decide) rfl (by simp [ownL, ownC, hget, D.scB, datL, datI]) (by simp [rowIds]) (by simp only [flatL, flatC, hget, if_true, if_false, Nat.reduceEqDiff]; exact ⟨flatE_datI [(i : Int), (k : Int), (m : Int)], trivial⟩) ?_
          repeat' (first | ((with_reducible first | (refine hK _ ?_; clear hK K) | refine stq fun K' hK' => ?_ | refine stc ?_); try simp only [go_sem, datL]) | (with_reducible first | refine stp ?_ | (refine hK' _ ?_; clear hK' K') | refine kN kl85 fun K hK => ?_ | refine kO fun K hK => ?_) | refine iB ?_ | (with_reducible refine pK_mk ?_ ?_ <;> (intro hc; (try simp only [go_sem, datL]); (try simp at hc); try (exfalso; omega))) | with_reducible refine And.intro (by first | omega | (unfold inI; omega)) ?_)
          refine po_append_deep (es := (w1 l i it.marks k now m).map (datL 1 datI)) (fs := [datL 1 datI [(i : Int), (k : Int), (m : Int)]]) (n := (w1 l i it.marks k now m).length) (n2 := 1) rfl (G_ok _ _ G27) rfl rfl rfl rfl (by decide) (by simp) rfl (by exact True.intro) (by exact True.intro) (by simp <;> omega) ?_
          repeat' (first | ((with_reducible first | (refine hK _ ?_; clear hK K) | refine stq fun K' hK' => ?_ | refine stc ?_); try simp only [go_sem, datL]) | (with_reducible first | refine stp ?_ | (refine hK' _ ?_; clear hK' K') | refine kN kl85 fun K hK => ?_ | refine kO fun K hK => ?_) | refine iB ?_ | (with_reducible refine pK_mk ?_ ?_ <;> (intro hc; (try simp only [go_sem, datL]); (try simp at hc); try (exfalso; omega))) | with_reducible refine And.intro (by first | omega | (unfold inI; omega)) ?_)
          exact ⟨m + 1, by omega, by omega, (fits_mk [] (by simp [renL_d, bdL_d, sg, over, wipe, wl, memN, ins, rm, lk, fitFr, fit1, ren, renL, bd, bdL, app, fitHp, hget, renB, bdB, hyes, datL] <;> omega))⟩
      · obtain rfl : m = 4 := by omega
        rw [← hgd, w1_four]
        repeat' (first | ((with_reducible first | (refine hK _ ?_; clear hK K) | refine stq fun K' hK' => ?_ | refine stc ?_); try simp only [go_sem]) | (with_reducible first | refine stp ?_ | (refine hK' _ ?_; clear hK' K') | refine kN kl85 fun K hK => ?_ | refine kO fun K hK => ?_) | refine iB ?_ | (with_reducible refine pK_mk ?_ ?_ <;> (intro hc; (try simp only [go_sem]); (try simp at hc); try (exfalso; omega))) | with_reducible refine And.intro (by first | omega | (unfold inI; omega)) ?_)
        all_goals first
          | (exfalso; omega)
          | exact ⟨k + 1, by omega, by omega, (fits_mk [] (by simp [renL_d, bdL_d, sg, over, wipe, wl, memN, ins, rm, lk, fitFr, fit1, ren, renL, bd, bdL, app, fitHp, hget, renB, bdB] <;> omega))⟩
    · obtain rfl : k = it.marks.length := by omega
      rw [w2_end hx]
      repeat' (first | ((with_reducible first | (refine hK _ ?_; clear hK K) | refine stq fun K' hK' => ?_ | refine stc ?_); try simp only [go_sem]) | (with_reducible first | refine stp ?_ | (refine hK' _ ?_; clear hK' K') | refine kN kl85 fun K hK => ?_ | refine kO fun K hK => ?_) | refine iB ?_ | (with_reducible refine pK_mk ?_ ?_ <;> (intro hc; (try simp only [go_sem]); (try simp at hc); try (exfalso; omega))) | with_reducible refine And.intro (by first | omega | (unfold inI; omega)) ?_)
      exact ⟨i + 1, by omega, by omega, (fits_mk [] (by simp [renL_d, bdL_d, sg, over, wipe, wl, memN, ins, rm, lk, fitFr, fit1, ren, renL, bd, bdL, app, fitHp, hget, renB, bdB] <;> omega))⟩
  · obtain rfl : i = l.length := by omega
    repeat' (first | ((with_reducible first | (refine hK _ ?_; clear hK K) | refine stq fun K' hK' => ?_ | refine stc ?_); try simp only [go_sem]) | (with_reducible first | refine stp ?_ | (refine hK' _ ?_; clear hK' K') | refine kN kl85 fun K hK => ?_ | refine kO fun K hK => ?_) | refine iB ?_ | (with_reducible refine pK_mk ?_ ?_ <;> (intro hc; (try simp only [go_sem]); (try simp at hc); try (exfalso; omega))) | with_reducible refine And.intro (by first | omega | (unfold inI; omega)) ?_)
    refine retQ_ret rfl (by simp only [retL, ret1, hget, lk, List.length_map, List.length_nil, List.length_append, List.length_take, if_true, if_false, Nat.reduceEqDiff, Nat.reduceBEq, Bool.false_eq_true, Option.some.injEq]; rfl) (by simp [rowsOf, lk]) ?_; rfl
theorem iqAll_ok (l : List ItemD) (hv : ItsOk l) : FnEq Tryz.prog 84 [.d (.lst 3 (l.map ItemD.dat))] [.deep 23 1 ((callsW l).map (datL 1 datI))] := by
  have hl14 := hv.1
  refine fn_ok G_ok Tryz.func84 rfl rfl ?_; simp only [Tryz.ntmps84, List.length_cons, List.length_nil, Nat.reduceAdd, Nat.reduceSub, enm]
  repeat' (first | with_reducible refine stop_seq (id := 2) ?_ | with_reducible refine stop_one (id := 2) ?_ | ((with_reducible first | (refine hK _ ?_; clear hK K) | refine stq fun K' hK' => ?_ | refine stc ?_); try simp only [go_sem]) | (with_reducible first | refine stp ?_ | (refine hK' _ ?_; clear hK' K') | refine kN kl84 fun K hK => ?_ | refine kO fun K hK => ?_) | refine iB ?_ | (with_reducible refine pK_mk ?_ ?_ <;> (intro hc; (try simp only [go_sem]); (try simp at hc); try (exfalso; omega))) | with_reducible refine And.intro (by first | omega | (unfold inI; omega)) ?_)
  unfold Stop
  refine pw_deepen 1 rfl (fun _ h => by cases h) ?_
  simp only [go_sem]
  repeat' (first | ((with_reducible first | (refine hK _ ?_; clear hK K) | refine stq fun K' hK' => ?_ | refine stc ?_); try simp only [go_sem]) | (with_reducible first | refine stp ?_ | (refine hK' _ ?_; clear hK' K') | refine kN kl84 fun K hK => ?_ | refine kO fun K hK => ?_) | refine iB ?_ | (with_reducible refine pK_mk ?_ ?_ <;> (intro hc; (try simp only [go_sem]); (try simp at hc); try (exfalso; omega))) | with_reducible refine And.intro (by first | omega | (unfold inI; omega)) ?_)
  refine pw_loop_over [2, 3, 4, 5, 6, 7, 8, 11, 12, 13, 14, 15, 16, 17, 18, 19, 20, 21, 22, 23, 24, 25, 26, 27, 28, 29, 30, 31, 32, 33, 34, 35, 36, 37, 38, 39] (fun i : Nat => [(11, .d (.int .i64 (i : Int))), (3, .row 0 (c3 l i).length), (5, .und)]) (fun i => [(0, .deep 0 23 1 ((c3 l i).map (datL 1 datI)))]) 1 (fun i => i ≤ l.length) (fun i => l.length - i) 0 (Nat.zero_le _) (fits_mk [] (by simp [renL_d, bdL_d, sg, over, wipe, wl, memN, ins, rm, lk, fitFr, fit1, ren, renL, bd, bdL, app, fitHp, hget, renB, bdB, c3_zero] <;> omega)) ?_
  intro i hi; simp only [over, wipe, wl, memN, ins, rm, if_true, if_false, Nat.reduceEqDiff, Bool.false_eq_true, reduceCtorEq]
  by_cases hlt : i < l.length
  · have hx := List.getElem?_eq_getElem hlt
    generalize l[i] = it at hx
    have hml := marks_le hv hx
    have h3 := c3_len hv i
    repeat' (first | ((with_reducible first | (refine hK _ ?_; clear hK K) | refine stq fun K' hK' => ?_ | refine stc ?_); try simp only [go_sem, List.getElem?_map, hx, Option.map_some, ItemD.dat, hlt]) | (with_reducible first | refine stp ?_ | (refine hK' _ ?_; clear hK' K') | refine kN kl84 fun K hK => ?_ | refine kO fun K hK => ?_) | refine iB ?_ | (with_reducible refine pK_mk ?_ ?_ <;> (intro hc; (try simp only [go_sem, List.getElem?_map, hx, Option.map_some, ItemD.dat, hlt]); (try simp at hc); try (exfalso; omega))) | with_reducible refine And.intro (by first | omega | (unfold inI; omega)) ?_)
    refine pw_loop_over [2, 3, 6, 7, 8, 19, 20, 21, 22, 23, 24, 25, 26, 27, 28, 29, 30, 31, 32, 33, 34, 35, 36, 37, 38] (fun k : Nat => [(19, .d (.int .i64 (k : Int))), (3, .row 0 (w2 l i it.marks k).length), (5, .und)]) (fun k => [(0, .deep 0 23 1 ((w2 l i it.marks k).map (datL 1 datI)))]) 1 (fun k => k ≤ it.marks.length) (fun k => it.marks.length - k) 0 (Nat.zero_le _) (fits_mk [] (by simp [renL_d, bdL_d, sg, over, wipe, wl, memN, ins, rm, lk, fitFr, fit1, ren, renL, bd, bdL, app, fitHp, hget, renB, bdB, w2_zero] <;> omega)) ?_
    intro k hk; simp only [over, wipe, wl, memN, ins, rm, if_true, if_false, Nat.reduceEqDiff, Bool.false_eq_true, reduceCtorEq]
    have h2 := c2_len i it.marks k
    by_cases hlk : k < it.marks.length
    · have hy := List.getElem?_eq_getElem hlk
      have hgd : it.marks.getD k 0 = it.marks[k] := by rw [List.getD_eq_getElem?_getD, hy]; rfl
      generalize it.marks[k] = now at hy hgd
      repeat' (first | ((with_reducible first | (refine hK _ ?_; clear hK K) | refine stq fun K' hK' => ?_ | refine stc ?_); try simp only [go_sem, List.getElem?_map, hy, Option.map_some, datI, hlk]) | (with_reducible first | refine stp ?_ | (refine hK' _ ?_; clear hK' K') | refine kN kl84 fun K hK => ?_ | refine kO fun K hK => ?_) | refine iB ?_ | (with_reducible refine pK_mk ?_ ?_ <;> (intro hc; (try simp only [go_sem, List.getElem?_map, hy, Option.map_some, datI, hlk]); (try simp at hc); try (exfalso; omega))) | with_reducible refine And.intro (by first | omega | (unfold inI; omega)) ?_)
      refine pw_loop_over [2, 3, 8, 24, 25, 26, 27, 28, 29, 30, 31, 32, 33, 34, 35, 36, 37] (fun m : Nat => [(8, .d (.int .i64 (m : Int))), (3, .row 0 (w1 l i it.marks k now m).length)]) (fun m => [(0, .deep 0 23 1 ((w1 l i it.marks k now m).map (datL 1 datI)))]) 1 (fun m => m ≤ 4) (fun m => 4 - m) 0 (Nat.zero_le _) (fits_mk [] (by simp [renL_d, bdL_d, sg, over, wipe, wl, memN, ins, rm, lk, fitFr, fit1, ren, renL, bd, bdL, app, fitHp, hget, renB, bdB, w1_zero] <;> omega)) ?_
      intro m hm; simp only [over, wipe, wl, memN, ins, rm, if_true, if_false, Nat.reduceEqDiff, Bool.false_eq_true, reduceCtorEq]
      have h1 := c1_len i k now m
      have hw := w1_len l i it.marks k now m
      by_cases hlm : m < 4
      · have hlm' : (m : Int) ≤ 3 := by omega
        by_cases he : (m : Int) = now
        · have hno := w1_no l i it.marks k he
          repeat' (first | ((with_reducible first | (refine hK _ ?_; clear hK K) | refine stq fun K' hK' => ?_ | refine stc ?_); try simp only [go_sem, hlm', he]) | (with_reducible first | refine stp ?_ | (refine hK' _ ?_; clear hK' K') | refine kN kl84 fun K hK => ?_ | refine kO fun K hK => ?_) | refine iB ?_ | (with_reducible refine pK_mk ?_ ?_ <;> (intro hc; (try simp only [go_sem, hlm', he]); (try simp at hc); try (exfalso; omega))) | with_reducible refine And.intro (by first | omega | (unfold inI; omega)) ?_)
          all_goals first
            | (exfalso; omega)
            | exact ⟨m + 1, by omega, by omega, (fits_mk [] (by simp [renL_d, bdL_d, sg, over, wipe, wl, memN, ins, rm, lk, fitFr, fit1, ren, renL, bd, bdL, app, fitHp, hget, renB, bdB, hno] <;> omega))⟩
        · have hyes := w1_yes l i it.marks k he
          repeat' (first | ((with_reducible first | (refine hK _ ?_; clear hK K) | refine stq fun K' hK' => ?_ | refine stc ?_); try simp only [go_sem, hlm', he]) | (with_reducible first | refine stp ?_ | (refine hK' _ ?_; clear hK' K') | refine kN kl84 fun K hK => ?_ | refine kO fun K hK => ?_) | refine iB ?_ | (with_reducible refine pK_mk ?_ ?_ <;> (intro hc; (try simp only [go_sem, hlm', he]); (try simp at hc); try (exfalso; omega))) | with_reducible refine And.intro (by first | omega | (unfold inI; omega)) ?_)
          all_goals first
            | (exfalso; omega)
            | skip
          refine po_buildSlice_deep (cs := [.row 1 3]) (ds := datL 1 datI [(i : Int), (k : Int), (m : Int)]) rfl (G_ok _ _ G27) (by decide) rfl (by simp [ownL, ownC, hget, D.scB, datL, datI]) (by simp [rowIds]) (by simp only [flatL, flatC, hget, if_true, if_false, Nat.reduceEqDiff]; exact ⟨flatE_datI [(i : Int), (k : Int), (m : Int)], trivial⟩) ?_
          repeat' (first | ((with_reducible first | (refine hK _ ?_; clear hK K) | refine stq fun K' hK' => ?_ | refine stc ?_); try simp only [go_sem, datL]) | (with_reducible first | refine stp ?_ | (refine hK' _ ?_; clear hK' K') | refine kN kl84 fun K hK => ?_ | refine kO fun K hK => ?_) | refine iB ?_ | (with_reducible refine pK_mk ?_ ?_ <;> (intro hc; (try simp only [go_sem, datL]); (try simp at hc); try (exfalso; omega))) | with_reducible refine And.intro (by first | omega | (unfold inI; omega)) ?_)
          refine po_append_deep (es := (w1 l i it.marks k now m).map (datL 1 datI)) (fs := [datL 1 datI [(i : Int), (k : Int), (m : Int)]]) (n := (w1 l i it.marks k now m).length) (n2 := 1) rfl (G_ok _ _ G27) rfl rfl rfl rfl (by decide) (by simp) rfl (by exact True.intro) (by exact True.intro) (by simp <;> omega) ?_
          repeat' (first | ((with_reducible first | (refine hK _ ?_; clear hK K) | refine stq fun K' hK' => ?_ | refine stc ?_); try simp only [go_sem, datL]) | (with_reducible first | refine stp ?_ | (refine hK' _ ?_; clear hK' K') | refine kN kl84 fun K hK => ?_ | refine kO fun K hK => ?_) | refine iB ?_ | (with_reducible refine pK_mk ?_ ?_ <;> (intro hc; (try simp only [go_sem, datL]); (try simp at hc); try (exfalso; omega))) | with_reducible refine And.intro (by first | omega | (unfold inI; omega)) ?_)
          exact ⟨m + 1, by omega, by omega, (fits_mk [] (by simp [renL_d, bdL_d, sg, over, wipe, wl, memN, ins, rm, lk, fitFr, fit1, ren, renL, bd, bdL, app, fitHp, hget, renB, bdB, hyes, datL] <;> omega))⟩
      · obtain rfl : m = 4 := by omega
        rw [← hgd, w1_four]
        repeat' (first | ((with_reducible first | (refine hK _ ?_; clear hK K) | refine stq fun K' hK' => ?_ | refine stc ?_); try simp only [go_sem]) | (with_reducible first | refine stp ?_ | (refine hK' _ ?_; clear hK' K') | refine kN kl84 fun K hK => ?_ | refine kO fun K hK => ?_) | refine iB ?_ | (with_reducible refine pK_mk ?_ ?_ <;> (intro hc; (try simp only [go_sem]); (try simp at hc); try (exfalso; omega))) | with_reducible refine And.intro (by first | omega | (unfold inI; omega)) ?_)
        all_goals first
          | (exfalso; omega)
          | exact ⟨k + 1, by omega, by omega, (fits_mk [] (by simp [renL_d, bdL_d, sg, over, wipe, wl, memN, ins, rm, lk, fitFr, fit1, ren, renL, bd, bdL, app, fitHp, hget, renB, bdB] <;> omega))⟩
    · obtain rfl : k = it.marks.length := by omega
      rw [w2_end hx]
      repeat' (first | ((with_reducible first | (refine hK _ ?_; clear hK K) | refine stq fun K' hK' => ?_ | refine stc ?_); try simp only [go_sem]) | (with_reducible first | refine stp ?_ | (refine hK' _ ?_; clear hK' K') | refine kN kl84 fun K hK => ?_ | refine kO fun K hK => ?_) | refine iB ?_ | (with_reducible refine pK_mk ?_ ?_ <;> (intro hc; (try simp only [go_sem]); (try simp at hc); try (exfalso; omega))) | with_reducible refine And.intro (by first | omega | (unfold inI; omega)) ?_)
      exact ⟨i + 1, by omega, by omega, (fits_mk [] (by simp [renL_d, bdL_d, sg, over, wipe, wl, memN, ins, rm, lk, fitFr, fit1, ren, renL, bd, bdL, app, fitHp, hget, renB, bdB] <;> omega))⟩
  · obtain rfl : i = l.length := by omega
    repeat' (first | ((with_reducible first | (refine hK _ ?_; clear hK K) | refine stq fun K' hK' => ?_ | refine stc ?_); try simp only [go_sem]) | (with_reducible first | refine stp ?_ | (refine hK' _ ?_; clear hK' K') | refine kN kl84 fun K hK => ?_ | refine kO fun K hK => ?_) | refine iB ?_ | (with_reducible refine pK_mk ?_ ?_ <;> (intro hc; (try simp only [go_sem]); (try simp at hc); try (exfalso; omega))) | with_reducible refine And.intro (by first | omega | (unfold inI; omega)) ?_)
    refine retQ_ret rfl (by simp only [retL, ret1, hget, lk, List.length_map, List.length_nil, List.length_append, List.length_take, if_true, if_false, Nat.reduceEqDiff, Nat.reduceBEq, Bool.false_eq_true, Option.some.injEq]; rfl) (by simp [rowsOf, lk]) ?_; rfl
end Go.Proofs.YtphakidbddamfaaGreat

/-
  The abstract machine: an own row becomes plain data. No program is named here.
-/
namespace Go.Proofs.YtphakidbddamfaaGreat
open Go.RowKit

end Go.Proofs.YtphakidbddamfaaGreat

/-
  Numbers put in order, the greatest first; the greatest and the least of them: plain words. No program is named here.
-/
namespace Go.Proofs.YtphakidbddamfaaGreat
open Go.RowKit

/-- the greatest numbers first, as the reference puts them -/
def insertD (n : Int) : List Int → List Int
  | [] => [n]
  | x :: r => if x < n then n :: x :: r else x :: insertD n r
def sortD (xs : List Int) : List Int := xs.foldl (fun acc n => insertD n acc) []
theorem sortD_snoc {xs : List Int} {k : Nat} {x : Int} (h : xs[k]? = some x) : sortD (xs.take (k + 1)) = insertD x (sortD (xs.take k)) := by
  unfold sortD; rw [take_snoc h, List.foldl_append]; rfl
theorem insertD_perm (n : Int) : ∀ l : List Int, (insertD n l).Perm (n :: l)
  | [] => List.Perm.refl _
  | x :: r => by
    unfold insertD
    split
    · exact List.Perm.refl _
    · exact ((insertD_perm n r).cons x).trans (List.Perm.swap n x r)
theorem insertD_sorted (n : Int) : ∀ l : List Int, l.Pairwise (· ≥ ·) → (insertD n l).Pairwise (· ≥ ·)
  | [], _ => by simp [insertD]
  | x :: r, h => by
    unfold insertD
    have h1 := List.pairwise_cons.1 h
    split
    · rename_i hx
      refine List.pairwise_cons.2 ⟨fun y hy => ?_, h⟩
      rcases List.mem_cons.1 hy with rfl | hy
      · omega
      · have := h1.1 y hy; omega
    · rename_i hx
      refine List.pairwise_cons.2 ⟨fun y hy => ?_, insertD_sorted n r h1.2⟩
      rcases List.mem_cons.1 ((insertD_perm n r).mem_iff.1 hy) with rfl | hy
      · omega
      · exact h1.1 y hy
theorem foldD : ∀ (xs acc : List Int), acc.Pairwise (· ≥ ·) → (xs.foldl (fun acc n => insertD n acc) acc).Pairwise (· ≥ ·) ∧ (xs.foldl (fun acc n => insertD n acc) acc).Perm (acc ++ xs)
  | [], acc, h => ⟨h, by simp⟩
  | x :: xs, acc, h => by
    obtain ⟨h1, h2⟩ := foldD xs (insertD x acc) (insertD_sorted x acc h)
    refine ⟨h1, h2.trans ?_⟩
    have h3 : (insertD x acc ++ xs).Perm ((x :: acc) ++ xs) := (insertD_perm x acc).append_right xs
    exact h3.trans (by simpa using (List.perm_middle (a := x) (l₁ := acc) (l₂ := xs)).symm)
theorem sortD_sorted (xs : List Int) : (sortD xs).Pairwise (· ≥ ·) := (foldD xs [] (by simp)).1
theorem sortD_perm (xs : List Int) : (sortD xs).Perm xs := by have h := (foldD xs [] (by simp)).2; rwa [List.nil_append] at h
theorem sortD_len (xs : List Int) : (sortD xs).length = xs.length := (sortD_perm xs).length_eq
/-- the place that the reference finds from behind -/
theorem insertD_at (n : Int) : ∀ (l : List Int) (k : Nat), l.Pairwise (· ≥ ·) → k ≤ l.length → (∀ j x, k ≤ j → l[j]? = some x → x < n) → (∀ x, 0 < k → l[k - 1]? = some x → n ≤ x) → l.take k ++ n :: l.drop k = insertD n l
  | [], k, _, hk, _, _ => by
    have : k = 0 := by simpa using hk
    subst this
    rfl
  | y :: r, 0, _, _, h1, _ => by
    have := h1 0 y (by omega) rfl
    simp [insertD, this]
  | y :: r, k + 1, hs, hk, h1, h2 => by
    have hp := List.pairwise_cons.1 hs
    have hy : n ≤ y := by
      rcases Nat.eq_zero_or_pos k with h0 | h0
      · subst h0
        exact h2 y (by omega) rfl
      · have hkr : k - 1 < r.length := by simp at hk; omega
        have h3 := h2 r[k - 1] (by omega) (by rw [show k + 1 - 1 = (k - 1) + 1 by omega, List.getElem?_cons_succ, List.getElem?_eq_getElem hkr])
        have := hp.1 r[k - 1] (List.getElem_mem hkr)
        omega
    have ih := insertD_at n r k hp.2 (by simpa using hk) (fun j x hj hx => h1 (j + 1) x (by omega) (by simpa using hx)) (fun x h0 hx => h2 x (by omega) (by rw [show k + 1 - 1 = (k - 1) + 1 by omega, List.getElem?_cons_succ]; exact hx))
    simp only [List.take_succ_cons, List.drop_succ_cons, List.cons_append, ih, insertD, if_neg (show ¬ y < n by omega)]
def AllLess (l : List Int) (m : Nat) (n : Int) : Prop := ∀ (j : Nat) (x : Int), m ≤ j → l[j]? = some x → x < n
theorem AllLess.start (l : List Int) (n : Int) : AllLess l l.length n := fun j x hj hx => by
  have := (List.getElem?_eq_some_iff.1 hx).1; omega
theorem AllLess.next {l : List Int} {m : Nat} {n y : Int} (h : AllLess l m n) (hy : l[m - 1]? = some y) (hn : y < n) : AllLess l (m - 1) n := by
  intro j x hj hx
  by_cases e : j = m - 1
  · subst e
    rw [hy] at hx
    cases hx
    exact hn
  · exact h j x (by omega) hx
theorem sortD_zero : sortD [] = [] := rfl
theorem foldl_max_le : ∀ (l : List Int) (a : Int), a ≤ l.foldl max a ∧ (∀ x ∈ l, x ≤ l.foldl max a) ∧ (l.foldl max a = a ∨ l.foldl max a ∈ l)
  | [], a => ⟨Int.le_refl _, by simp, .inl rfl⟩
  | x :: l, a => by
    obtain ⟨h1, h2, h3⟩ := foldl_max_le l (max a x)
    refine ⟨by rw [List.foldl_cons]; omega, fun y hy => ?_, ?_⟩
    · rw [List.foldl_cons]
      rcases List.mem_cons.1 hy with rfl | hy
      · omega
      · exact h2 y hy
    · rw [List.foldl_cons]
      rcases h3 with h3 | h3
      · rw [h3]
        by_cases e : a ≤ x
        · exact .inr (by rw [show max a x = x by omega]; simp)
        · exact .inl (by omega)
      · exact .inr (List.mem_cons_of_mem _ h3)
theorem foldl_min_le : ∀ (l : List Int) (a : Int), l.foldl min a ≤ a ∧ (∀ x ∈ l, l.foldl min a ≤ x) ∧ (l.foldl min a = a ∨ l.foldl min a ∈ l)
  | [], a => ⟨Int.le_refl _, by simp, .inl rfl⟩
  | x :: l, a => by
    obtain ⟨h1, h2, h3⟩ := foldl_min_le l (min a x)
    refine ⟨by rw [List.foldl_cons]; omega, fun y hy => ?_, ?_⟩
    · rw [List.foldl_cons]
      rcases List.mem_cons.1 hy with rfl | hy
      · omega
      · exact h2 y hy
    · rw [List.foldl_cons]
      rcases h3 with h3 | h3
      · rw [h3]
        by_cases e : x ≤ a
        · exact .inr (by rw [show min a x = x by omega]; simp)
        · exact .inl (by omega)
      · exact .inr (List.mem_cons_of_mem _ h3)
theorem maxW_is {xs : List Int} (h0 : 0 < xs.length) : maxW xs ∈ xs ∧ ∀ x ∈ xs, x ≤ maxW xs := by
  cases xs with
  | nil => simp at h0
  | cons a l =>
    obtain ⟨h1, h2, h3⟩ := foldl_max_le l a
    have e : maxW (a :: l) = l.foldl max a := rfl
    rw [e]
    refine ⟨?_, fun x hx => ?_⟩
    · rcases h3 with h3 | h3
      · rw [h3]; simp
      · exact List.mem_cons_of_mem _ h3
    · rcases List.mem_cons.1 hx with rfl | hx
      · exact h1
      · exact h2 x hx
theorem minW_is {xs : List Int} (h0 : 0 < xs.length) : minW xs ∈ xs ∧ ∀ x ∈ xs, minW xs ≤ x := by
  cases xs with
  | nil => simp at h0
  | cons a l =>
    obtain ⟨h1, h2, h3⟩ := foldl_min_le l a
    have e : minW (a :: l) = l.foldl min a := rfl
    rw [e]
    refine ⟨?_, fun x hx => ?_⟩
    · rcases h3 with h3 | h3
      · rw [h3]; simp
      · exact List.mem_cons_of_mem _ h3
    · rcases List.mem_cons.1 hx with rfl | hx
      · exact h1
      · exact h2 x hx
theorem sortD_head {xs : List Int} (h0 : 0 < xs.length) : (sortD xs)[0]? = some (maxW xs) := by
  have hl := sortD_len xs
  have hx := List.getElem?_eq_getElem (show 0 < (sortD xs).length by omega)
  have hm := maxW_is h0
  rw [hx]
  congr 1
  have h1 : (sortD xs)[0] ∈ xs := (sortD_perm xs).mem_iff.1 (List.getElem_mem _)
  have h2 := hm.2 _ h1
  have h3 := (sortD_perm xs).mem_iff.2 hm.1
  obtain ⟨i, hi, he⟩ := List.getElem_of_mem h3
  rcases Nat.eq_zero_or_pos i with e | e
  · subst e; exact he
  · have h4 := List.pairwise_iff_getElem.1 (sortD_sorted xs) 0 i (by omega) hi e
    omega
theorem sortD_last {xs : List Int} (h0 : 0 < xs.length) : (sortD xs)[xs.length - 1]? = some (minW xs) := by
  have hl := sortD_len xs
  have hx := List.getElem?_eq_getElem (show xs.length - 1 < (sortD xs).length by omega)
  have hm := minW_is h0
  rw [hx]
  congr 1
  have h1 : (sortD xs)[xs.length - 1] ∈ xs := (sortD_perm xs).mem_iff.1 (List.getElem_mem _)
  have h2 := hm.2 _ h1
  have h3 := (sortD_perm xs).mem_iff.2 hm.1
  obtain ⟨i, hi, he⟩ := List.getElem_of_mem h3
  by_cases e : i = xs.length - 1
  · subst e; exact he
  · have h4 := List.pairwise_iff_getElem.1 (sortD_sorted xs) i (xs.length - 1) hi (by omega) (by omega)
    omega
/-- the greatest, the least of the first ones -/
theorem maxW_one (xs : List Int) : maxW (xs.take 1) = xs.headD 0 := by cases xs <;> rfl
theorem minW_one (xs : List Int) : minW (xs.take 1) = xs.headD 0 := by cases xs <;> rfl
theorem maxW_succ {xs : List Int} {k : Nat} {x : Int} (h0 : 0 < k) (hx : xs[k]? = some x) : maxW (xs.take (k + 1)) = max (maxW (xs.take k)) x := by
  rw [take_snoc hx]
  cases xs with
  | nil => simp at hx
  | cons a l =>
    obtain ⟨m, rfl⟩ : ∃ m, k = m + 1 := ⟨k - 1, by omega⟩
    simp [maxW, List.foldl_append]
theorem minW_succ {xs : List Int} {k : Nat} {x : Int} (h0 : 0 < k) (hx : xs[k]? = some x) : minW (xs.take (k + 1)) = min (minW (xs.take k)) x := by
  rw [take_snoc hx]
  cases xs with
  | nil => simp at hx
  | cons a l =>
    obtain ⟨m, rfl⟩ : ∃ m, k = m + 1 := ⟨k - 1, by omega⟩
    simp [minW, List.foldl_append]
end Go.Proofs.YtphakidbddamfaaGreat
