/-
  Components and deductions: the program's functions and the reference's, in the abstract machine.
-/
import Derived.Test.YtphakidbddamfaaGreatZSx
set_option linter.unusedSimpArgs false
set_option linter.unusedVariables false
set_option maxHeartbeats 2000000
set_option maxRecDepth 100000
namespace Go.Proofs.YtphakidbddamfaaGreat
open Go.RowKit

theorem cpsW_len (m : MarksD) (top : Int) : (cpsW m top).length = m.components.length := by simp [cpsW]
theorem cpsW_get {m : MarksD} {top : Int} {k : Nat} {g : List Int} (hg : m.components[k]? = some g) : (cpsW m top)[k]? = some (min (compW g) top) := by unfold cpsW; rw [List.getElem?_map, hg]; rfl
theorem trimC_bd {g : List Int} (h : CoOk g) : -11000 ≤ trimW g ∧ trimW g ≤ 11000 := by
  have := trimW_bd (A := 1000) (by omega) h.1 h.2.1 h.2.2
  omega
theorem componentScore_ok (g : List Int) (hg : CoOk g) : FnEq Tryz.prog 230 [.d (.lst 1 (g.map datI))] [.d (.int .i64 (compW g))] := by
  have h1 := trimC_bd hg
  have h2 := cntW_bd hg.1 hg.2.1
  have ht := trimmedSum_ok g 1000 (by omega) (by omega) hg.1 hg.2.1 hg.2.2
  have hr := roundDiv_ok (trimW g) (cntW g) (by omega) (by omega) (by omega) (by omega)
  have e : compW g = roundW (trimW g) (cntW g) := rfl
  rw [e]
  refine fn_ok G_ok Tryz.func230 rfl rfl ?_; simp only [Tryz.ntmps230, List.length_cons, List.length_nil, Nat.reduceAdd, Nat.reduceSub, enm]
  repeat' (first | ((with_reducible first | (refine hK _ ?_; clear hK K) | refine stq fun K' hK' => ?_ | refine stc ?_); try simp only [go_sem]) | (with_reducible first | refine stp ?_ | (refine hK' _ ?_; clear hK' K') | refine kN kl230 fun K hK => ?_ | refine kO fun K hK => ?_) | ((with_reducible apply CallK.eq); (· with_reducible first | exact ht | exact hr); (· simp [RV.flat, D.sc, datI]); try simp only [go_sem]) | (with_reducible refine pK_mk ?_ ?_ <;> (intro hc; (try simp only [go_sem]); (try simp at hc); try (exfalso; omega))) | with_reducible refine And.intro (by first | omega | (unfold inI; omega)) ?_)
  all_goals first
    | (exfalso; omega)
    | (refine retQ_ret rfl rfl (by simp [rowsOf, lk]) ?_; rfl)
def csW (m : MarksD) : List Int := m.components.map compW
theorem csW_len (m : MarksD) : (csW m).length = m.components.length := by simp [csW]
theorem csW_get {m : MarksD} {k : Nat} {g : List Int} (hg : m.components[k]? = some g) : (csW m)[k]? = some (compW g) := by unfold csW; rw [List.getElem?_map, hg]; rfl
theorem componentScores_ok (m : MarksD) (hm : MarksOk m) : FnEq Tryz.prog 219 [.agg m.cs] [.row 3 1 ((csW m).map datI)] := by
  have h3 := hm.1
  have hsl := csW_len m
  refine fn_ok G_ok Tryz.func219 rfl rfl ?_; simp only [Tryz.ntmps219, List.length_cons, List.length_nil, Nat.reduceAdd, Nat.reduceSub, enm]
  repeat' (first | ((with_reducible first | (refine hK _ ?_; clear hK K) | refine stq fun K' hK' => ?_ | refine stc ?_); try simp only [go_sem]) | (with_reducible first | refine stp ?_ | (refine hK' _ ?_; clear hK' K') | refine kN kl219 fun K hK => ?_ | refine kO fun K hK => ?_) | refine iB ?_ | (with_reducible refine pK_mk ?_ ?_ <;> (intro hc; (try simp only [go_sem]); (try simp at hc); try (exfalso; omega))) | with_reducible refine And.intro (by first | omega | (unfold inI; omega)) ?_)
  refine pw_loop_over [2, 3, 5, 10, 11, 12, 13, 14, 15, 16, 17, 18, 19] (fun k : Nat => [(10, .d (.int .i64 (k : Int))), (3, .row 1 k)]) (fun k : Nat => [(0, .box 45 [.d (.lst 1 (m.grades.map (datL 1 datI))), .d (.lst 1 (m.components.map (datL 1 datI)))]), (1, .row 3 1 (((csW m).take k).map datI))]) 2 (fun k : Nat => k ≤ m.components.length) (fun k : Nat => m.components.length - k) 0 (Nat.zero_le _) (fits_mk [] (by simp [renL_d, bdL_d, sg, over, wipe, wl, memN, ins, rm, lk, fitFr, fit1, ren, renL, bd, bdL, app, fitHp, hget, renB, bdB, List.take_zero, List.map_nil] <;> omega)) ?_
  intro k hkl
  simp only [over, wipe, wl, memN, ins, rm, if_true, if_false, Nat.reduceEqDiff, Bool.false_eq_true, reduceCtorEq]
  by_cases hlt : k < m.components.length
  · have hgx := List.getElem?_eq_getElem hlt
    generalize m.components[k] = g at hgx
    have hsc := componentScore_ok g (hm.comp hgx)
    have hgt0 := csW_get hgx
    have hsn := map_snoc (f := datI) hgt0
    have htl : (List.map datI (List.take k (csW m))).length = k := by simp; omega
    generalize compW g = sc at hsc hgt0 hsn
    repeat' (first | ((with_reducible first | (refine hK _ ?_; clear hK K) | refine stq fun K' hK' => ?_ | refine stc ?_); try simp only [go_sem, List.getElem?_map, hgx, Option.map_some, datL, htl]) | (with_reducible first | refine stp ?_ | (refine hK' _ ?_; clear hK' K') | refine kN kl219 fun K hK => ?_ | refine kO fun K hK => ?_) | ((with_reducible apply CallK.eq); (· with_reducible first | exact hsc); (· simp [RV.flat, D.sc, datI]); try simp only [go_sem, List.getElem?_map, hgx, Option.map_some, datL, htl]) | refine iB ?_ | (with_reducible refine pK_mk ?_ ?_ <;> (intro hc; (try simp only [go_sem, List.getElem?_map, hgx, Option.map_some, datL, htl]); (try simp at hc); try (exfalso; omega))) | with_reducible refine And.intro (by first | omega | (unfold inI; omega)) ?_)
    all_goals first
      | (exfalso; omega)
      | exact ⟨k + 1, by omega, by omega, (fits_mk [] (by simp [renL_d, bdL_d, sg, over, wipe, wl, memN, ins, rm, lk, fitFr, fit1, ren, renL, bd, bdL, app, fitHp, hget, renB, bdB, hsn, datI, -List.map_take] <;> omega))⟩
  · obtain rfl : k = m.components.length := by omega
    have e : (csW m).take m.components.length = csW m := List.take_of_length_le (by omega)
    rw [e]
    repeat' (first | ((with_reducible first | (refine hK _ ?_; clear hK K) | refine stq fun K' hK' => ?_ | refine stc ?_); try simp only [go_sem]) | (with_reducible first | refine stp ?_ | (refine hK' _ ?_; clear hK' K') | refine kN kl219 fun K hK => ?_ | refine kO fun K hK => ?_) | refine iB ?_ | (with_reducible refine pK_mk ?_ ?_ <;> (intro hc; (try simp only [go_sem]); (try simp at hc); try (exfalso; omega))) | with_reducible refine And.intro (by first | omega | (unfold inI; omega)) ?_)
    all_goals first
      | (exfalso; omega)
      | (refine retQ_ret rfl (by simp only [hsl, retL, ret1, hget, lk, List.length_map, List.length_nil, List.length_append, List.length_take, if_true, if_false, Nat.reduceEqDiff, Nat.reduceBEq, Bool.false_eq_true, Option.some.injEq]; rfl) (by simp [rowsOf, lk]) ?_; rfl)
theorem capW_eq (falls : Int) (h : 0 ≤ falls) : capW falls = if falls = 1 then 950 else if 1 < falls then 900 else 1000 := by
  unfold capW
  split
  · rw [if_neg (by omega), if_neg (by omega)]
  · split
    · rfl
    · rw [if_pos (by omega)]
theorem cappedSum_ok (m : MarksD) (falls : Int) (hm : MarksOk m) (hf : 0 ≤ falls) : FnEq Tryz.prog 193 [.agg m.cs, .d (.int .i64 falls)] [.d (.int .i64 (cpW m falls))] := by
  have h3 := hm.1
  have hsl := csW_len m
  have hcl := cpsW_len m (capW falls)
  have hcs := componentScores_ok m hm
  have hcb := capW_bd falls
  have hbd := cpsW_bd hm hcb.1 hcb.2
  have e := capW_eq falls hf
  obtain ⟨top, htop⟩ : ∃ top, top = capW falls := ⟨_, rfl⟩
  rw [← htop] at hcl hcb hbd e
  have hfin : cpW m falls = (cpsW m top).sum := by rw [htop]; rfl
  rw [hfin]
  have hz : ((cpsW m top).take 0).sum = 0 := rfl
  refine fn_ok G_ok Tryz.func193 rfl rfl ?_; simp only [Tryz.ntmps193, List.length_cons, List.length_nil, Nat.reduceAdd, Nat.reduceSub, enm]
  by_cases h1 : falls = 1
  · rw [if_pos h1] at e
    repeat' (first | ((with_reducible first | (refine hK _ ?_; clear hK K) | refine stq fun K' hK' => ?_ | refine stc ?_); try simp only [go_sem]) | (with_reducible first | refine stp ?_ | (refine hK' _ ?_; clear hK' K') | refine kN kl193 fun K hK => ?_ | refine kO fun K hK => ?_) | ((with_reducible apply CallK.eq); (· with_reducible first | exact hcs); (· simp [RV.flat, D.sc, datI]); try simp only [go_sem]) | refine iB ?_ | (with_reducible refine pK_mk ?_ ?_ <;> (intro hc; (try simp only [go_sem]); (try simp at hc); try (exfalso; omega))) | with_reducible refine And.intro (by first | omega | (unfold inI; omega)) ?_)
    all_goals first
      | (exfalso; omega)
      | skip
    refine pw_loop_over [4, 6, 8, 18, 19, 20, 21, 22, 23, 24, 25, 26, 27] (fun k : Nat => [(18, .d (.int .i64 (k : Int))), (6, .d (.int .i64 ((cpsW m top).take k).sum))]) (fun k : Nat => [(1, .row 3 1 ((csW m).map datI))]) 2 (fun k : Nat => k ≤ m.components.length) (fun k : Nat => m.components.length - k) 0 (Nat.zero_le _) (fits_mk [] (by simp [renL_d, bdL_d, sg, over, wipe, wl, memN, ins, rm, lk, fitFr, fit1, ren, renL, bd, bdL, app, fitHp, hget, renB, bdB, hz, hsl] <;> omega)) ?_
    intro k hkl
    have hb1 := sumTake_bd (by decide) (by decide) hbd (by omega) k
    have hb2 := sumTake_bd (by decide) (by decide) hbd (by omega) (k + 1)
    simp only [over, wipe, wl, memN, ins, rm, if_true, if_false, Nat.reduceEqDiff, Bool.false_eq_true, reduceCtorEq]
    by_cases hlt : k < m.components.length
    · have hgx := List.getElem?_eq_getElem hlt
      generalize m.components[k] = g at hgx
      have hg1 := csW_get hgx
      have hg2 := cpsW_get (top := top) hgx
      have hs := sum_snoc hg2
      have hgb := compW_bd (hm.comp hgx)
      generalize compW g = sc at hg1 hs hgb
      rw [e] at hs
      repeat' (first | ((with_reducible first | (refine hK _ ?_; clear hK K) | refine stq fun K' hK' => ?_ | refine stc ?_); try simp only [go_sem, List.getElem?_map, hg1, Option.map_some, datI, hlt, hsl]) | (with_reducible first | refine stp ?_ | (refine hK' _ ?_; clear hK' K') | refine kN kl193 fun K hK => ?_ | refine kO fun K hK => ?_) | refine iB ?_ | (with_reducible refine pK_mk ?_ ?_ <;> (intro hc; (try simp only [go_sem, List.getElem?_map, hg1, Option.map_some, datI, hlt, hsl]); (try simp at hc); try (exfalso; omega))) | with_reducible refine And.intro (by first | omega | (unfold inI; omega)) ?_)
      all_goals first
        | (exfalso; omega)
        | exact ⟨k + 1, by omega, by omega, (fits_mk [] (by simp [renL_d, bdL_d, sg, over, wipe, wl, memN, ins, rm, lk, fitFr, fit1, ren, renL, bd, bdL, app, fitHp, hget, renB, bdB, hs, e] <;> omega))⟩
    · have e3 : (cpsW m top).take k = cpsW m top := List.take_of_length_le (by omega)
      rw [e3]
      repeat' (first | ((with_reducible first | (refine hK _ ?_; clear hK K) | refine stq fun K' hK' => ?_ | refine stc ?_); try simp only [go_sem]) | (with_reducible first | refine stp ?_ | (refine hK' _ ?_; clear hK' K') | refine kN kl193 fun K hK => ?_ | refine kO fun K hK => ?_) | refine iB ?_ | (with_reducible refine pK_mk ?_ ?_ <;> (intro hc; (try simp only [go_sem]); (try simp at hc); try (exfalso; omega))) | with_reducible refine And.intro (by first | omega | (unfold inI; omega)) ?_)
      all_goals first
        | (exfalso; omega)
        | (refine retQ_ret rfl rfl (by simp [rowsOf, lk]) ?_; rfl)
  · rw [if_neg h1] at e
    by_cases h2 : 1 < falls
    · rw [if_pos h2] at e
      repeat' (first | ((with_reducible first | (refine hK _ ?_; clear hK K) | refine stq fun K' hK' => ?_ | refine stc ?_); try simp only [go_sem]) | (with_reducible first | refine stp ?_ | (refine hK' _ ?_; clear hK' K') | refine kN kl193 fun K hK => ?_ | refine kO fun K hK => ?_) | ((with_reducible apply CallK.eq); (· with_reducible first | exact hcs); (· simp [RV.flat, D.sc, datI]); try simp only [go_sem]) | refine iB ?_ | (with_reducible refine pK_mk ?_ ?_ <;> (intro hc; (try simp only [go_sem]); (try simp at hc); try (exfalso; omega))) | with_reducible refine And.intro (by first | omega | (unfold inI; omega)) ?_)
      all_goals first
        | (exfalso; omega)
        | skip
      refine pw_loop_over [4, 6, 8, 18, 19, 20, 21, 22, 23, 24, 25, 26, 27] (fun k : Nat => [(18, .d (.int .i64 (k : Int))), (6, .d (.int .i64 ((cpsW m top).take k).sum))]) (fun k : Nat => [(1, .row 3 1 ((csW m).map datI))]) 2 (fun k : Nat => k ≤ m.components.length) (fun k : Nat => m.components.length - k) 0 (Nat.zero_le _) (fits_mk [] (by simp [renL_d, bdL_d, sg, over, wipe, wl, memN, ins, rm, lk, fitFr, fit1, ren, renL, bd, bdL, app, fitHp, hget, renB, bdB, hz, hsl] <;> omega)) ?_
      intro k hkl
      have hb1 := sumTake_bd (by decide) (by decide) hbd (by omega) k
      have hb2 := sumTake_bd (by decide) (by decide) hbd (by omega) (k + 1)
      simp only [over, wipe, wl, memN, ins, rm, if_true, if_false, Nat.reduceEqDiff, Bool.false_eq_true, reduceCtorEq]
      by_cases hlt : k < m.components.length
      · have hgx := List.getElem?_eq_getElem hlt
        generalize m.components[k] = g at hgx
        have hg1 := csW_get hgx
        have hg2 := cpsW_get (top := top) hgx
        have hs := sum_snoc hg2
        have hgb := compW_bd (hm.comp hgx)
        generalize compW g = sc at hg1 hs hgb
        rw [e] at hs
        repeat' (first | ((with_reducible first | (refine hK _ ?_; clear hK K) | refine stq fun K' hK' => ?_ | refine stc ?_); try simp only [go_sem, List.getElem?_map, hg1, Option.map_some, datI, hlt, hsl]) | (with_reducible first | refine stp ?_ | (refine hK' _ ?_; clear hK' K') | refine kN kl193 fun K hK => ?_ | refine kO fun K hK => ?_) | refine iB ?_ | (with_reducible refine pK_mk ?_ ?_ <;> (intro hc; (try simp only [go_sem, List.getElem?_map, hg1, Option.map_some, datI, hlt, hsl]); (try simp at hc); try (exfalso; omega))) | with_reducible refine And.intro (by first | omega | (unfold inI; omega)) ?_)
        all_goals first
          | (exfalso; omega)
          | exact ⟨k + 1, by omega, by omega, (fits_mk [] (by simp [renL_d, bdL_d, sg, over, wipe, wl, memN, ins, rm, lk, fitFr, fit1, ren, renL, bd, bdL, app, fitHp, hget, renB, bdB, hs, e] <;> omega))⟩
      · have e3 : (cpsW m top).take k = cpsW m top := List.take_of_length_le (by omega)
        rw [e3]
        repeat' (first | ((with_reducible first | (refine hK _ ?_; clear hK K) | refine stq fun K' hK' => ?_ | refine stc ?_); try simp only [go_sem]) | (with_reducible first | refine stp ?_ | (refine hK' _ ?_; clear hK' K') | refine kN kl193 fun K hK => ?_ | refine kO fun K hK => ?_) | refine iB ?_ | (with_reducible refine pK_mk ?_ ?_ <;> (intro hc; (try simp only [go_sem]); (try simp at hc); try (exfalso; omega))) | with_reducible refine And.intro (by first | omega | (unfold inI; omega)) ?_)
        all_goals first
          | (exfalso; omega)
          | (refine retQ_ret rfl rfl (by simp [rowsOf, lk]) ?_; rfl)
    · rw [if_neg h2] at e
      repeat' (first | ((with_reducible first | (refine hK _ ?_; clear hK K) | refine stq fun K' hK' => ?_ | refine stc ?_); try simp only [go_sem]) | (with_reducible first | refine stp ?_ | (refine hK' _ ?_; clear hK' K') | refine kN kl193 fun K hK => ?_ | refine kO fun K hK => ?_) | ((with_reducible apply CallK.eq); (· with_reducible first | exact hcs); (· simp [RV.flat, D.sc, datI]); try simp only [go_sem]) | refine iB ?_ | (with_reducible refine pK_mk ?_ ?_ <;> (intro hc; (try simp only [go_sem]); (try simp at hc); try (exfalso; omega))) | with_reducible refine And.intro (by first | omega | (unfold inI; omega)) ?_)
      all_goals first
        | (exfalso; omega)
        | skip
      refine pw_loop_over [4, 6, 8, 18, 19, 20, 21, 22, 23, 24, 25, 26, 27] (fun k : Nat => [(18, .d (.int .i64 (k : Int))), (6, .d (.int .i64 ((cpsW m top).take k).sum))]) (fun k : Nat => [(1, .row 3 1 ((csW m).map datI))]) 2 (fun k : Nat => k ≤ m.components.length) (fun k : Nat => m.components.length - k) 0 (Nat.zero_le _) (fits_mk [] (by simp [renL_d, bdL_d, sg, over, wipe, wl, memN, ins, rm, lk, fitFr, fit1, ren, renL, bd, bdL, app, fitHp, hget, renB, bdB, hz, hsl] <;> omega)) ?_
      intro k hkl
      have hb1 := sumTake_bd (by decide) (by decide) hbd (by omega) k
      have hb2 := sumTake_bd (by decide) (by decide) hbd (by omega) (k + 1)
      simp only [over, wipe, wl, memN, ins, rm, if_true, if_false, Nat.reduceEqDiff, Bool.false_eq_true, reduceCtorEq]
      by_cases hlt : k < m.components.length
      · have hgx := List.getElem?_eq_getElem hlt
        generalize m.components[k] = g at hgx
        have hg1 := csW_get hgx
        have hg2 := cpsW_get (top := top) hgx
        have hs := sum_snoc hg2
        have hgb := compW_bd (hm.comp hgx)
        generalize compW g = sc at hg1 hs hgb
        rw [e] at hs
        repeat' (first | ((with_reducible first | (refine hK _ ?_; clear hK K) | refine stq fun K' hK' => ?_ | refine stc ?_); try simp only [go_sem, List.getElem?_map, hg1, Option.map_some, datI, hlt, hsl]) | (with_reducible first | refine stp ?_ | (refine hK' _ ?_; clear hK' K') | refine kN kl193 fun K hK => ?_ | refine kO fun K hK => ?_) | refine iB ?_ | (with_reducible refine pK_mk ?_ ?_ <;> (intro hc; (try simp only [go_sem, List.getElem?_map, hg1, Option.map_some, datI, hlt, hsl]); (try simp at hc); try (exfalso; omega))) | with_reducible refine And.intro (by first | omega | (unfold inI; omega)) ?_)
        all_goals first
          | (exfalso; omega)
          | exact ⟨k + 1, by omega, by omega, (fits_mk [] (by simp [renL_d, bdL_d, sg, over, wipe, wl, memN, ins, rm, lk, fitFr, fit1, ren, renL, bd, bdL, app, fitHp, hget, renB, bdB, hs, e] <;> omega))⟩
      · have e3 : (cpsW m top).take k = cpsW m top := List.take_of_length_le (by omega)
        rw [e3]
        repeat' (first | ((with_reducible first | (refine hK _ ?_; clear hK K) | refine stq fun K' hK' => ?_ | refine stc ?_); try simp only [go_sem]) | (with_reducible first | refine stp ?_ | (refine hK' _ ?_; clear hK' K') | refine kN kl193 fun K hK => ?_ | refine kO fun K hK => ?_) | refine iB ?_ | (with_reducible refine pK_mk ?_ ?_ <;> (intro hc; (try simp only [go_sem]); (try simp at hc); try (exfalso; omega))) | with_reducible refine And.intro (by first | omega | (unfold inI; omega)) ?_)
        all_goals first
          | (exfalso; omega)
          | (refine retQ_ret rfl rfl (by simp [rowsOf, lk]) ?_; rfl)
theorem factoredSum_ok (m : MarksD) (f falls : Int) (hm : MarksOk m) (hf : FactOk f) (h0 : 0 ≤ falls) : FnEq Tryz.prog 164 [.agg m.cs, .d (.int .i64 f), .d (.int .i64 falls)] [.d (.int .i64 (factW m f falls))] := by
  have hcs := cappedSum_ok m falls hm h0
  have hpb := factP_bd hm hf falls
  have hcb := cpW_bd hm falls
  have hr := roundDiv_ok (cpW m falls * f) 100 (by omega) (by omega) (by omega) (by omega)
  have e : factW m f falls = roundW (cpW m falls * f) 100 := rfl
  rw [e]
  refine fn_ok G_ok Tryz.func164 rfl rfl ?_; simp only [Tryz.ntmps164, List.length_cons, List.length_nil, Nat.reduceAdd, Nat.reduceSub, enm]
  generalize hp : cpW m falls * f = p at hpb hr
  generalize cpW m falls = cs at hcs hp hcb
  repeat' (first | ((with_reducible first | (refine hK _ ?_; clear hK K) | refine stq fun K' hK' => ?_ | refine stc ?_); try simp only [go_sem, hp]) | (with_reducible first | refine stp ?_ | (refine hK' _ ?_; clear hK' K') | refine kN kl164 fun K hK => ?_ | refine kO fun K hK => ?_) | ((with_reducible apply CallK.eq); (· with_reducible first | exact hcs | exact hr); (· simp [RV.flat, D.sc, datI]); try simp only [go_sem, hp]) | (with_reducible refine pK_mk ?_ ?_ <;> (intro hc; (try simp only [go_sem, hp]); (try simp at hc); try (exfalso; omega))) | with_reducible refine And.intro (by first | omega | (unfold inI; omega)) ?_)
  all_goals first
    | (exfalso; omega)
    | (refine retQ_ret rfl rfl (by simp [rowsOf, lk]) ?_; rfl)
theorem cpScore_ok (m : MarksD) (k : Nat) (g : List Int) (hgx : m.components[k]? = some g) (hg : CoOk g) : FnEq Tryz.prog 227 [.agg m.cs, .d (.int .i64 (k : Int))] [.d (.int .i64 (compW g))] := by
  have hgl := (List.getElem?_eq_some_iff.1 hgx).1
  have h1 := trimC_bd hg
  have h2 := cntW_bd hg.1 hg.2.1
  have ht := tmMean_ok g 1000 (by omega) (by omega) hg.1 hg.2.1 hg.2.2
  have hr := poRound_ok (trimW g) (cntW g) (by omega) (by omega) (by omega) (by omega)
  have e : compW g = roundW (trimW g) (cntW g) := rfl
  rw [e]
  refine fn_ok G_ok Tryz.func227 rfl rfl ?_; simp only [Tryz.ntmps227, List.length_cons, List.length_nil, Nat.reduceAdd, Nat.reduceSub, enm]
  repeat' (first | ((with_reducible first | (refine hK _ ?_; clear hK K) | refine stq fun K' hK' => ?_ | refine stc ?_); try simp only [go_sem, List.getElem?_map, hgx, Option.map_some, datL, hgl]) | (with_reducible first | refine stp ?_ | (refine hK' _ ?_; clear hK' K') | refine kN kl227 fun K hK => ?_ | refine kO fun K hK => ?_) | ((with_reducible apply CallK.eq); (· with_reducible first | exact ht | exact hr); (· simp [RV.flat, D.sc, datI]); try simp only [go_sem, List.getElem?_map, hgx, Option.map_some, datL, hgl]) | (with_reducible refine pK_mk ?_ ?_ <;> (intro hc; (try simp only [go_sem, List.getElem?_map, hgx, Option.map_some, datL, hgl]); (try simp at hc); try (exfalso; omega))) | with_reducible refine And.intro (by first | omega | (unfold inI; omega)) ?_)
  all_goals first
    | (exfalso; omega)
    | (refine retQ_ret rfl rfl (by simp [rowsOf, lk]) ?_; rfl)
theorem cpScores_ok (m : MarksD) (top : Int) (hm : MarksOk m) : FnEq Tryz.prog 216 [.agg m.cs, .d (.int .i64 top)] [.row 3 1 ((cpsW m top).map datI)] := by
  have h3 := hm.1
  have hsl := cpsW_len m top
  refine fn_ok G_ok Tryz.func216 rfl rfl ?_; simp only [Tryz.ntmps216, List.length_cons, List.length_nil, Nat.reduceAdd, Nat.reduceSub, enm]
  repeat' (first | ((with_reducible first | (refine hK _ ?_; clear hK K) | refine stq fun K' hK' => ?_ | refine stc ?_); try simp only [go_sem]) | (with_reducible first | refine stp ?_ | (refine hK' _ ?_; clear hK' K') | refine kN kl216 fun K hK => ?_ | refine kO fun K hK => ?_) | refine iB ?_ | (with_reducible refine pK_mk ?_ ?_ <;> (intro hc; (try simp only [go_sem]); (try simp at hc); try (exfalso; omega))) | with_reducible refine And.intro (by first | omega | (unfold inI; omega)) ?_)
  refine pw_loop_over [4, 5, 6, 10, 11, 12, 13, 14, 15, 16, 17, 18, 19, 20, 21] (fun k : Nat => [(10, .d (.int .i64 (k : Int))), (5, .row 1 k)]) (fun k : Nat => [(0, .box 45 [.d (.lst 1 (m.grades.map (datL 1 datI))), .d (.lst 1 (m.components.map (datL 1 datI)))]), (1, .row 3 1 (((cpsW m top).take k).map datI))]) 2 (fun k : Nat => k ≤ m.components.length) (fun k : Nat => m.components.length - k) 0 (Nat.zero_le _) (fits_mk [] (by simp [renL_d, bdL_d, sg, over, wipe, wl, memN, ins, rm, lk, fitFr, fit1, ren, renL, bd, bdL, app, fitHp, hget, renB, bdB, List.take_zero, List.map_nil] <;> omega)) ?_
  intro k hkl
  simp only [over, wipe, wl, memN, ins, rm, if_true, if_false, Nat.reduceEqDiff, Bool.false_eq_true, reduceCtorEq]
  by_cases hlt : k < m.components.length
  · have hgx := List.getElem?_eq_getElem hlt
    generalize m.components[k] = g at hgx
    have hsc := cpScore_ok m k g hgx (hm.comp hgx)
    have hgt0 := cpsW_get (top := top) hgx
    have hsn := map_snoc (f := datI) hgt0
    have htl : (List.map datI (List.take k (cpsW m top))).length = k := by simp; omega
    generalize compW g = sc at hsc hgt0 hsn
    repeat' (first | ((with_reducible first | (refine hK _ ?_; clear hK K) | refine stq fun K' hK' => ?_ | refine stc ?_); try simp only [go_sem, htl]) | (with_reducible first | refine stp ?_ | (refine hK' _ ?_; clear hK' K') | refine kN kl216 fun K hK => ?_ | refine kO fun K hK => ?_) | ((with_reducible apply CallK.eq); (· with_reducible first | exact hsc | exact l1Least_ok _ _); (· simp [RV.flat, D.sc, datI]); try simp only [go_sem, htl]) | refine iB ?_ | (with_reducible refine pK_mk ?_ ?_ <;> (intro hc; (try simp only [go_sem, htl]); (try simp at hc); try (exfalso; omega))) | with_reducible refine And.intro (by first | omega | (unfold inI; omega)) ?_)
    all_goals first
      | (exfalso; omega)
      | exact ⟨k + 1, by omega, by omega, (fits_mk [] (by simp [renL_d, bdL_d, sg, over, wipe, wl, memN, ins, rm, lk, fitFr, fit1, ren, renL, bd, bdL, app, fitHp, hget, renB, bdB, hsn, datI, -List.map_take] <;> omega))⟩
  · obtain rfl : k = m.components.length := by omega
    have e : (cpsW m top).take m.components.length = cpsW m top := List.take_of_length_le (by omega)
    rw [e]
    repeat' (first | ((with_reducible first | (refine hK _ ?_; clear hK K) | refine stq fun K' hK' => ?_ | refine stc ?_); try simp only [go_sem]) | (with_reducible first | refine stp ?_ | (refine hK' _ ?_; clear hK' K') | refine kN kl216 fun K hK => ?_ | refine kO fun K hK => ?_) | refine iB ?_ | (with_reducible refine pK_mk ?_ ?_ <;> (intro hc; (try simp only [go_sem]); (try simp at hc); try (exfalso; omega))) | with_reducible refine And.intro (by first | omega | (unfold inI; omega)) ?_)
    all_goals first
      | (exfalso; omega)
      | (refine retQ_ret rfl (by simp only [hsl, retL, ret1, hget, lk, List.length_map, List.length_nil, List.length_append, List.length_take, if_true, if_false, Nat.reduceEqDiff, Nat.reduceBEq, Bool.false_eq_true, Option.some.injEq]; rfl) (by simp [rowsOf, lk]) ?_; rfl)
theorem cpSum_ok (m : MarksD) (falls : Int) (hm : MarksOk m) : FnEq Tryz.prog 188 [.agg m.cs, .d (.int .i64 falls)] [.d (.int .i64 (cpW m falls))] := by
  have h3 := hm.1
  have hcb := capW_bd falls
  have hbd := cpsW_bd hm hcb.1 hcb.2
  have hcl := cpsW_len m (capW falls)
  have hsu := poSum_ok (cpsW m (capW falls)) 30000 (by omega) (by omega) hbd (by omega)
  have hcs := cpScores_ok m (capW falls) hm
  have e : capW falls = if falls = 0 then 1000 else if falls = 1 then 950 else 900 := rfl
  have e2 : cpW m falls = (cpsW m (capW falls)).sum := rfl
  rw [e2]
  refine fn_ok G_ok Tryz.func188 rfl rfl ?_; simp only [Tryz.ntmps188, List.length_cons, List.length_nil, Nat.reduceAdd, Nat.reduceSub, enm]
  generalize capW falls = top at hcl hsu hcs e
  by_cases h0 : falls = 0
  · rw [if_pos h0] at e
    subst e
    repeat' (first | ((with_reducible first | (refine hK _ ?_; clear hK K) | refine stq fun K' hK' => ?_ | refine stc ?_); try simp only [go_sem]) | (with_reducible first | refine stp ?_ | (refine hK' _ ?_; clear hK' K') | refine kN kl188 fun K hK => ?_ | refine kO fun K hK => ?_) | ((with_reducible apply CallK.eq); (· with_reducible first | exact hcs | exact hsu); (· simp [RV.flat, D.sc, datI]); try simp only [go_sem]) | (with_reducible refine pK_mk ?_ ?_ <;> (intro hc; (try simp only [go_sem]); (try simp at hc); try (exfalso; omega))) | with_reducible refine And.intro (by first | omega | (unfold inI; omega)) ?_)
    all_goals first
      | (exfalso; omega)
      | (refine retQ_ret rfl rfl (by simp [rowsOf, lk]) ?_; rfl)
  · rw [if_neg h0] at e
    by_cases h1 : falls = 1
    · rw [if_pos h1] at e
      subst e
      repeat' (first | ((with_reducible first | (refine hK _ ?_; clear hK K) | refine stq fun K' hK' => ?_ | refine stc ?_); try simp only [go_sem]) | (with_reducible first | refine stp ?_ | (refine hK' _ ?_; clear hK' K') | refine kN kl188 fun K hK => ?_ | refine kO fun K hK => ?_) | ((with_reducible apply CallK.eq); (· with_reducible first | exact hcs | exact hsu); (· simp [RV.flat, D.sc, datI]); try simp only [go_sem]) | (with_reducible refine pK_mk ?_ ?_ <;> (intro hc; (try simp only [go_sem]); (try simp at hc); try (exfalso; omega))) | with_reducible refine And.intro (by first | omega | (unfold inI; omega)) ?_)
      all_goals first
        | (exfalso; omega)
        | (refine retQ_ret rfl rfl (by simp [rowsOf, lk]) ?_; rfl)
    · rw [if_neg h1] at e
      subst e
      repeat' (first | ((with_reducible first | (refine hK _ ?_; clear hK K) | refine stq fun K' hK' => ?_ | refine stc ?_); try simp only [go_sem]) | (with_reducible first | refine stp ?_ | (refine hK' _ ?_; clear hK' K') | refine kN kl188 fun K hK => ?_ | refine kO fun K hK => ?_) | ((with_reducible apply CallK.eq); (· with_reducible first | exact hcs | exact hsu); (· simp [RV.flat, D.sc, datI]); try simp only [go_sem]) | (with_reducible refine pK_mk ?_ ?_ <;> (intro hc; (try simp only [go_sem]); (try simp at hc); try (exfalso; omega))) | with_reducible refine And.intro (by first | omega | (unfold inI; omega)) ?_)
      all_goals first
        | (exfalso; omega)
        | (refine retQ_ret rfl rfl (by simp [rowsOf, lk]) ?_; rfl)
theorem cpFactored_ok (m : MarksD) (f falls : Int) (hm : MarksOk m) (hf : FactOk f) : FnEq Tryz.prog 159 [.agg m.cs, .d (.int .i64 f), .d (.int .i64 falls)] [.d (.int .i64 (factW m f falls))] := by
  have hcs := cpSum_ok m falls hm
  have hpb := factP_bd hm hf falls
  have hcb := cpW_bd hm falls
  have hr := poRound_ok (cpW m falls * f) 100 (by omega) (by omega) (by omega) (by omega)
  have e : factW m f falls = roundW (cpW m falls * f) 100 := rfl
  rw [e]
  refine fn_ok G_ok Tryz.func159 rfl rfl ?_; simp only [Tryz.ntmps159, List.length_cons, List.length_nil, Nat.reduceAdd, Nat.reduceSub, enm]
  generalize hp : cpW m falls * f = p at hpb hr
  generalize cpW m falls = cs at hcs hp hcb
  repeat' (first | ((with_reducible first | (refine hK _ ?_; clear hK K) | refine stq fun K' hK' => ?_ | refine stc ?_); try simp only [go_sem, hp]) | (with_reducible first | refine stp ?_ | (refine hK' _ ?_; clear hK' K') | refine kN kl159 fun K hK => ?_ | refine kO fun K hK => ?_) | ((with_reducible apply CallK.eq); (· with_reducible first | exact hcs | exact hr); (· simp [RV.flat, D.sc, datI]); try simp only [go_sem, hp]) | (with_reducible refine pK_mk ?_ ?_ <;> (intro hc; (try simp only [go_sem, hp]); (try simp at hc); try (exfalso; omega))) | with_reducible refine And.intro (by first | omega | (unfold inI; omega)) ?_)
  all_goals first
    | (exfalso; omega)
    | (refine retQ_ret rfl rfl (by simp [rowsOf, lk]) ?_; rfl)
theorem timeDeduction_ok (s : Int) (h1 : 0 ≤ s) (h2 : s ≤ 60) : FnEq Tryz.prog 195 [.d (.int .i64 s)] [.d (.int .i64 (timeW s))] := by
  have hq := tdiv_bd (s + 4) 5 64 (by omega) (by omega)
  have e : timeW s = (s + 4).tdiv 5 * 100 := rfl
  rw [e]
  refine fn_ok G_ok Tryz.func195 rfl rfl ?_; simp only [Tryz.ntmps195, List.length_cons, List.length_nil, Nat.reduceAdd, Nat.reduceSub, enm]
  generalize hq0 : (s + 4).tdiv 5 = q at hq
  repeat' (first | ((with_reducible first | (refine hK _ ?_; clear hK K) | refine stq fun K' hK' => ?_ | refine stc ?_); try simp only [go_sem, hq0]) | (with_reducible first | refine stp ?_ | (refine hK' _ ?_; clear hK' K') | refine kN kl195 fun K hK => ?_ | refine kO fun K hK => ?_) | (with_reducible refine pK_mk ?_ ?_ <;> (intro hc; (try simp only [go_sem, hq0]); (try simp at hc); try (exfalso; omega))) | with_reducible refine And.intro (by first | omega | (unfold inI; omega)) ?_)
  all_goals first
    | (exfalso; omega)
    | (refine retQ_ret rfl rfl (by simp [rowsOf, lk]) ?_; rfl)
theorem dcTime_ok (s : Int) (h1 : 0 ≤ s) (h2 : s ≤ 60) : FnEq Tryz.prog 190 [.d (.int .i64 s)] [.d (.int .i64 (timeW s))] := by
  have hq := tdiv_bd (s + 4) 5 64 (by omega) (by omega)
  have e : timeW s = (s + 4).tdiv 5 * 100 := rfl
  rw [e]
  refine fn_ok G_ok Tryz.func190 rfl rfl ?_; simp only [Tryz.ntmps190, List.length_cons, List.length_nil, Nat.reduceAdd, Nat.reduceSub, enm]
  generalize hq0 : (s + 4).tdiv 5 = q at hq
  repeat' (first | ((with_reducible first | (refine hK _ ?_; clear hK K) | refine stq fun K' hK' => ?_ | refine stc ?_); try simp only [go_sem, hq0]) | (with_reducible first | refine stp ?_ | (refine hK' _ ?_; clear hK' K') | refine kN kl190 fun K hK => ?_ | refine kO fun K hK => ?_) | (with_reducible refine pK_mk ?_ ?_ <;> (intro hc; (try simp only [go_sem, hq0]); (try simp at hc); try (exfalso; omega))) | with_reducible refine And.intro (by first | omega | (unfold inI; omega)) ?_)
  all_goals first
    | (exfalso; omega)
    | (refine retQ_ret rfl rfl (by simp [rowsOf, lk]) ?_; rfl)
theorem fallDeduction_ok (fall falls : Int) (h1 : 0 ≤ fall) (h2 : fall ≤ 500) (h3 : 0 ≤ falls) (h4 : falls ≤ 9) : FnEq Tryz.prog 194 [.d (.int .i64 fall), .d (.int .i64 falls)] [.d (.int .i64 (fallW fall falls))] := by
  have hb := fallW_bd h1 h2 h3 h4
  have e : fallW fall falls = fall * (falls + max (falls - 2) 0 + max (falls - 4) 0) := rfl
  rw [e] at hb ⊢
  refine fn_ok G_ok Tryz.func194 rfl rfl ?_; simp only [Tryz.ntmps194, List.length_cons, List.length_nil, Nat.reduceAdd, Nat.reduceSub, enm]
  generalize hp : fall * (falls + max (falls - 2) 0 + max (falls - 4) 0) = p at hb
  repeat' (first | ((with_reducible first | (refine hK _ ?_; clear hK K) | refine stq fun K' hK' => ?_ | refine stc ?_); try simp only [go_sem, hp]) | (with_reducible first | refine stp ?_ | (refine hK' _ ?_; clear hK' K') | refine kN kl194 fun K hK => ?_ | refine kO fun K hK => ?_) | (with_reducible refine pK_mk ?_ ?_ <;> (intro hc; (try simp only [go_sem, hp]); (try simp at hc); try (exfalso; omega))) | with_reducible refine And.intro (by first | omega | (unfold inI; omega)) ?_)
  all_goals first
    | (exfalso; omega)
    | (refine retQ_ret rfl rfl (by simp [rowsOf, lk]) ?_; rfl)
theorem slipPoints_ok (c : CodeD) (s : SlipsD) (hc : CodeNums c) (hs : SlipsOk s) : FnEq Tryz.prog 166 [.agg c.cs, .agg s.cs] [.row 3 1 ([fallW c.fall s.falls, timeW s.seconds, s.other].map datI)] := by
  obtain ⟨h1, h2, h3, h4, h5, h6⟩ := hs
  have h7 := hc.2.2.2.2.2.2.2.2.2
  have hf := fallDeduction_ok c.fall s.falls h7.1 h7.2 h1 h2
  have ht := timeDeduction_ok s.seconds h3 h4
  refine fn_ok G_ok Tryz.func166 rfl rfl ?_; simp only [Tryz.ntmps166, List.length_cons, List.length_nil, Nat.reduceAdd, Nat.reduceSub, enm]
  repeat' (first | ((with_reducible first | (refine hK _ ?_; clear hK K) | refine stq fun K' hK' => ?_ | refine stc ?_); try simp only [go_sem]) | (with_reducible first | refine stp ?_ | (refine hK' _ ?_; clear hK' K') | refine kN kl166 fun K hK => ?_ | refine kO fun K hK => ?_) | ((with_reducible first | apply CallK.eq | apply CallQ.eqs); (· with_reducible first | exact hf | exact ht); (· first | exact rfl | (simp [RV.flat, D.sc, datI]; done)); try simp only [go_sem]) | (with_reducible refine pw_seq_tailK kl166 G_ok 0 10 mixed (by kernel_rfl) (fun K hK => ?_); simp only [List.take_succ_cons, List.take_zero, List.drop_succ_cons, List.drop_zero]) | (with_reducible refine pK_mk ?_ ?_ <;> (intro hc; (try simp only [go_sem]); (try simp at hc); try (exfalso; omega))) | with_reducible refine And.intro (by first | omega | (unfold inI; omega)) ?_)
  all_goals first
    | (exfalso; omega)
    | (refine retQ_ret rfl (by simp only [retL, ret1, hget, lk, List.length_map, List.length_nil, List.length_append, List.length_take, if_true, if_false, Nat.reduceEqDiff, Nat.reduceBEq, Bool.false_eq_true, Option.some.injEq]; rfl) (by simp [rowsOf, lk]) ?_; rfl)
theorem dcFalls_ok (fall : Int) (n : Nat) (h1 : 0 ≤ fall) (h2 : fall ≤ 500) (h4 : n ≤ 9) : FnEq Tryz.prog 189 [.d (.int .i64 fall), .d (.int .i64 (n : Int))] [.d (.int .i64 (fallW fall (n : Int)))] := by
  have hz : fallS fall 0 = 0 := rfl
  refine fn_ok G_ok Tryz.func189 rfl rfl ?_; simp only [Tryz.ntmps189, List.length_cons, List.length_nil, Nat.reduceAdd, Nat.reduceSub, enm]
  repeat' (first | ((with_reducible first | (refine hK _ ?_; clear hK K) | refine stq fun K' hK' => ?_ | refine stc ?_); try simp only [go_sem]) | (with_reducible first | refine stp ?_ | (refine hK' _ ?_; clear hK' K') | refine kN kl189 fun K hK => ?_ | refine kO fun K hK => ?_) | refine iB ?_ | (with_reducible refine pK_mk ?_ ?_ <;> (intro hc; (try simp only [go_sem]); (try simp at hc); try (exfalso; omega))) | with_reducible refine And.intro (by first | omega | (unfold inI; omega)) ?_)
  refine pw_loop_over [4, 5, 6, 7, 8, 9, 10, 11, 12, 13, 14, 15, 16, 17, 18, 19] (fun k : Nat => [(6, .d (.int .i64 (k : Int))), (5, .d (.int .i64 (fallS fall k)))]) (fun k : Nat => []) 0 (fun k : Nat => k ≤ n) (fun k : Nat => n - k) 0 (Nat.zero_le _) (fits_mk [] (by simp [renL_d, bdL_d, sg, over, wipe, wl, memN, ins, rm, lk, fitFr, fit1, ren, renL, bd, bdL, app, fitHp, hget, renB, bdB, hz] <;> omega)) ?_
  intro k hk
  have hb1 := fallS_eq fall k (by omega)
  have hb2 := fallW_bd h1 h2 (falls := (k : Int)) (by omega) (by omega)
  rw [← hb1] at hb2
  simp only [over, wipe, wl, memN, ins, rm, if_true, if_false, Nat.reduceEqDiff, Bool.false_eq_true, reduceCtorEq]
  by_cases hlt : k < n
  · have hs := fallS_succ fall k
    have hb3 := fallS_eq fall (k + 1) (by omega)
    have hb4 := fallW_bd h1 h2 (falls := ((k + 1 : Nat) : Int)) (by omega) (by omega)
    rw [← hb3] at hb4
    have hq : (k : Int).tdiv 2 = (k : Int) / 2 := Int.tdiv_eq_ediv_of_nonneg (by omega)
    have hmm := mul_nn (a := fall) (b := min 3 ((k : Int) / 2 + 1)) (A := 500) (B := 3) h1 h2 (by omega) (by omega)
    generalize hp : fall * min 3 ((k : Int) / 2 + 1) = p at hs hmm
    generalize fallS fall k = fs at hs hb2
    repeat' (first | ((with_reducible first | (refine hK _ ?_; clear hK K) | refine stq fun K' hK' => ?_ | refine stc ?_); try simp only [go_sem, hq, hp]) | (with_reducible first | refine stp ?_ | (refine hK' _ ?_; clear hK' K') | refine kN kl189 fun K hK => ?_ | refine kO fun K hK => ?_) | ((with_reducible apply CallK.eq); (· with_reducible first | exact l1Least_ok _ _); (· simp [RV.flat, D.sc, datI]); try simp only [go_sem, hq, hp]) | refine iB ?_ | (with_reducible refine pK_mk ?_ ?_ <;> (intro hc; (try simp only [go_sem, hq, hp]); (try simp at hc); try (exfalso; omega))) | with_reducible refine And.intro (by first | omega | (unfold inI; omega)) ?_)
    all_goals first
      | (exfalso; omega)
      | exact ⟨k + 1, by omega, by omega, (fits_mk [] (by simp [renL_d, bdL_d, sg, over, wipe, wl, memN, ins, rm, lk, fitFr, fit1, ren, renL, bd, bdL, app, fitHp, hget, renB, bdB, hs] <;> omega))⟩
  · obtain rfl : k = n := by omega
    rw [← hb1]
    repeat' (first | ((with_reducible first | (refine hK _ ?_; clear hK K) | refine stq fun K' hK' => ?_ | refine stc ?_); try simp only [go_sem]) | (with_reducible first | refine stp ?_ | (refine hK' _ ?_; clear hK' K') | refine kN kl189 fun K hK => ?_ | refine kO fun K hK => ?_) | refine iB ?_ | (with_reducible refine pK_mk ?_ ?_ <;> (intro hc; (try simp only [go_sem]); (try simp at hc); try (exfalso; omega))) | with_reducible refine And.intro (by first | omega | (unfold inI; omega)) ?_)
    all_goals first
      | (exfalso; omega)
      | (refine retQ_ret rfl rfl (by simp [rowsOf, lk]) ?_; rfl)
theorem dcSum_ok (c : CodeD) (s : SlipsD) (hc : CodeNums c) (hs : SlipsOk s) : FnEq Tryz.prog 160 [.agg c.cs, .agg s.cs] [.d (.int .i64 (dedW c s))] := by
  obtain ⟨h1, h2, h3, h4, h5, h6⟩ := hs
  have h7 := hc.2.2.2.2.2.2.2.2.2
  have hf := dcFalls_ok c.fall s.falls.toNat h7.1 h7.2 (by omega)
  rw [show ((s.falls.toNat : Nat) : Int) = s.falls by omega] at hf
  have ht := dcTime_ok s.seconds h3 h4
  have hfb := fallW_bd h7.1 h7.2 h1 h2
  have htb := timeW_bd h3 h4
  have e : dedW c s = fallW c.fall s.falls + timeW s.seconds + s.other := rfl
  rw [e]
  refine fn_ok G_ok Tryz.func160 rfl rfl ?_; simp only [Tryz.ntmps160, List.length_cons, List.length_nil, Nat.reduceAdd, Nat.reduceSub, enm]
  generalize fallW c.fall s.falls = a at hf hfb
  generalize timeW s.seconds = b at ht htb
  repeat' (first | ((with_reducible first | (refine hK _ ?_; clear hK K) | refine stq fun K' hK' => ?_ | refine stc ?_); try simp only [go_sem]) | (with_reducible first | refine stp ?_ | (refine hK' _ ?_; clear hK' K') | refine kN kl160 fun K hK => ?_ | refine kO fun K hK => ?_) | ((with_reducible first | apply CallK.eq | apply CallQ.eqs); (· with_reducible first | exact hf | exact ht); (· first | exact rfl | (simp [RV.flat, D.sc, datI]; done)); try simp only [go_sem]) | (with_reducible refine pw_seq_drawK kl160 G_ok mixed (by kernel_rfl) (fun K hK => ?_)) | (with_reducible refine pw_draw G_ok mixed (by kernel_rfl) ?_) | (with_reducible refine pK_mk ?_ ?_ <;> (intro hc; (try simp only [go_sem]); (try simp at hc); try (exfalso; omega))) | with_reducible refine And.intro (by first | omega | (unfold inI; omega)) ?_)
  all_goals first
    | (exfalso; omega)
    | (refine retQ_ret rfl rfl (by simp [rowsOf, lk]) ?_; rfl)
end Go.Proofs.YtphakidbddamfaaGreat
