/-
  Scores of items: full bases, repeats, bases: the program's functions and the reference's, in the abstract machine.
-/
import Derived.Test.YtphakidbddamfaaGreatZSb
set_option linter.unusedSimpArgs false
set_option linter.unusedVariables false
set_option maxHeartbeats 2000000
set_option maxRecDepth 100000
namespace Go.Proofs.YtphakidbddamfaaGreat
open Go.RowKit

theorem worths_ok (c : CodeD) (it : ItemD) (hc : CodeOk c) (hi : ItOk it) (hk : KnownI c it) : FnEq Tryz.prog 256 [.agg c.cs, .agg [.d (.lst 1 (it.names.map datS)), .d (.lst 1 (it.marks.map datI)), .d (.bool it.late)]] [.row 3 1 ((worthsW c it).map datI)] := by
  have hl := code_len hc
  have hi1 := hi.2.1
  have hi2 := hi.2.2.1
  have hi3 := hi.2.2.2.1
  have hwl := worthsW_len (c := c) hi
  refine fn_ok G_ok Tryz.func256 rfl rfl ?_; simp only [Tryz.ntmps256, List.length_cons, List.length_nil, Nat.reduceAdd, Nat.reduceSub, enm]
  repeat' (first | ((with_reducible first | (refine hK _ ?_; clear hK K) | refine stq fun K' hK' => ?_ | refine stc ?_); try simp only [go_sem]) | (with_reducible first | refine stp ?_ | (refine hK' _ ?_; clear hK' K') | refine kN kl256 fun K hK => ?_ | refine kO fun K hK => ?_) | refine iB ?_ | (with_reducible refine pK_mk ?_ ?_ <;> (intro hc; (try simp only [go_sem]); (try simp at hc); try (exfalso; omega))) | with_reducible refine And.intro (by first | omega | (unfold inI; omega)) ?_)
  refine pw_loop_over [4, 5, 6, 7, 12, 13, 14, 15, 16, 17, 18, 19, 20, 21, 22, 23, 24, 25, 26, 27, 28, 29, 30, 31, 32, 33, 34] (fun k : Nat => [(12, .d (.int .i64 (k : Int))), (5, .row 2 k)]) (fun k : Nat => [(0, .box 42 [.d (.lst 4 (c.elements.map ElementD.dat)), .d (.lst 1 (c.limits.map datI)), .d (.int .i64 c.repeats), .d (.int .i64 c.bonus), .d (.int .i64 c.keeps), .d (.int .i64 c.fall)]), (1, .box 143 [.d (.lst 1 (it.names.map datS)), .d (.lst 1 (it.marks.map datI)), .d (.bool it.late)]), (2, .row 3 1 (((worthsW c it).take k).map datI))]) 3 (fun k : Nat => k ≤ it.names.length) (fun k : Nat => it.names.length - k) 0 (Nat.zero_le _) (fits_mk [] (by simp [renL_d, bdL_d, sg, over, wipe, wl, memN, ins, rm, lk, fitFr, fit1, ren, renL, bd, bdL, app, fitHp, hget, renB, bdB, List.take_zero, List.map_nil] <;> omega)) ?_
  intro k hkl
  simp only [over, wipe, wl, memN, ins, rm, if_true, if_false, Nat.reduceEqDiff, Bool.false_eq_true, reduceCtorEq]
  by_cases hlt : k < it.names.length
  · have hx := List.getElem?_eq_getElem hlt
    generalize it.names[k] = y at hx
    have hm := List.getElem?_eq_getElem (show k < it.marks.length by omega)
    generalize it.marks[k] = m at hm
    have hfi : 0 ≤ findW c y := hk k y hx
    obtain ⟨x, hxe, _⟩ := findW_at hfi
    have hxl := (List.getElem?_eq_some_iff.1 hxe).1
    obtain ⟨_, _, _, _, _, hb1, hb2, _⟩ := hc.1 _ x hxe
    have hg := worthsW_get (c := c) hx hm
    have hsn := map_snoc (f := datI) hg
    have hw := worthN_of (m := m) hfi hxe
    have htl : (List.map datI (List.take k (worthsW c it))).length = k := by simp; omega
    have hcf := findElement_ok c y hl
    have hwo := worthOf_ok c x m hc.2.2 hb1 hb2
    rw [hw] at hsn
    generalize findW c y = i at hfi hxe hxl hcf
    generalize worthE c x m = wv at hsn hwo
    repeat' (first | ((with_reducible first | (refine hK _ ?_; clear hK K) | refine stq fun K' hK' => ?_ | refine stc ?_); try simp only [go_sem, List.getElem?_map, hx, Option.map_some, datS]) | (with_reducible first | refine stp ?_ | (refine hK' _ ?_; clear hK' K') | refine kN kl256 fun K hK => ?_ | refine kO fun K hK => ?_) | refine iB ?_ | (with_reducible refine pK_mk ?_ ?_ <;> (intro hc; (try simp only [go_sem, List.getElem?_map, hx, Option.map_some, datS]); (try simp at hc); try (exfalso; omega))) | with_reducible refine And.intro (by first | omega | (unfold inI; omega)) ?_)
    refine pw_draw_tail G_ok 1 15 mixed (by decide +kernel) ?_
    simp only [List.take_succ_cons, List.take_zero, List.drop_succ_cons, List.drop_zero]
    repeat' (first | ((with_reducible first | (refine hK _ ?_; clear hK K) | refine stq fun K' hK' => ?_ | refine stc ?_); try simp only [go_sem, List.getElem?_map, hx, hm, hxe, Option.map_some, datS, datI, ElementD.dat, hfi, hxl, htl]) | (with_reducible first | refine stp ?_ | (refine hK' _ ?_; clear hK' K') | refine kN kl256 fun K hK => ?_ | refine kO fun K hK => ?_) | ((with_reducible first | apply CallK.eq | apply CallQ.eqs); (· with_reducible first | exact hcf | exact hwo); (· first | exact rfl | (simp [RV.flat, D.sc, datI]; done)); try simp only [go_sem, List.getElem?_map, hx, hm, hxe, Option.map_some, datS, datI, ElementD.dat, hfi, hxl, htl]) | refine iB ?_ | (with_reducible refine pK_mk ?_ ?_ <;> (intro hc; (try simp only [go_sem, List.getElem?_map, hx, hm, hxe, Option.map_some, datS, datI, ElementD.dat, hfi, hxl, htl]); (try simp at hc); try (exfalso; omega))) | with_reducible refine And.intro (by first | omega | (unfold inI; omega)) ?_)
    all_goals first
      | (exfalso; omega)
      | exact ⟨k + 1, by omega, by omega, (fits_mk [] (by simp [renL_d, bdL_d, sg, over, wipe, wl, memN, ins, rm, lk, fitFr, fit1, ren, renL, bd, bdL, app, fitHp, hget, renB, bdB, hsn, datI, -List.map_take] <;> omega))⟩
  · obtain rfl : k = it.names.length := by omega
    have e : (worthsW c it).take it.names.length = worthsW c it := List.take_of_length_le (by omega)
    rw [e]
    repeat' (first | ((with_reducible first | (refine hK _ ?_; clear hK K) | refine stq fun K' hK' => ?_ | refine stc ?_); try simp only [go_sem]) | (with_reducible first | refine stp ?_ | (refine hK' _ ?_; clear hK' K') | refine kN kl256 fun K hK => ?_ | refine kO fun K hK => ?_) | refine iB ?_ | (with_reducible refine pw_seq_tailK kl256 G_ok 1 15 mixed (by kernel_rfl) (fun K hK => ?_); simp only [List.take_succ_cons, List.take_zero, List.drop_succ_cons, List.drop_zero]) | (with_reducible refine pK_mk ?_ ?_ <;> (intro hc; (try simp only [go_sem]); (try simp at hc); try (exfalso; omega))) | with_reducible refine And.intro (by first | omega | (unfold inI; omega)) ?_)
    all_goals first
      | (exfalso; omega)
      | (refine retQ_ret rfl (by simp only [hwl, retL, ret1, hget, lk, List.length_map, List.length_nil, List.length_append, List.length_take, if_true, if_false, Nat.reduceEqDiff, Nat.reduceBEq, Bool.false_eq_true, Option.some.injEq]; rfl) (by simp [rowsOf, lk]) ?_; rfl)
theorem fullBase_ok (c : CodeD) (it : ItemD) (hc : CodeOk c) (hi : ItOk it) (hk : KnownI c it) : FnEq Tryz.prog 243 [.agg c.cs, .agg [.d (.lst 1 (it.names.map datS)), .d (.lst 1 (it.marks.map datI)), .d (.bool it.late)]] [.d (.int .i64 (fullW c it))] := by
  have hws := worths_sum hc hi hk
  have hwl := worthsW_len (c := c) hi
  have hi2 := hi.2.2.1
  have hbn := hc.2.2.2.2.2.2.2
  have hbd : ∀ x ∈ worthsW c it, -2000 ≤ x ∧ x ≤ 2000 := fun x hx => by have := worthsW_bd hc hk x hx; omega
  have hsi := sumInts_ok (worthsW c it) 2000 (by omega) (by omega) hbd (by omega)
  have hwo := worths_ok c it hc hi hk
  have hmn := mul_nn (a := (worthsW c it).sum) (b := 100 + c.bonus) (A := 6000) (B := 120) hws.1 hws.2 (by omega) (by omega)
  refine fn_ok G_ok Tryz.func243 rfl rfl ?_; simp only [Tryz.ntmps243, List.length_cons, List.length_nil, Nat.reduceAdd, Nat.reduceSub, enm]
  cases hl : it.late
  · rw [show fullW c it = (worthsW c it).sum by unfold fullW; rw [hl]; rfl]
    generalize (worthsW c it).sum = s at hsi hws
    rw [hl] at hwo
    repeat' (first | ((with_reducible first | (refine hK _ ?_; clear hK K) | refine stq fun K' hK' => ?_ | refine stc ?_); try simp only [go_sem, hl]) | (with_reducible first | refine stp ?_ | (refine hK' _ ?_; clear hK' K') | refine kN kl243 fun K hK => ?_ | refine kO fun K hK => ?_) | ((with_reducible apply CallK.eq); (· with_reducible first | exact hwo | exact hsi); (· simp [RV.flat, D.sc, datI]); try simp only [go_sem, hl]) | (with_reducible refine pK_mk ?_ ?_ <;> (intro hc; (try simp only [go_sem, hl]); (try simp at hc); try (exfalso; omega))) | with_reducible refine And.intro (by first | omega | (unfold inI; omega)) ?_)
    all_goals first
      | (exfalso; omega)
      | (refine retQ_ret rfl rfl (by simp [rowsOf, lk]) ?_; rfl)
  · rw [show fullW c it = roundW ((worthsW c it).sum * (100 + c.bonus)) 100 by unfold fullW; rw [hl]; rfl]
    have hro := roundDiv_ok ((worthsW c it).sum * (100 + c.bonus)) 100 (by omega) (by omega) (by omega) (by omega)
    generalize hp : (worthsW c it).sum * (100 + c.bonus) = p at hmn hro
    generalize (worthsW c it).sum = s at hsi hws hp
    rw [hl] at hwo
    repeat' (first | ((with_reducible first | (refine hK _ ?_; clear hK K) | refine stq fun K' hK' => ?_ | refine stc ?_); try simp only [go_sem, hl, hp]) | (with_reducible first | refine stp ?_ | (refine hK' _ ?_; clear hK' K') | refine kN kl243 fun K hK => ?_ | refine kO fun K hK => ?_) | ((with_reducible apply CallK.eq); (· with_reducible first | exact hwo | exact hsi | exact hro); (· simp [RV.flat, D.sc, datI]); try simp only [go_sem, hl, hp]) | (with_reducible refine pK_mk ?_ ?_ <;> (intro hc; (try simp only [go_sem, hl, hp]); (try simp at hc); try (exfalso; omega))) | with_reducible refine And.intro (by first | omega | (unfold inI; omega)) ?_)
    all_goals first
      | (exfalso; omega)
      | (refine retQ_ret rfl rfl (by simp [rowsOf, lk]) ?_; rfl)
theorem bsFull_ok (c : CodeD) (it : ItemD) (hc : CodeOk c) (hi : ItOk it) (hk : KnownI c it) : FnEq Tryz.prog 252 [.agg c.cs, .agg [.d (.lst 1 (it.names.map datS)), .d (.lst 1 (it.marks.map datI)), .d (.bool it.late)]] [.d (.int .i64 (fullW c it))] := by
  have hws := worths_sum hc hi hk
  have hi1 := hi.2.1
  have hi2 := hi.2.2.1
  have hi3 := hi.2.2.2.1
  have hwl := worthsW_len (c := c) hi
  have hbn := hc.2.2.2.2.2.2.2
  have hbd : ∀ x ∈ worthsW c it, -2000 ≤ x ∧ x ≤ 2000 := fun x hx => by have := worthsW_bd hc hk x hx; omega
  have hmn := mul_nn (a := (worthsW c it).sum) (b := 100 + c.bonus) (A := 6000) (B := 120) hws.1 hws.2 (by omega) (by omega)
  refine fn_ok G_ok Tryz.func252 rfl rfl ?_; simp only [Tryz.ntmps252, List.length_cons, List.length_nil, Nat.reduceAdd, Nat.reduceSub, enm]
  repeat' (first | ((with_reducible first | (refine hK _ ?_; clear hK K) | refine stq fun K' hK' => ?_ | refine stc ?_); try simp only [go_sem]) | (with_reducible first | refine stp ?_ | (refine hK' _ ?_; clear hK' K') | refine kN kl252 fun K hK => ?_ | refine kO fun K hK => ?_) | refine iB ?_ | (with_reducible refine pK_mk ?_ ?_ <;> (intro hc; (try simp only [go_sem]); (try simp at hc); try (exfalso; omega))) | with_reducible refine And.intro (by first | omega | (unfold inI; omega)) ?_)
  refine pw_loop_over [4, 5, 6, 7, 11, 12, 13, 14, 15, 16, 17, 18, 19, 20, 21, 22, 23, 24, 25, 26] (fun k : Nat => [(11, .d (.int .i64 (k : Int))), (5, .d (.int .i64 ((worthsW c it).take k).sum))]) (fun k : Nat => [(0, .box 42 [.d (.lst 4 (c.elements.map ElementD.dat)), .d (.lst 1 (c.limits.map datI)), .d (.int .i64 c.repeats), .d (.int .i64 c.bonus), .d (.int .i64 c.keeps), .d (.int .i64 c.fall)]), (1, .box 143 [.d (.lst 1 (it.names.map datS)), .d (.lst 1 (it.marks.map datI)), .d (.bool it.late)])]) 2 (fun k : Nat => k ≤ it.names.length) (fun k : Nat => it.names.length - k) 0 (Nat.zero_le _) (fits_mk [] (by simp [renL_d, bdL_d, sg, over, wipe, wl, memN, ins, rm, lk, fitFr, fit1, ren, renL, bd, bdL, app, fitHp, hget, renB, bdB, List.take_zero, List.sum_nil] <;> omega)) ?_
  intro k hkl
  have hb1 := sumTake_bd (by decide) (by decide) hbd (by omega) k
  have hb2 := sumTake_bd (by decide) (by decide) hbd (by omega) (k + 1)
  simp only [over, wipe, wl, memN, ins, rm, if_true, if_false, Nat.reduceEqDiff, Bool.false_eq_true, reduceCtorEq]
  by_cases hlt : k < it.names.length
  · have hx := List.getElem?_eq_getElem hlt
    generalize it.names[k] = y at hx
    have hm := List.getElem?_eq_getElem (show k < it.marks.length by omega)
    generalize it.marks[k] = m at hm
    have hg := worthsW_get (c := c) hx hm
    have hsn := sum_snoc hg
    have hbw := bsWorth_ok c y m hc
    have hbb := hbd _ (List.mem_of_getElem? hg)
    generalize worthN c y m = wv at hsn hbw hbb
    repeat' (first | ((with_reducible first | (refine hK _ ?_; clear hK K) | refine stq fun K' hK' => ?_ | refine stc ?_); try simp only [go_sem, List.getElem?_map, hx, hm, Option.map_some, datS, datI]) | (with_reducible first | refine stp ?_ | (refine hK' _ ?_; clear hK' K') | refine kN kl252 fun K hK => ?_ | refine kO fun K hK => ?_) | ((with_reducible first | apply CallK.eq | apply CallQ.eqs); (· with_reducible first | exact hbw); (· first | exact rfl | (simp [RV.flat, D.sc, datI]; done)); try simp only [go_sem, List.getElem?_map, hx, hm, Option.map_some, datS, datI]) | refine iB ?_ | (with_reducible refine pw_seq_drawK kl252 G_ok mixed (by kernel_rfl) (fun K hK => ?_)) | (with_reducible refine pw_draw G_ok mixed (by kernel_rfl) ?_) | (with_reducible refine pK_mk ?_ ?_ <;> (intro hc; (try simp only [go_sem, List.getElem?_map, hx, hm, Option.map_some, datS, datI]); (try simp at hc); try (exfalso; omega))) | with_reducible refine And.intro (by first | omega | (unfold inI; omega)) ?_)
    all_goals first
      | (exfalso; omega)
      | exact ⟨k + 1, by omega, by omega, (fits_mk [] (by simp [renL_d, bdL_d, sg, over, wipe, wl, memN, ins, rm, lk, fitFr, fit1, ren, renL, bd, bdL, app, fitHp, hget, renB, bdB, hsn] <;> omega))⟩
  · have e : (worthsW c it).take k = worthsW c it := List.take_of_length_le (by omega)
    rw [e]
    cases hl : it.late
    · rw [show fullW c it = (worthsW c it).sum by unfold fullW; rw [hl]; rfl]
      generalize (worthsW c it).sum = s at hws
      repeat' (first | ((with_reducible first | (refine hK _ ?_; clear hK K) | refine stq fun K' hK' => ?_ | refine stc ?_); try simp only [go_sem, hl]) | (with_reducible first | refine stp ?_ | (refine hK' _ ?_; clear hK' K') | refine kN kl252 fun K hK => ?_ | refine kO fun K hK => ?_) | refine iB ?_ | (with_reducible refine pw_seq_drawK kl252 G_ok mixed (by kernel_rfl) (fun K hK => ?_)) | (with_reducible refine pw_draw G_ok mixed (by kernel_rfl) ?_) | (with_reducible refine pK_mk ?_ ?_ <;> (intro hc; (try simp only [go_sem, hl]); (try simp at hc); try (exfalso; omega))) | with_reducible refine And.intro (by first | omega | (unfold inI; omega)) ?_)
      all_goals first
        | (exfalso; omega)
        | (refine retQ_ret rfl rfl (by simp [rowsOf, lk]) ?_; rfl)
    · rw [show fullW c it = roundW ((worthsW c it).sum * (100 + c.bonus)) 100 by unfold fullW; rw [hl]; rfl]
      have hro := poRound_ok ((worthsW c it).sum * (100 + c.bonus)) 100 (by omega) (by omega) (by omega) (by omega)
      generalize hp : (worthsW c it).sum * (100 + c.bonus) = p at hmn hro
      generalize (worthsW c it).sum = s at hws hp
      repeat' (first | ((with_reducible first | (refine hK _ ?_; clear hK K) | refine stq fun K' hK' => ?_ | refine stc ?_); try simp only [go_sem, hl, hp]) | (with_reducible first | refine stp ?_ | (refine hK' _ ?_; clear hK' K') | refine kN kl252 fun K hK => ?_ | refine kO fun K hK => ?_) | ((with_reducible first | apply CallK.eq | apply CallQ.eqs); (· with_reducible first | exact hro); (· first | exact rfl | (simp [RV.flat, D.sc, datI]; done)); try simp only [go_sem, hl, hp]) | refine iB ?_ | (with_reducible refine pw_seq_drawK kl252 G_ok mixed (by kernel_rfl) (fun K hK => ?_)) | (with_reducible refine pw_draw G_ok mixed (by kernel_rfl) ?_) | (with_reducible refine pK_mk ?_ ?_ <;> (intro hc; (try simp only [go_sem, hl, hp]); (try simp at hc); try (exfalso; omega))) | with_reducible refine And.intro (by first | omega | (unfold inI; omega)) ?_)
      all_goals first
        | (exfalso; omega)
        | (refine retQ_ret rfl rfl (by simp [rowsOf, lk]) ?_; rfl)
theorem repW_bd (l : List ItemD) (k : Nat) : repW l k ≤ k := cn_take_le _ _ _
theorem repeatsOf_ok (l : List ItemD) (n : Nat) (hl : ItsOk l) (hk : n < l.length) : FnEq Tryz.prog 242 [.d (.lst 3 (l.map ItemD.dat)), .d (.int .i64 (n : Int))] [.d (.int .i64 (repW l n : Nat))] := by
  have h14 := hl.1
  have hx := List.getElem?_eq_getElem hk
  generalize l[n] = x at hx
  have hx0 := name0_get (hl.at_ hx)
  have hxn := (hl.at_ hx).2.1
  have er : repW l n = cn (repP (name0 x)) (l.take n) := by unfold repW; rw [hx]; rfl
  have htl : (List.take n (List.map ItemD.dat l)).length = n := by simp; omega
  have hcz : cn (repP (name0 x)) [] = 0 := rfl
  rw [er]
  refine fn_ok G_ok Tryz.func242 rfl rfl ?_; simp only [Tryz.ntmps242, List.length_cons, List.length_nil, Nat.reduceAdd, Nat.reduceSub, enm]
  repeat' (first | ((with_reducible first | (refine hK _ ?_; clear hK K) | refine stq fun K' hK' => ?_ | refine stc ?_); try simp only [go_sem, List.length_map, htl]) | (with_reducible first | refine stp ?_ | (refine hK' _ ?_; clear hK' K') | refine kN kl242 fun K hK => ?_ | refine kO fun K hK => ?_) | (refine xS rfl fun K' hK' => ?_; simp only [go_sem, List.length_map, htl]) | (refine qS rfl fun K' hK' => ?_; simp only [go_sem, List.length_map, htl]) | refine iB ?_ | (with_reducible refine pw_seq_drawK kl242 G_ok mixed (by kernel_rfl) (fun K hK => ?_)) | (with_reducible refine pw_draw G_ok mixed (by kernel_rfl) ?_) | (with_reducible refine pK_mk ?_ ?_ <;> (intro hc; (try simp only [go_sem, List.length_map, htl]); (try simp at hc); try (exfalso; omega))) | with_reducible refine And.intro (by first | omega | (unfold inI; omega)) ?_)
  all_goals first
    | (exfalso; omega)
    | skip
  refine pw_loop_over [4, 5, 7, 12, 13, 14, 15, 16, 17, 18, 19, 20, 21, 22, 23, 24, 25, 26, 27, 28, 29, 30, 31, 32, 33, 34, 35, 36, 37] (fun k : Nat => [(12, .d (.int .i64 (k : Int))), (5, .d (.int .i64 (cn (repP (name0 x)) (l.take k) : Nat)))]) (fun k : Nat => []) 0 (fun k : Nat => k ≤ n) (fun k : Nat => n - k) 0 (Nat.zero_le _) (fits_mk [] (by simp [renL_d, bdL_d, sg, over, wipe, wl, memN, ins, rm, lk, fitFr, fit1, ren, renL, bd, bdL, app, fitHp, hget, renB, bdB, List.take_zero, hcz] <;> omega)) ?_
  intro j hj
  have hcb := cn_take_le (repP (name0 x)) l j
  simp only [over, wipe, wl, memN, ins, rm, if_true, if_false, Nat.reduceEqDiff, Bool.false_eq_true, reduceCtorEq]
  by_cases hlt : j < n
  · have hy := List.getElem?_eq_getElem (show j < l.length by omega)
    generalize l[j] = y at hy
    have hyt : (List.take n (List.map ItemD.dat l))[j]? = some y.dat := by rw [List.getElem?_take, if_pos hlt, List.getElem?_map, hy]; rfl
    have hy0 := name0_get (hl.at_ hy)
    have hym := mark0_get (hl.at_ hy)
    have hyn := (hl.at_ hy).2.1
    have hyl := (hl.at_ hy).2.2.2.1
    by_cases hp : repP (name0 x) y = true
    · have hcy := cn_yes (p := repP (name0 x)) hy hp
      have hp2 := hp
      simp only [repP, Bool.and_eq_true, decide_eq_true_eq] at hp2
      obtain ⟨hp3, hp4⟩ := hp2
      have hd : decide (name0 y = name0 x) = true := decide_eq_true hp3
      generalize mark0 y = mk at hym hp4
      repeat' (first | ((with_reducible first | (refine hK _ ?_; clear hK K) | refine stq fun K' hK' => ?_ | refine stc ?_); try simp only [go_sem, List.getElem?_map, hyt, hx, hx0, hy0, hym, hd, Option.map_some, datS, datI, ItemD.dat, List.length_map]) | (with_reducible first | refine stp ?_ | (refine hK' _ ?_; clear hK' K') | refine kN kl242 fun K hK => ?_ | refine kO fun K hK => ?_) | (refine xS rfl fun K' hK' => ?_; simp only [go_sem, List.getElem?_map, hyt, hx, hx0, hy0, hym, hd, Option.map_some, datS, datI, ItemD.dat, List.length_map]) | (refine qS rfl fun K' hK' => ?_; simp only [go_sem, List.getElem?_map, hyt, hx, hx0, hy0, hym, hd, Option.map_some, datS, datI, ItemD.dat, List.length_map]) | refine iB ?_ | (with_reducible refine pw_seq_drawK kl242 G_ok mixed (by kernel_rfl) (fun K hK => ?_)) | (with_reducible refine pw_draw G_ok mixed (by kernel_rfl) ?_) | (with_reducible refine pK_mk ?_ ?_ <;> (intro hc; (try simp only [go_sem, List.getElem?_map, hyt, hx, hx0, hy0, hym, hd, Option.map_some, datS, datI, ItemD.dat, List.length_map]); (try simp at hc); try (exfalso; omega))) | with_reducible refine And.intro (by first | omega | (unfold inI; omega)) ?_)
      all_goals first
        | (exfalso; omega)
        | exact ⟨j + 1, by omega, by omega, (fits_mk [] (by simp [renL_d, bdL_d, sg, over, wipe, wl, memN, ins, rm, lk, fitFr, fit1, ren, renL, bd, bdL, app, fitHp, hget, renB, bdB, hcy] <;> omega))⟩
    · have hp : repP (name0 x) y = false := by simpa using hp
      have hcn := cn_no (p := repP (name0 x)) hy hp
      by_cases hp3 : name0 y = name0 x
      · have hd : decide (name0 y = name0 x) = true := decide_eq_true hp3
        have hp4 : mark0 y = 3 := by
          have := hp; simp [repP, hp3] at this; exact this
        rw [hp4] at hym
        repeat' (first | ((with_reducible first | (refine hK _ ?_; clear hK K) | refine stq fun K' hK' => ?_ | refine stc ?_); try simp only [go_sem, List.getElem?_map, hyt, hx, hx0, hy0, hym, hd, Option.map_some, datS, datI, ItemD.dat, List.length_map]) | (with_reducible first | refine stp ?_ | (refine hK' _ ?_; clear hK' K') | refine kN kl242 fun K hK => ?_ | refine kO fun K hK => ?_) | (refine xS rfl fun K' hK' => ?_; simp only [go_sem, List.getElem?_map, hyt, hx, hx0, hy0, hym, hd, Option.map_some, datS, datI, ItemD.dat, List.length_map]) | (refine qS rfl fun K' hK' => ?_; simp only [go_sem, List.getElem?_map, hyt, hx, hx0, hy0, hym, hd, Option.map_some, datS, datI, ItemD.dat, List.length_map]) | refine iB ?_ | (with_reducible refine pw_seq_drawK kl242 G_ok mixed (by kernel_rfl) (fun K hK => ?_)) | (with_reducible refine pw_draw G_ok mixed (by kernel_rfl) ?_) | (with_reducible refine pK_mk ?_ ?_ <;> (intro hc; (try simp only [go_sem, List.getElem?_map, hyt, hx, hx0, hy0, hym, hd, Option.map_some, datS, datI, ItemD.dat, List.length_map]); (try simp at hc); try (exfalso; omega))) | with_reducible refine And.intro (by first | omega | (unfold inI; omega)) ?_)
        all_goals first
          | (exfalso; omega)
          | exact ⟨j + 1, by omega, by omega, (fits_mk [] (by simp [renL_d, bdL_d, sg, over, wipe, wl, memN, ins, rm, lk, fitFr, fit1, ren, renL, bd, bdL, app, fitHp, hget, renB, bdB, hcn] <;> omega))⟩
      · have hd : decide (name0 y = name0 x) = false := decide_eq_false hp3
        repeat' (first | ((with_reducible first | (refine hK _ ?_; clear hK K) | refine stq fun K' hK' => ?_ | refine stc ?_); try simp only [go_sem, List.getElem?_map, hyt, hx, hx0, hy0, hym, hd, Option.map_some, datS, datI, ItemD.dat, List.length_map]) | (with_reducible first | refine stp ?_ | (refine hK' _ ?_; clear hK' K') | refine kN kl242 fun K hK => ?_ | refine kO fun K hK => ?_) | (refine xS rfl fun K' hK' => ?_; simp only [go_sem, List.getElem?_map, hyt, hx, hx0, hy0, hym, hd, Option.map_some, datS, datI, ItemD.dat, List.length_map]) | (refine qS rfl fun K' hK' => ?_; simp only [go_sem, List.getElem?_map, hyt, hx, hx0, hy0, hym, hd, Option.map_some, datS, datI, ItemD.dat, List.length_map]) | refine iB ?_ | (with_reducible refine pw_seq_drawK kl242 G_ok mixed (by kernel_rfl) (fun K hK => ?_)) | (with_reducible refine pw_draw G_ok mixed (by kernel_rfl) ?_) | (with_reducible refine pK_mk ?_ ?_ <;> (intro hc; (try simp only [go_sem, List.getElem?_map, hyt, hx, hx0, hy0, hym, hd, Option.map_some, datS, datI, ItemD.dat, List.length_map]); (try simp at hc); try (exfalso; omega))) | with_reducible refine And.intro (by first | omega | (unfold inI; omega)) ?_)
        all_goals first
          | (exfalso; omega)
          | exact ⟨j + 1, by omega, by omega, (fits_mk [] (by simp [renL_d, bdL_d, sg, over, wipe, wl, memN, ins, rm, lk, fitFr, fit1, ren, renL, bd, bdL, app, fitHp, hget, renB, bdB, hcn] <;> omega))⟩
  · have e : j = n := by omega
    subst e
    repeat' (first | ((with_reducible first | (refine hK _ ?_; clear hK K) | refine stq fun K' hK' => ?_ | refine stc ?_); try simp only [go_sem]) | (with_reducible first | refine stp ?_ | (refine hK' _ ?_; clear hK' K') | refine kN kl242 fun K hK => ?_ | refine kO fun K hK => ?_) | (refine xS rfl fun K' hK' => ?_; simp only [go_sem]) | (refine qS rfl fun K' hK' => ?_; simp only [go_sem]) | refine iB ?_ | (with_reducible refine pw_seq_drawK kl242 G_ok mixed (by kernel_rfl) (fun K hK => ?_)) | (with_reducible refine pw_draw G_ok mixed (by kernel_rfl) ?_) | (with_reducible refine pK_mk ?_ ?_ <;> (intro hc; (try simp only [go_sem]); (try simp at hc); try (exfalso; omega))) | with_reducible refine And.intro (by first | omega | (unfold inI; omega)) ?_)
    all_goals first
      | (exfalso; omega)
      | (refine retQ_ret rfl rfl (by simp [rowsOf, lk]) ?_; rfl)
theorem bsRepeats_ok (l : List ItemD) (n : Nat) (hl : ItsOk l) (hk : n < l.length) : FnEq Tryz.prog 253 [.d (.lst 3 (l.map ItemD.dat)), .d (.int .i64 (n : Int))] [.d (.int .i64 (repW l n : Nat))] := by
  have h14 := hl.1
  have hx := List.getElem?_eq_getElem hk
  generalize l[n] = x at hx
  have hx0 := name0_get (hl.at_ hx)
  have hxn := (hl.at_ hx).2.1
  have er : repW l n = cn (repP (name0 x)) (l.take n) := by unfold repW; rw [hx]; rfl
  have htl : (List.take n (List.map ItemD.dat l)).length = n := by simp; omega
  have hcz : cn (repP (name0 x)) [] = 0 := rfl
  rw [er]
  refine fn_ok G_ok Tryz.func253 rfl rfl ?_; simp only [Tryz.ntmps253, List.length_cons, List.length_nil, Nat.reduceAdd, Nat.reduceSub, enm]
  repeat' (first | ((with_reducible first | (refine hK _ ?_; clear hK K) | refine stq fun K' hK' => ?_ | refine stc ?_); try simp only [go_sem, List.length_map, htl]) | (with_reducible first | refine stp ?_ | (refine hK' _ ?_; clear hK' K') | refine kN kl253 fun K hK => ?_ | refine kO fun K hK => ?_) | (refine xS rfl fun K' hK' => ?_; simp only [go_sem, List.length_map, htl]) | (refine qS rfl fun K' hK' => ?_; simp only [go_sem, List.length_map, htl]) | refine iB ?_ | (with_reducible refine pw_seq_drawK kl253 G_ok mixed (by kernel_rfl) (fun K hK => ?_)) | (with_reducible refine pw_draw G_ok mixed (by kernel_rfl) ?_) | (with_reducible refine pK_mk ?_ ?_ <;> (intro hc; (try simp only [go_sem, List.length_map, htl]); (try simp at hc); try (exfalso; omega))) | with_reducible refine And.intro (by first | omega | (unfold inI; omega)) ?_)
  all_goals first
    | (exfalso; omega)
    | skip
  refine pw_loop_over [4, 5, 7, 12, 13, 14, 15, 16, 17, 18, 19, 20, 21, 22, 23, 24, 25, 26, 27, 28, 29, 30, 31, 32, 33, 34, 35, 36, 37] (fun k : Nat => [(12, .d (.int .i64 (k : Int))), (5, .d (.int .i64 (cn (repP (name0 x)) (l.take k) : Nat)))]) (fun k : Nat => []) 0 (fun k : Nat => k ≤ n) (fun k : Nat => n - k) 0 (Nat.zero_le _) (fits_mk [] (by simp [renL_d, bdL_d, sg, over, wipe, wl, memN, ins, rm, lk, fitFr, fit1, ren, renL, bd, bdL, app, fitHp, hget, renB, bdB, List.take_zero, hcz] <;> omega)) ?_
  intro j hj
  have hcb := cn_take_le (repP (name0 x)) l j
  simp only [over, wipe, wl, memN, ins, rm, if_true, if_false, Nat.reduceEqDiff, Bool.false_eq_true, reduceCtorEq]
  by_cases hlt : j < n
  · have hy := List.getElem?_eq_getElem (show j < l.length by omega)
    generalize l[j] = y at hy
    have hyt : (List.take n (List.map ItemD.dat l))[j]? = some y.dat := by rw [List.getElem?_take, if_pos hlt, List.getElem?_map, hy]; rfl
    have hy0 := name0_get (hl.at_ hy)
    have hym := mark0_get (hl.at_ hy)
    have hyn := (hl.at_ hy).2.1
    have hyl := (hl.at_ hy).2.2.2.1
    by_cases hp : repP (name0 x) y = true
    · have hcy := cn_yes (p := repP (name0 x)) hy hp
      have hp2 := hp
      simp only [repP, Bool.and_eq_true, decide_eq_true_eq] at hp2
      obtain ⟨hp3, hp4⟩ := hp2
      have hd : decide (name0 y = name0 x) = true := decide_eq_true hp3
      generalize mark0 y = mk at hym hp4
      repeat' (first | ((with_reducible first | (refine hK _ ?_; clear hK K) | refine stq fun K' hK' => ?_ | refine stc ?_); try simp only [go_sem, List.getElem?_map, hyt, hx, hx0, hy0, hym, hd, Option.map_some, datS, datI, ItemD.dat, List.length_map]) | (with_reducible first | refine stp ?_ | (refine hK' _ ?_; clear hK' K') | refine kN kl253 fun K hK => ?_ | refine kO fun K hK => ?_) | (refine xS rfl fun K' hK' => ?_; simp only [go_sem, List.getElem?_map, hyt, hx, hx0, hy0, hym, hd, Option.map_some, datS, datI, ItemD.dat, List.length_map]) | (refine qS rfl fun K' hK' => ?_; simp only [go_sem, List.getElem?_map, hyt, hx, hx0, hy0, hym, hd, Option.map_some, datS, datI, ItemD.dat, List.length_map]) | refine iB ?_ | (with_reducible refine pw_seq_drawK kl253 G_ok mixed (by kernel_rfl) (fun K hK => ?_)) | (with_reducible refine pw_draw G_ok mixed (by kernel_rfl) ?_) | (with_reducible refine pK_mk ?_ ?_ <;> (intro hc; (try simp only [go_sem, List.getElem?_map, hyt, hx, hx0, hy0, hym, hd, Option.map_some, datS, datI, ItemD.dat, List.length_map]); (try simp at hc); try (exfalso; omega))) | with_reducible refine And.intro (by first | omega | (unfold inI; omega)) ?_)
      all_goals first
        | (exfalso; omega)
        | exact ⟨j + 1, by omega, by omega, (fits_mk [] (by simp [renL_d, bdL_d, sg, over, wipe, wl, memN, ins, rm, lk, fitFr, fit1, ren, renL, bd, bdL, app, fitHp, hget, renB, bdB, hcy] <;> omega))⟩
    · have hp : repP (name0 x) y = false := by simpa using hp
      have hcn := cn_no (p := repP (name0 x)) hy hp
      by_cases hp3 : name0 y = name0 x
      · have hd : decide (name0 y = name0 x) = true := decide_eq_true hp3
        have hp4 : mark0 y = 3 := by
          have := hp; simp [repP, hp3] at this; exact this
        rw [hp4] at hym
        repeat' (first | ((with_reducible first | (refine hK _ ?_; clear hK K) | refine stq fun K' hK' => ?_ | refine stc ?_); try simp only [go_sem, List.getElem?_map, hyt, hx, hx0, hy0, hym, hd, Option.map_some, datS, datI, ItemD.dat, List.length_map]) | (with_reducible first | refine stp ?_ | (refine hK' _ ?_; clear hK' K') | refine kN kl253 fun K hK => ?_ | refine kO fun K hK => ?_) | (refine xS rfl fun K' hK' => ?_; simp only [go_sem, List.getElem?_map, hyt, hx, hx0, hy0, hym, hd, Option.map_some, datS, datI, ItemD.dat, List.length_map]) | (refine qS rfl fun K' hK' => ?_; simp only [go_sem, List.getElem?_map, hyt, hx, hx0, hy0, hym, hd, Option.map_some, datS, datI, ItemD.dat, List.length_map]) | refine iB ?_ | (with_reducible refine pw_seq_drawK kl253 G_ok mixed (by kernel_rfl) (fun K hK => ?_)) | (with_reducible refine pw_draw G_ok mixed (by kernel_rfl) ?_) | (with_reducible refine pK_mk ?_ ?_ <;> (intro hc; (try simp only [go_sem, List.getElem?_map, hyt, hx, hx0, hy0, hym, hd, Option.map_some, datS, datI, ItemD.dat, List.length_map]); (try simp at hc); try (exfalso; omega))) | with_reducible refine And.intro (by first | omega | (unfold inI; omega)) ?_)
        all_goals first
          | (exfalso; omega)
          | exact ⟨j + 1, by omega, by omega, (fits_mk [] (by simp [renL_d, bdL_d, sg, over, wipe, wl, memN, ins, rm, lk, fitFr, fit1, ren, renL, bd, bdL, app, fitHp, hget, renB, bdB, hcn] <;> omega))⟩
      · have hd : decide (name0 y = name0 x) = false := decide_eq_false hp3
        repeat' (first | ((with_reducible first | (refine hK _ ?_; clear hK K) | refine stq fun K' hK' => ?_ | refine stc ?_); try simp only [go_sem, List.getElem?_map, hyt, hx, hx0, hy0, hym, hd, Option.map_some, datS, datI, ItemD.dat, List.length_map]) | (with_reducible first | refine stp ?_ | (refine hK' _ ?_; clear hK' K') | refine kN kl253 fun K hK => ?_ | refine kO fun K hK => ?_) | (refine xS rfl fun K' hK' => ?_; simp only [go_sem, List.getElem?_map, hyt, hx, hx0, hy0, hym, hd, Option.map_some, datS, datI, ItemD.dat, List.length_map]) | (refine qS rfl fun K' hK' => ?_; simp only [go_sem, List.getElem?_map, hyt, hx, hx0, hy0, hym, hd, Option.map_some, datS, datI, ItemD.dat, List.length_map]) | refine iB ?_ | (with_reducible refine pw_seq_drawK kl253 G_ok mixed (by kernel_rfl) (fun K hK => ?_)) | (with_reducible refine pw_draw G_ok mixed (by kernel_rfl) ?_) | (with_reducible refine pK_mk ?_ ?_ <;> (intro hc; (try simp only [go_sem, List.getElem?_map, hyt, hx, hx0, hy0, hym, hd, Option.map_some, datS, datI, ItemD.dat, List.length_map]); (try simp at hc); try (exfalso; omega))) | with_reducible refine And.intro (by first | omega | (unfold inI; omega)) ?_)
        all_goals first
          | (exfalso; omega)
          | exact ⟨j + 1, by omega, by omega, (fits_mk [] (by simp [renL_d, bdL_d, sg, over, wipe, wl, memN, ins, rm, lk, fitFr, fit1, ren, renL, bd, bdL, app, fitHp, hget, renB, bdB, hcn] <;> omega))⟩
  · have e : j = n := by omega
    subst e
    repeat' (first | ((with_reducible first | (refine hK _ ?_; clear hK K) | refine stq fun K' hK' => ?_ | refine stc ?_); try simp only [go_sem]) | (with_reducible first | refine stp ?_ | (refine hK' _ ?_; clear hK' K') | refine kN kl253 fun K hK => ?_ | refine kO fun K hK => ?_) | (refine xS rfl fun K' hK' => ?_; simp only [go_sem]) | (refine qS rfl fun K' hK' => ?_; simp only [go_sem]) | refine iB ?_ | (with_reducible refine pw_seq_drawK kl253 G_ok mixed (by kernel_rfl) (fun K hK => ?_)) | (with_reducible refine pw_draw G_ok mixed (by kernel_rfl) ?_) | (with_reducible refine pK_mk ?_ ?_ <;> (intro hc; (try simp only [go_sem]); (try simp at hc); try (exfalso; omega))) | with_reducible refine And.intro (by first | omega | (unfold inI; omega)) ?_)
    all_goals first
      | (exfalso; omega)
      | (refine retQ_ret rfl rfl (by simp [rowsOf, lk]) ?_; rfl)
end Go.Proofs.YtphakidbddamfaaGreat
