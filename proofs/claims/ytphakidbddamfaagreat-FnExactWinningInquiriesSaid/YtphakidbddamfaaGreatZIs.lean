/-
  Items: what the laws' helpers give (sizes, copies, comparisons), in the abstract machine; items opened as arguments.
-/
import Derived.Test.YtphakidbddamfaaGreatZAw
import Derived.Test.YtphakidbddamfaaGreatZMf
import Derived.Test.YtphakidbddamfaaGreatZIs0
set_option linter.unusedSimpArgs false
set_option linter.unusedVariables false
set_option maxHeartbeats 2000000
set_option maxRecDepth 100000
namespace Go.Proofs.YtphakidbddamfaaGreat
open Go.ChangeShapes Go.WideShapes Go.ChangeAt Go.RowKit Go.Deep

theorem szStringS_ok (l : List ByteArray) (hn : l.length ≤ 9223372036854775807) (hs : ∀ r ∈ l, r.size ≤ 9223372036854775807) (left : Int) (h0 : 0 ≤ left) (h1 : left ≤ 1048576) : FnEq Tryz.prog 155 [.d (.lst 1 (l.map datS)), .d (.int .i64 left)] [.d (.int .i64 (szOf left ((l.length + cntS l : Nat) : Int)))] := by
  refine fn_ok G_ok Tryz.func155 rfl rfl ?_; simp only [Tryz.ntmps155, List.length_cons, List.length_nil, Nat.reduceAdd, Nat.reduceSub, enm]
  repeat' (first | ((with_reducible first | (refine hK _ ?_; clear hK K) | refine stq fun K' hK' => ?_ | refine stc ?_); try simp only [go_sem]) | (with_reducible first | refine stp ?_ | (refine hK' _ ?_; clear hK' K') | refine kN kl155 fun K hK => ?_ | refine kO fun K hK => ?_) | refine iB ?_ | (with_reducible refine pK_mk ?_ ?_ <;> (intro hc; (try simp only [go_sem]); (try simp at hc); try (exfalso; omega))) | with_reducible refine And.intro (by first | omega | (unfold inI; omega)) ?_)
  · refine retQ_ret rfl rfl (by simp [rowsOf, lk]) ?_; rw [szOf_lt (by omega)]
  · refine pw_loop_over [1, 4, 5, 12, 13, 14, 15, 16, 17, 18, 19, 20, 21, 22, 23, 24, 25, 26] (fun k : Nat => [(5, .d (.int .i64 (k : Int))), (1, .d (.int .i64 (left - ((l.length + cntS (l.take k) : Nat) : Int))))]) (fun k : Nat => []) 0 (fun k : Nat => k ≤ l.length ∧ ((l.length + cntS (l.take k) : Nat) : Int) ≤ left) (fun k : Nat => l.length - k) 0 ⟨Nat.zero_le _, by simp [cntS]; omega⟩ (fits_mk [] (by simp [renL_d, bdL_d, sg, over, wipe, wl, memN, ins, rm, lk, fitFr, fit1, ren, renL, bd, bdL, app, fitHp, hget, renB, bdB, cntS] <;> omega)) ?_
    rintro k ⟨hk, hJ⟩
    have hct := cntS_take l k
    have hct1 := cntS_take l (k + 1)
    simp only [over, wipe, wl, memN, ins, rm, if_true, if_false, Nat.reduceEqDiff, Bool.false_eq_true, reduceCtorEq]
    by_cases hlt : k < l.length
    · have hx := List.getElem?_eq_getElem hlt
      generalize l[k] = x at hx
      have hxs := hs x (List.mem_of_getElem? hx)
      have hc1 := cntS_succ hx
      by_cases hle : (x.size : Int) ≤ left - ((l.length + cntS (l.take k) : Nat) : Int)
      · repeat' (first | ((with_reducible first | (refine hK _ ?_; clear hK K) | refine stq fun K' hK' => ?_ | refine stc ?_); try simp only [go_sem, List.getElem?_map, hx, Option.map_some, datS]) | (with_reducible first | refine stp ?_ | (refine hK' _ ?_; clear hK' K') | refine kN kl155 fun K hK => ?_ | refine kO fun K hK => ?_) | refine iB ?_ | (with_reducible refine pK_mk ?_ ?_ <;> (intro hc; (try simp only [go_sem, List.getElem?_map, hx, Option.map_some, datS]); (try simp at hc); try (exfalso; omega))) | with_reducible refine And.intro (by first | omega | (unfold inI; omega)) ?_)
        all_goals first
          | (exfalso; omega)
          | exact ⟨k + 1, ⟨by omega, by omega⟩, by omega, (fits_mk [] (by simp [renL_d, bdL_d, sg, over, wipe, wl, memN, ins, rm, lk, fitFr, fit1, ren, renL, bd, bdL, app, fitHp, hget, renB, bdB, hc1] <;> omega))⟩
      · repeat' (first | ((with_reducible first | (refine hK _ ?_; clear hK K) | refine stq fun K' hK' => ?_ | refine stc ?_); try simp only [go_sem, List.getElem?_map, hx, Option.map_some, datS]) | (with_reducible first | refine stp ?_ | (refine hK' _ ?_; clear hK' K') | refine kN kl155 fun K hK => ?_ | refine kO fun K hK => ?_) | refine iB ?_ | (with_reducible refine pK_mk ?_ ?_ <;> (intro hc; (try simp only [go_sem, List.getElem?_map, hx, Option.map_some, datS]); (try simp at hc); try (exfalso; omega))) | with_reducible refine And.intro (by first | omega | (unfold inI; omega)) ?_)
        all_goals first
          | (exfalso; omega)
          | (refine retQ_ret rfl rfl (by simp [rowsOf, lk]) ?_; rw [szOf_lt (by omega)])
    · have e : l.take k = l := List.take_of_length_le (by omega)
      repeat' (first | ((with_reducible first | (refine hK _ ?_; clear hK K) | refine stq fun K' hK' => ?_ | refine stc ?_); try simp only [go_sem, e]) | (with_reducible first | refine stp ?_ | (refine hK' _ ?_; clear hK' K') | refine kN kl155 fun K hK => ?_ | refine kO fun K hK => ?_) | refine iB ?_ | (with_reducible refine pK_mk ?_ ?_ <;> (intro hc; (try simp only [go_sem, e]); (try simp at hc); try (exfalso; omega))) | with_reducible refine And.intro (by first | omega | (unfold inI; omega)) ?_)
      refine retQ_ret rfl rfl (by simp [rowsOf, lk]) ?_; rw [e] at hJ; rw [szOf_ge hJ]
theorem szItem_ok (r : ItemD) (hf : ItFit 9223372036854775807 r) (left : Int) (h0 : 0 ≤ left) (h1 : left ≤ 1048576) : FnEq Tryz.prog 117 [.agg [.d (.lst 1 (r.names.map datS)), .d (.lst 1 (r.marks.map datI)), .d (.bool r.late)], .d (.int .i64 left)] [.d (.int .i64 (szOf left (cntI1 r)))] := by
  obtain ⟨hf1, hf2, hf3⟩ := hf
  refine fn_ok G_ok Tryz.func117 rfl rfl ?_; simp only [Tryz.ntmps117, List.length_cons, List.length_nil, Nat.reduceAdd, Nat.reduceSub, enm]
  have hc : cntI1 r = r.names.length + cntS r.names + r.marks.length := rfl
  by_cases hle : ((r.names.length + cntS r.names : Nat) : Int) ≤ left
  · have hz := szOf_ge hle
    by_cases hle2 : (r.marks.length : Int) ≤ left - ((r.names.length + cntS r.names : Nat) : Int)
    · have hz2 := szOf_ge hle2
      have hz3 := szOf_ge (left := left) (n := (cntI1 r : Int)) (by omega)
      repeat' (first | ((with_reducible first | (refine hK _ ?_; clear hK K) | refine stq fun K' hK' => ?_ | refine stc ?_); try simp only [go_sem, hz, hz2]) | (with_reducible first | refine stp ?_ | (refine hK' _ ?_; clear hK' K') | refine kN kl117 fun K hK => ?_ | refine kO fun K hK => ?_) | ((with_reducible apply CallK.eq); (· with_reducible first | exact szStringS_ok r.names hf1 hf2 _ (by omega) (by omega) | exact szIntS_ok r.marks hf3 _ (by omega) (by omega)); (· simp [RV.flat, D.sc, datI]); try simp only [go_sem, hz, hz2]) | (with_reducible refine pK_mk ?_ ?_ <;> (intro hc; (try simp only [go_sem, hz, hz2]); (try simp at hc); try (exfalso; omega))) | with_reducible refine And.intro (by first | omega | (unfold inI; omega)) ?_)
      all_goals first
        | (exfalso; omega)
        | (refine retQ_ret rfl rfl (by simp [rowsOf, lk]) ?_; rw [hz3]; congr 3; omega)
    · have hz2 := szOf_lt (left := left - ((r.names.length + cntS r.names : Nat) : Int)) (n := (r.marks.length : Int)) (by omega)
      have hz3 := szOf_lt (left := left) (n := (cntI1 r : Int)) (by omega)
      repeat' (first | ((with_reducible first | (refine hK _ ?_; clear hK K) | refine stq fun K' hK' => ?_ | refine stc ?_); try simp only [go_sem, hz, hz2]) | (with_reducible first | refine stp ?_ | (refine hK' _ ?_; clear hK' K') | refine kN kl117 fun K hK => ?_ | refine kO fun K hK => ?_) | ((with_reducible apply CallK.eq); (· with_reducible first | exact szStringS_ok r.names hf1 hf2 _ (by omega) (by omega) | exact szIntS_ok r.marks hf3 _ (by omega) (by omega)); (· simp [RV.flat, D.sc, datI]); try simp only [go_sem, hz, hz2]) | (with_reducible refine pK_mk ?_ ?_ <;> (intro hc; (try simp only [go_sem, hz, hz2]); (try simp at hc); try (exfalso; omega))) | with_reducible refine And.intro (by first | omega | (unfold inI; omega)) ?_)
      all_goals (refine retQ_ret rfl rfl (by simp [rowsOf, lk]) ?_; rw [hz3])
  · have hz := szOf_lt (left := left) (n := ((r.names.length + cntS r.names : Nat) : Int)) (by omega)
    have hz3 := szOf_lt (left := left) (n := (cntI1 r : Int)) (by omega)
    repeat' (first | ((with_reducible first | (refine hK _ ?_; clear hK K) | refine stq fun K' hK' => ?_ | refine stc ?_); try simp only [go_sem, hz]) | (with_reducible first | refine stp ?_ | (refine hK' _ ?_; clear hK' K') | refine kN kl117 fun K hK => ?_ | refine kO fun K hK => ?_) | ((with_reducible apply CallK.eq); (· with_reducible first | exact szStringS_ok r.names hf1 hf2 _ (by omega) (by omega)); (· simp [RV.flat, D.sc, datI]); try simp only [go_sem, hz]) | (with_reducible refine pK_mk ?_ ?_ <;> (intro hc; (try simp only [go_sem, hz]); (try simp at hc); try (exfalso; omega))) | with_reducible refine And.intro (by first | omega | (unfold inI; omega)) ?_)
    all_goals (refine retQ_ret rfl rfl (by simp [rowsOf, lk]) ?_; rw [hz3])
theorem szItemS_ok (l : List ItemD) (hn : l.length ≤ 9223372036854775807) (hs : ∀ r ∈ l, ItFit 9223372036854775807 r) (left : Int) (h0 : 0 ≤ left) (h1 : left ≤ 1048576) : FnEq Tryz.prog 61 [.d (.lst 3 (l.map ItemD.dat)), .d (.int .i64 left)] [.d (.int .i64 (szOf left ((l.length + cntI l : Nat) : Int)))] := by
  refine fn_ok G_ok Tryz.func61 rfl rfl ?_; simp only [Tryz.ntmps61, List.length_cons, List.length_nil, Nat.reduceAdd, Nat.reduceSub, enm]
  repeat' (first | ((with_reducible first | (refine hK _ ?_; clear hK K) | refine stq fun K' hK' => ?_ | refine stc ?_); try simp only [go_sem]) | (with_reducible first | refine stp ?_ | (refine hK' _ ?_; clear hK' K') | refine kN kl61 fun K hK => ?_ | refine kO fun K hK => ?_) | refine iB ?_ | (with_reducible refine pK_mk ?_ ?_ <;> (intro hc; (try simp only [go_sem]); (try simp at hc); try (exfalso; omega))) | with_reducible refine And.intro (by first | omega | (unfold inI; omega)) ?_)
  · refine retQ_ret rfl rfl (by simp [rowsOf, lk]) ?_; rw [szOf_lt (by omega)]
  · refine pw_loop_over [1, 4, 5, 12, 13, 14, 15, 16, 17, 18, 19, 20, 21, 22, 23, 24, 25] (fun k : Nat => [(5, .d (.int .i64 (k : Int))), (1, .d (.int .i64 (left - ((l.length + cntI (l.take k) : Nat) : Int))))]) (fun k : Nat => []) 0 (fun k : Nat => k ≤ l.length ∧ ((l.length + cntI (l.take k) : Nat) : Int) ≤ left) (fun k : Nat => l.length - k) 0 ⟨Nat.zero_le _, by simp [cntI]; omega⟩ (fits_mk [] (by simp [renL_d, bdL_d, sg, over, wipe, wl, memN, ins, rm, lk, fitFr, fit1, ren, renL, bd, bdL, app, fitHp, hget, renB, bdB, cntI] <;> omega)) ?_
    rintro k ⟨hk, hJ⟩
    have hct := cntI_take l k
    have hct1 := cntI_take l (k + 1)
    simp only [over, wipe, wl, memN, ins, rm, if_true, if_false, Nat.reduceEqDiff, Bool.false_eq_true, reduceCtorEq]
    by_cases hlt : k < l.length
    · have hx := List.getElem?_eq_getElem hlt
      generalize l[k] = x at hx
      have hxs := hs x (List.mem_of_getElem? hx)
      have hc1 := cntI_succ hx
      by_cases hle : (cntI1 x : Int) ≤ left - ((l.length + cntI (l.take k) : Nat) : Int)
      · have hz := szOf_ge hle
        repeat' (first | ((with_reducible first | (refine hK _ ?_; clear hK K) | refine stq fun K' hK' => ?_ | refine stc ?_); try simp only [go_sem, List.getElem?_map, hx, Option.map_some, ItemD.dat, hz]) | (with_reducible first | refine stp ?_ | (refine hK' _ ?_; clear hK' K') | refine kN kl61 fun K hK => ?_ | refine kO fun K hK => ?_) | ((with_reducible apply CallK.eq); (· with_reducible first | exact szItem_ok x hxs _ (by omega) (by omega)); (· simp [RV.flat, D.sc, datI]); try simp only [go_sem, List.getElem?_map, hx, Option.map_some, ItemD.dat, hz]) | refine iB ?_ | (with_reducible refine pK_mk ?_ ?_ <;> (intro hc; (try simp only [go_sem, List.getElem?_map, hx, Option.map_some, ItemD.dat, hz]); (try simp at hc); try (exfalso; omega))) | with_reducible refine And.intro (by first | omega | (unfold inI; omega)) ?_)
        all_goals exact ⟨k + 1, ⟨by omega, by omega⟩, by omega, (fits_mk [] (by simp [renL_d, bdL_d, sg, over, wipe, wl, memN, ins, rm, lk, fitFr, fit1, ren, renL, bd, bdL, app, fitHp, hget, renB, bdB, hc1] <;> omega))⟩
      · have hz := szOf_lt (left := left - ((l.length + cntI (l.take k) : Nat) : Int)) (n := (cntI1 x : Int)) (by omega)
        repeat' (first | ((with_reducible first | (refine hK _ ?_; clear hK K) | refine stq fun K' hK' => ?_ | refine stc ?_); try simp only [go_sem, List.getElem?_map, hx, Option.map_some, ItemD.dat, hz]) | (with_reducible first | refine stp ?_ | (refine hK' _ ?_; clear hK' K') | refine kN kl61 fun K hK => ?_ | refine kO fun K hK => ?_) | ((with_reducible apply CallK.eq); (· with_reducible first | exact szItem_ok x hxs _ (by omega) (by omega)); (· simp [RV.flat, D.sc, datI]); try simp only [go_sem, List.getElem?_map, hx, Option.map_some, ItemD.dat, hz]) | refine iB ?_ | (with_reducible refine pK_mk ?_ ?_ <;> (intro hc; (try simp only [go_sem, List.getElem?_map, hx, Option.map_some, ItemD.dat, hz]); (try simp at hc); try (exfalso; omega))) | with_reducible refine And.intro (by first | omega | (unfold inI; omega)) ?_)
        all_goals (refine retQ_ret rfl rfl (by simp [rowsOf, lk]) ?_; rw [szOf_lt (by omega)])
    · have e : l.take k = l := List.take_of_length_le (by omega)
      repeat' (first | ((with_reducible first | (refine hK _ ?_; clear hK K) | refine stq fun K' hK' => ?_ | refine stc ?_); try simp only [go_sem, e]) | (with_reducible first | refine stp ?_ | (refine hK' _ ?_; clear hK' K') | refine kN kl61 fun K hK => ?_ | refine kO fun K hK => ?_) | refine iB ?_ | (with_reducible refine pK_mk ?_ ?_ <;> (intro hc; (try simp only [go_sem, e]); (try simp at hc); try (exfalso; omega))) | with_reducible refine And.intro (by first | omega | (unfold inI; omega)) ?_)
      refine retQ_ret rfl rfl (by simp [rowsOf, lk]) ?_; rw [e] at hJ; rw [szOf_ge hJ]
theorem eqStringS_ok (xs ys : List ByteArray) (hn : xs.length ≤ 1048576) (hn' : ys.length ≤ 9223372036854775807) : FnEq Tryz.prog 167 [.d (.lst 1 (xs.map datS)), .d (.lst 1 (ys.map datS))] [.d (.bool (bP (xs = ys)))] := by
  refine fn_ok G_ok Tryz.func167 rfl rfl ?_; simp only [Tryz.ntmps167, List.length_cons, List.length_nil, Nat.reduceAdd, Nat.reduceSub, enm]
  repeat' (first | ((with_reducible first | (refine hK _ ?_; clear hK K) | refine stq fun K' hK' => ?_ | refine stc ?_); try simp only [go_sem]) | (with_reducible first | refine stp ?_ | (refine hK' _ ?_; clear hK' K') | refine kN kl167 fun K hK => ?_ | refine kO fun K hK => ?_) | refine iB ?_ | (with_reducible refine pw_seq_drawK kl167 G_ok mixed (by kernel_rfl) (fun K hK => ?_)) | (with_reducible refine pw_draw G_ok mixed (by kernel_rfl) ?_) | (with_reducible refine pK_mk ?_ ?_ <;> (intro hc; (try simp only [go_sem]); (try simp at hc); try (exfalso; omega))) | with_reducible refine And.intro (by first | omega | (unfold inI; omega)) ?_)
  · refine retQ_ret rfl rfl (by simp [rowsOf, lk]) ?_; rw [bP_false fun h => absurd (congrArg List.length h) (by omega)]
  · refine pw_loop_over [4, 5, 11, 12, 13, 14, 15, 16, 17, 18, 19, 20, 21, 22, 23, 24, 25] (fun k : Nat => [(5, .d (.int .i64 (k : Int)))]) (fun k : Nat => []) 0 (fun k : Nat => k ≤ xs.length ∧ xs.take k = ys.take k) (fun k : Nat => xs.length - k) 0 ⟨Nat.zero_le _, by simp⟩ (fits_mk [] (by simp [renL_d, bdL_d, sg, over, wipe, wl, memN, ins, rm, lk, fitFr, fit1, ren, renL, bd, bdL, app, fitHp, hget, renB, bdB] <;> omega)) ?_
    rintro k ⟨hk, hJ⟩
    simp only [over, wipe, wl, memN, ins, rm, if_true, if_false, Nat.reduceEqDiff, Bool.false_eq_true, reduceCtorEq]
    by_cases hlt : k < xs.length
    · have hx := List.getElem?_eq_getElem hlt
      generalize xs[k] = x at hx
      have hy := List.getElem?_eq_getElem (show k < ys.length by omega)
      generalize ys[k] = y at hy
      repeat' (first | ((with_reducible first | (refine hK _ ?_; clear hK K) | refine stq fun K' hK' => ?_ | refine stc ?_); try simp only [go_sem, List.getElem?_map, hx, hy, Option.map_some, datS]) | (with_reducible first | refine stp ?_ | (refine hK' _ ?_; clear hK' K') | refine kN kl167 fun K hK => ?_ | refine kO fun K hK => ?_) | refine iB ?_ | (with_reducible refine pw_seq_drawK kl167 G_ok mixed (by kernel_rfl) (fun K hK => ?_)) | (with_reducible refine pw_draw G_ok mixed (by kernel_rfl) ?_) | (with_reducible refine pK_mk ?_ ?_ <;> (intro hc; (try simp only [go_sem, List.getElem?_map, hx, hy, Option.map_some, datS]); (try simp at hc); try (exfalso; omega))) | with_reducible refine And.intro (by first | omega | (unfold inI; omega)) ?_)
      all_goals first
        | (refine retQ_ret rfl rfl (by simp [rowsOf, lk]) ?_; rw [bP_false fun h => by rw [h, hy] at hx; simp_all])
        | exact ⟨k + 1, ⟨by omega, by rw [take_snoc hx, take_snoc hy, hJ]; simp_all⟩, by omega, (fits_mk [] (by simp [renL_d, bdL_d, sg, over, wipe, wl, memN, ins, rm, lk, fitFr, fit1, ren, renL, bd, bdL, app, fitHp, hget, renB, bdB] <;> omega))⟩
    · repeat' (first | ((with_reducible first | (refine hK _ ?_; clear hK K) | refine stq fun K' hK' => ?_ | refine stc ?_); try simp only [go_sem]) | (with_reducible first | refine stp ?_ | (refine hK' _ ?_; clear hK' K') | refine kN kl167 fun K hK => ?_ | refine kO fun K hK => ?_) | refine iB ?_ | (with_reducible refine pw_seq_drawK kl167 G_ok mixed (by kernel_rfl) (fun K hK => ?_)) | (with_reducible refine pw_draw G_ok mixed (by kernel_rfl) ?_) | (with_reducible refine pK_mk ?_ ?_ <;> (intro hc; (try simp only [go_sem]); (try simp at hc); try (exfalso; omega))) | with_reducible refine And.intro (by first | omega | (unfold inI; omega)) ?_)
      refine retQ_ret rfl rfl (by simp [rowsOf, lk]) ?_; rw [bP_true (by rwa [List.take_of_length_le (by omega), List.take_of_length_le (by omega)] at hJ)]
theorem eqItem_ok (x y : ItemD) (hf : ItFit 1048576 x) (hf' : ItFit 9223372036854775807 y) : FnEq Tryz.prog 131 [.agg [.d (.lst 1 (x.names.map datS)), .d (.lst 1 (x.marks.map datI)), .d (.bool x.late)], .agg [.d (.lst 1 (y.names.map datS)), .d (.lst 1 (y.marks.map datI)), .d (.bool y.late)]] [.d (.bool (bP (x = y)))] := by
  obtain ⟨hf1, hf2, hf3⟩ := hf
  obtain ⟨hg1, hg2, hg3⟩ := hf'
  refine fn_ok G_ok Tryz.func131 rfl rfl ?_; simp only [Tryz.ntmps131, List.length_cons, List.length_nil, Nat.reduceAdd, Nat.reduceSub, enm]
  by_cases h1 : x.names = y.names
  · have b1 := bP_true h1
    by_cases h2 : x.marks = y.marks
    · have b2 := bP_true h2
      by_cases h3 : x.late = y.late
      · have e3 : (x.late != y.late) = false := by simp [h3]
        repeat' (first | ((with_reducible first | (refine hK _ ?_; clear hK K) | refine stq fun K' hK' => ?_ | refine stc ?_); try simp only [go_sem, b1, b2, e3]) | (with_reducible first | refine stp ?_ | (refine hK' _ ?_; clear hK' K') | refine kN kl131 fun K hK => ?_ | refine kO fun K hK => ?_) | ((with_reducible apply CallK.eq); (· with_reducible first | exact eqStringS_ok x.names y.names hf1 hg1 | exact eqIntS_ok x.marks y.marks hf3 hg3); (· simp [RV.flat, D.sc, datI]); try simp only [go_sem, b1, b2, e3]) | (with_reducible refine pK_mk ?_ ?_ <;> (intro hc; (try simp only [go_sem, b1, b2, e3]); (try simp at hc); try (exfalso; omega))) | with_reducible refine And.intro (by first | omega | (unfold inI; omega)) ?_)
        all_goals first
          | (exact absurd h3 (by assumption))
          | (refine retQ_ret rfl rfl (by simp [rowsOf, lk]) ?_; rw [bP_true (ItemD.ext3 h1 h2 h3)])
      · have e3 : (x.late != y.late) = true := by simp [h3]
        repeat' (first | ((with_reducible first | (refine hK _ ?_; clear hK K) | refine stq fun K' hK' => ?_ | refine stc ?_); try simp only [go_sem, b1, b2, e3]) | (with_reducible first | refine stp ?_ | (refine hK' _ ?_; clear hK' K') | refine kN kl131 fun K hK => ?_ | refine kO fun K hK => ?_) | ((with_reducible apply CallK.eq); (· with_reducible first | exact eqStringS_ok x.names y.names hf1 hg1 | exact eqIntS_ok x.marks y.marks hf3 hg3); (· simp [RV.flat, D.sc, datI]); try simp only [go_sem, b1, b2, e3]) | (with_reducible refine pK_mk ?_ ?_ <;> (intro hc; (try simp only [go_sem, b1, b2, e3]); (try simp at hc); try (exfalso; omega))) | with_reducible refine And.intro (by first | omega | (unfold inI; omega)) ?_)
        all_goals first
          | (exact absurd (by assumption) h3)
          | (refine retQ_ret rfl rfl (by simp [rowsOf, lk]) ?_; rw [bP_false fun h => h3 (by rw [h])])
    · have b2 := bP_false h2
      repeat' (first | ((with_reducible first | (refine hK _ ?_; clear hK K) | refine stq fun K' hK' => ?_ | refine stc ?_); try simp only [go_sem, b1, b2]) | (with_reducible first | refine stp ?_ | (refine hK' _ ?_; clear hK' K') | refine kN kl131 fun K hK => ?_ | refine kO fun K hK => ?_) | ((with_reducible apply CallK.eq); (· with_reducible first | exact eqStringS_ok x.names y.names hf1 hg1 | exact eqIntS_ok x.marks y.marks hf3 hg3); (· simp [RV.flat, D.sc, datI]); try simp only [go_sem, b1, b2]) | (with_reducible refine pK_mk ?_ ?_ <;> (intro hc; (try simp only [go_sem, b1, b2]); (try simp at hc); try (exfalso; omega))) | with_reducible refine And.intro (by first | omega | (unfold inI; omega)) ?_)
      all_goals (refine retQ_ret rfl rfl (by simp [rowsOf, lk]) ?_; rw [bP_false fun h => h2 (by rw [h])])
  · have b1 := bP_false h1
    repeat' (first | ((with_reducible first | (refine hK _ ?_; clear hK K) | refine stq fun K' hK' => ?_ | refine stc ?_); try simp only [go_sem, b1]) | (with_reducible first | refine stp ?_ | (refine hK' _ ?_; clear hK' K') | refine kN kl131 fun K hK => ?_ | refine kO fun K hK => ?_) | ((with_reducible apply CallK.eq); (· with_reducible first | exact eqStringS_ok x.names y.names hf1 hg1); (· simp [RV.flat, D.sc, datI]); try simp only [go_sem, b1]) | (with_reducible refine pK_mk ?_ ?_ <;> (intro hc; (try simp only [go_sem, b1]); (try simp at hc); try (exfalso; omega))) | with_reducible refine And.intro (by first | omega | (unfold inI; omega)) ?_)
    all_goals (refine retQ_ret rfl rfl (by simp [rowsOf, lk]) ?_; rw [bP_false fun h => h1 (by rw [h])])
theorem eqItemS_ok (xs ys : List ItemD) (hn : xs.length ≤ 1048576) (hn' : ys.length ≤ 9223372036854775807) (hs : ∀ r ∈ xs, ItFit 1048576 r) (hs' : ∀ r ∈ ys, ItFit 9223372036854775807 r) : FnEq Tryz.prog 79 [.d (.lst 3 (xs.map ItemD.dat)), .d (.lst 3 (ys.map ItemD.dat))] [.d (.bool (bP (xs = ys)))] := by
  refine fn_ok G_ok Tryz.func79 rfl rfl ?_; simp only [Tryz.ntmps79, List.length_cons, List.length_nil, Nat.reduceAdd, Nat.reduceSub, enm]
  repeat' (first | ((with_reducible first | (refine hK _ ?_; clear hK K) | refine stq fun K' hK' => ?_ | refine stc ?_); try simp only [go_sem]) | (with_reducible first | refine stp ?_ | (refine hK' _ ?_; clear hK' K') | refine kN kl79 fun K hK => ?_ | refine kO fun K hK => ?_) | refine iB ?_ | (with_reducible refine pw_seq_drawK kl79 G_ok mixed (by kernel_rfl) (fun K hK => ?_)) | (with_reducible refine pw_draw G_ok mixed (by kernel_rfl) ?_) | (with_reducible refine pK_mk ?_ ?_ <;> (intro hc; (try simp only [go_sem]); (try simp at hc); try (exfalso; omega))) | with_reducible refine And.intro (by first | omega | (unfold inI; omega)) ?_)
  · refine retQ_ret rfl rfl (by simp [rowsOf, lk]) ?_; rw [bP_false fun h => absurd (congrArg List.length h) (by omega)]
  · refine pw_loop_over [4, 5, 11, 12, 13, 14, 15, 16, 17, 18, 19, 20, 21, 22, 23, 24, 25, 26] (fun k : Nat => [(5, .d (.int .i64 (k : Int)))]) (fun k : Nat => []) 0 (fun k : Nat => k ≤ xs.length ∧ xs.take k = ys.take k) (fun k : Nat => xs.length - k) 0 ⟨Nat.zero_le _, by simp⟩ (fits_mk [] (by simp [renL_d, bdL_d, sg, over, wipe, wl, memN, ins, rm, lk, fitFr, fit1, ren, renL, bd, bdL, app, fitHp, hget, renB, bdB] <;> omega)) ?_
    rintro k ⟨hk, hJ⟩
    simp only [over, wipe, wl, memN, ins, rm, if_true, if_false, Nat.reduceEqDiff, Bool.false_eq_true, reduceCtorEq]
    by_cases hlt : k < xs.length
    · have hx := List.getElem?_eq_getElem hlt
      generalize xs[k] = x at hx
      have hy := List.getElem?_eq_getElem (show k < ys.length by omega)
      generalize ys[k] = y at hy
      repeat' (first | ((with_reducible first | (refine hK _ ?_; clear hK K) | refine stq fun K' hK' => ?_ | refine stc ?_); try simp only [go_sem, List.getElem?_map, hx, hy, Option.map_some, ItemD.dat]) | (with_reducible first | refine stp ?_ | (refine hK' _ ?_; clear hK' K') | refine kN kl79 fun K hK => ?_ | refine kO fun K hK => ?_) | ((with_reducible first | apply CallK.eq | apply CallQ.eqs); (· with_reducible first | exact eqItem_ok x y (hs x (List.mem_of_getElem? hx)) (hs' y (List.mem_of_getElem? hy))); (· first | exact rfl | (simp [RV.flat, D.sc, datI]; done)); try simp only [go_sem, List.getElem?_map, hx, hy, Option.map_some, ItemD.dat]) | refine iB ?_ | (with_reducible refine pw_seq_drawK kl79 G_ok mixed (by kernel_rfl) (fun K hK => ?_)) | (with_reducible refine pw_draw G_ok mixed (by kernel_rfl) ?_) | (with_reducible refine pK_mk ?_ ?_ <;> (intro hc; (try simp only [go_sem, List.getElem?_map, hx, hy, Option.map_some, ItemD.dat]); (try simp at hc); try (exfalso; omega))) | with_reducible refine And.intro (by first | omega | (unfold inI; omega)) ?_)
      · refine retQ_ret rfl rfl (by simp [rowsOf, lk]) ?_; rw [bP_false fun h => by rw [h, hy] at hx; exact not_bP (show bP (x = y) = false by assumption) (Option.some.inj hx).symm]
      · exact ⟨k + 1, ⟨by omega, by rw [take_snoc hx, take_snoc hy, hJ, of_bP (show bP (x = y) = true by assumption)]⟩, by omega, (fits_mk [] (by simp [renL_d, bdL_d, sg, over, wipe, wl, memN, ins, rm, lk, fitFr, fit1, ren, renL, bd, bdL, app, fitHp, hget, renB, bdB] <;> omega))⟩
    · repeat' (first | ((with_reducible first | (refine hK _ ?_; clear hK K) | refine stq fun K' hK' => ?_ | refine stc ?_); try simp only [go_sem]) | (with_reducible first | refine stp ?_ | (refine hK' _ ?_; clear hK' K') | refine kN kl79 fun K hK => ?_ | refine kO fun K hK => ?_) | refine iB ?_ | (with_reducible refine pw_seq_drawK kl79 G_ok mixed (by kernel_rfl) (fun K hK => ?_)) | (with_reducible refine pw_draw G_ok mixed (by kernel_rfl) ?_) | (with_reducible refine pK_mk ?_ ?_ <;> (intro hc; (try simp only [go_sem]); (try simp at hc); try (exfalso; omega))) | with_reducible refine And.intro (by first | omega | (unfold inI; omega)) ?_)
      refine retQ_ret rfl rfl (by simp [rowsOf, lk]) ?_; rw [bP_true (by rwa [List.take_of_length_le (by omega), List.take_of_length_le (by omega)] at hJ)]
theorem flatE_datS (xs : List ByteArray) : flatE (xs.map datS) := by
  intro e he d hd
  obtain ⟨x, _, rfl⟩ := List.mem_map.1 he
  rw [show datS x = [.str x] from rfl, List.mem_singleton] at hd
  subst hd
  simp [D.sc]
theorem toStringS_ok (xs : List ByteArray) (hn : xs.length ≤ 1048576) : FnEq Tryz.prog 162 [.d (.lst 1 (xs.map datS))] [.row 9 1 (xs.map datS)] := by
  refine fn_ok G_ok Tryz.func162 rfl rfl ?_; simp only [Tryz.ntmps162, List.length_cons, List.length_nil, Nat.reduceAdd, Nat.reduceSub, enm]
  repeat' (first | ((with_reducible first | (refine hK _ ?_; clear hK K) | refine stq fun K' hK' => ?_ | refine stc ?_); try simp only [go_sem]) | (with_reducible first | refine stp ?_ | (refine hK' _ ?_; clear hK' K') | refine kN kl162 fun K hK => ?_ | refine kO fun K hK => ?_) | refine iB ?_ | (with_reducible refine pK_mk ?_ ?_ <;> (intro hc; (try simp only [go_sem]); (try simp at hc); try (exfalso; omega))) | with_reducible refine And.intro (by first | omega | (unfold inI; omega)) ?_)
  refine pw_loop_over [2, 4, 8, 9, 10, 11, 12, 13, 14, 15, 16, 17, 18, 19, 20] (fun k : Nat => [(4, .d (.int .i64 (k : Int))), (3, .row 0 xs.length)]) (fun k : Nat => [(0, .row 9 1 ((fillTo (⟨#[]⟩ : ByteArray) xs k).map datS))]) 1 (fun k : Nat => k ≤ xs.length) (fun k : Nat => xs.length - k) 0 (Nat.zero_le _) (fits_mk [] (by simp [renL_d, bdL_d, sg, over, wipe, wl, memN, ins, rm, lk, fitFr, fit1, ren, renL, bd, bdL, app, fitHp, hget, renB, bdB, fillTo_zero, datS] <;> omega)) ?_
  intro k hk
  have hL := fillTo_len (⟨#[]⟩ : ByteArray) xs k hk
  simp only [over, wipe, wl, memN, ins, rm, if_true, if_false, Nat.reduceEqDiff, Bool.false_eq_true, reduceCtorEq]
  by_cases hlt : k < xs.length
  · have hx := List.getElem?_eq_getElem hlt
    generalize xs[k] = x at hx
    have hg := fillTo_get (⟨#[]⟩ : ByteArray) hlt
    have hset : List.set ((fillTo (⟨#[]⟩ : ByteArray) xs k).map datS) k [.str x] = (fillTo (⟨#[]⟩ : ByteArray) xs (k + 1)).map datS := by rw [← fillTo_set (⟨#[]⟩ : ByteArray) hx, List.map_set]; rfl
    repeat' (first | ((with_reducible first | (refine hK _ ?_; clear hK K) | refine stq fun K' hK' => ?_ | refine stc ?_); try simp only [go_sem, List.getElem?_map, hx, hg, Option.map_some, datS, hlt]) | (with_reducible first | refine stp ?_ | (refine hK' _ ?_; clear hK' K') | refine kN kl162 fun K hK => ?_ | refine kO fun K hK => ?_) | refine iB ?_ | (with_reducible refine pK_mk ?_ ?_ <;> (intro hc; (try simp only [go_sem, List.getElem?_map, hx, hg, Option.map_some, datS, hlt]); (try simp at hc); try (exfalso; omega))) | with_reducible refine And.intro (by first | omega | (unfold inI; omega)) ?_)
    exact ⟨k + 1, by omega, by omega, (fits_mk [] (by simp [renL_d, bdL_d, sg, over, wipe, wl, memN, ins, rm, lk, fitFr, fit1, ren, renL, bd, bdL, app, fitHp, hget, renB, bdB, hset] <;> omega))⟩
  · have e : k = xs.length := by omega
    subst e
    rw [fillTo_end]
    repeat' (first | ((with_reducible first | (refine hK _ ?_; clear hK K) | refine stq fun K' hK' => ?_ | refine stc ?_); try simp only [go_sem]) | (with_reducible first | refine stp ?_ | (refine hK' _ ?_; clear hK' K') | refine kN kl162 fun K hK => ?_ | refine kO fun K hK => ?_) | refine iB ?_ | (with_reducible refine pK_mk ?_ ?_ <;> (intro hc; (try simp only [go_sem]); (try simp at hc); try (exfalso; omega))) | with_reducible refine And.intro (by first | omega | (unfold inI; omega)) ?_)
    refine retQ_ret rfl (by simp only [retL, ret1, hget, lk, List.length_map, List.length_nil, List.length_append, List.length_take, if_true, if_false, Nat.reduceEqDiff, Nat.reduceBEq, Bool.false_eq_true, Option.some.injEq]; rfl) (by simp [rowsOf, lk]) ?_; rfl
theorem toItem_ok (r : ItemD) (hf : ItFit 1048576 r) : FnAg Tryz.prog 124 [.agg [.d (.lst 1 (r.names.map datS)), .d (.lst 1 (r.marks.map datI)), .d (.bool r.late)]] [.row 9 1 (r.names.map datS), .row 3 1 (r.marks.map datI), .d (.bool r.late)] := by
  obtain ⟨hf1, hf2, hf3⟩ := hf
  refine fn_okA G_ok Tryz.func124 rfl rfl ?_; simp only [Tryz.ntmps124, List.length_cons, List.length_nil, Nat.reduceAdd, Nat.reduceSub, enm]
  repeat' (first | ((with_reducible first | (refine hK _ ?_; clear hK K) | refine stq fun K' hK' => ?_ | refine stc ?_); try simp only [go_sem]) | (with_reducible first | refine stp ?_ | (refine hK' _ ?_; clear hK' K') | refine kN kl124 fun K hK => ?_ | refine kO fun K hK => ?_) | ((with_reducible apply CallK.eq); (· with_reducible first | exact toStringS_ok r.names hf1 | exact toIntS_ok r.marks hf3); (· simp [RV.flat, D.sc, datI]); try simp only [go_sem]) | (with_reducible refine pK_mk ?_ ?_ <;> (intro hc; (try simp only [go_sem]); (try simp at hc); try (exfalso; omega))) | with_reducible refine And.intro (by first | omega | (unfold inI; omega)) ?_)
  refine ⟨_, rfl, by simp only [retL, ret1, hget, lk, List.take_succ_cons, List.take_zero, List.drop_zero, List.length_map, if_true, if_false, Nat.reduceEqDiff], by simp [rowsOf, lk]⟩
def itZ : ItemD := ⟨[], [], false⟩
theorem toItemS_ok (xs : List ItemD) (hn : xs.length ≤ 1048576) (hs : ∀ r ∈ xs, ItFit 1048576 r) : FnEq Tryz.prog 69 [.d (.lst 3 (xs.map ItemD.dat))] [.deep 143 3 (xs.map ItemD.dat)] := by
  refine fn_ok G_ok Tryz.func69 rfl rfl ?_; simp only [Tryz.ntmps69, List.length_cons, List.length_nil, Nat.reduceAdd, Nat.reduceSub, enm]
  repeat' (first | ((with_reducible first | (refine hK _ ?_; clear hK K) | refine stq fun K' hK' => ?_ | refine stc ?_); try simp only [go_sem, Bool.true_and]) | (with_reducible first | refine stp ?_ | (refine hK' _ ?_; clear hK' K') | refine kN kl69 fun K hK => ?_ | refine kO fun K hK => ?_) | refine iB ?_ | (with_reducible refine pK_mk ?_ ?_ <;> (intro hc; (try simp only [go_sem, Bool.true_and]); (try simp at hc); try (exfalso; omega))) | with_reducible refine And.intro (by first | omega | (unfold inI; omega)) ?_)
  refine pw_loop_over [2, 4, 8, 9, 10, 11, 12, 13, 14, 15, 16, 17, 18, 19, 20, 21] (fun k : Nat => [(4, .d (.int .i64 (k : Int))), (3, .row 0 xs.length)]) (fun k : Nat => [(0, .deep 0 143 3 ((fillTo itZ xs k).map ItemD.dat))]) 1 (fun k : Nat => k ≤ xs.length) (fun k : Nat => xs.length - k) 0 (Nat.zero_le _) (fits_mk [] (by simp [renL_d, bdL_d, sg, over, wipe, wl, memN, ins, rm, lk, fitFr, fit1, ren, renL, bd, bdL, app, fitHp, hget, renB, bdB, fillTo_zero, ItemD.dat, itZ] <;> omega)) ?_
  intro k hk
  have hL := fillTo_len itZ xs k hk
  simp only [over, wipe, wl, memN, ins, rm, if_true, if_false, Nat.reduceEqDiff, Bool.false_eq_true, reduceCtorEq]
  by_cases hlt : k < xs.length
  · have hx := List.getElem?_eq_getElem hlt
    generalize xs[k] = x at hx
    have hg := fillTo_get itZ hlt
    have hset : List.set ((fillTo itZ xs k).map ItemD.dat) k [.lst 1 (x.names.map datS), .lst 1 (x.marks.map datI), .bool x.late] = (fillTo itZ xs (k + 1)).map ItemD.dat := by rw [← fillTo_set itZ hx, List.map_set]; rfl
    repeat' (first | ((with_reducible first | (refine hK _ ?_; clear hK K) | refine stq fun K' hK' => ?_ | refine stc ?_); try simp only [go_sem, List.getElem?_map, hx, hg, Option.map_some, ItemD.dat, hlt]) | (with_reducible first | refine stp ?_ | (refine hK' _ ?_; clear hK' K') | refine kN kl69 fun K hK => ?_ | refine kO fun K hK => ?_) | refine iB ?_ | (with_reducible refine pK_mk ?_ ?_ <;> (intro hc; (try simp only [go_sem, List.getElem?_map, hx, hg, Option.map_some, ItemD.dat, hlt]); (try simp at hc); try (exfalso; omega))) | with_reducible refine And.intro (by first | omega | (unfold inI; omega)) ?_)
    refine CallK.po (po_callA rfl rfl (toItem_ok x (hs x (List.mem_of_getElem? hx))) ⟨fun _ => ?_, ?_⟩)
    · intro r hr
      simp only [List.mem_cons, List.not_mem_nil, or_false] at hr
      rcases hr with rfl | rfl | rfl
      · exact flatE_datS _
      · exact flatE_datI _
      · simp [RV.flat, D.sc]
    repeat' (first | ((with_reducible first | (refine hK _ ?_; clear hK K) | refine stq fun K' hK' => ?_ | refine stc ?_); try simp only [go_sem, List.getElem?_map, hg, Option.map_some, ItemD.dat, hlt]) | (with_reducible first | refine stp ?_ | (refine hK' _ ?_; clear hK' K') | refine kN kl69 fun K hK => ?_ | refine kO fun K hK => ?_) | refine iB ?_ | (with_reducible refine pK_mk ?_ ?_ <;> (intro hc; (try simp only [go_sem, List.getElem?_map, hg, Option.map_some, ItemD.dat, hlt]); (try simp at hc); try (exfalso; omega))) | with_reducible refine And.intro (by first | omega | (unfold inI; omega)) ?_)
    refine po_store_own (e := itZ.dat) (ds := x.dat) rfl (G_ok _ _ G143) rfl rfl (by rw [List.getElem?_map, hg]; rfl) (by simp [ownL, ownC, cellsPV, AS.get, lk, hget, D.scB, ItemD.dat]) (by simp [cellsPV, AS.get, lk, rowIds]) ?_ (by simp [cellsPV, AS.get, lk, rowIds]) rfl (Nat.le_refl _) ?_
    · simp only [flatL, flatC, cellsPV, AS.get, lk, hget, if_true, if_false, Nat.reduceEqDiff]; exact ⟨flatE_datS _, flatE_datI _, trivial, trivial⟩
    repeat' (first | ((with_reducible first | (refine hK _ ?_; clear hK K) | refine stq fun K' hK' => ?_ | refine stc ?_); try simp only [go_sem, ItemD.dat, spl]) | (with_reducible first | refine stp ?_ | (refine hK' _ ?_; clear hK' K') | refine kN kl69 fun K hK => ?_ | refine kO fun K hK => ?_) | refine iB ?_ | (with_reducible refine pK_mk ?_ ?_ <;> (intro hc; (try simp only [go_sem, ItemD.dat, spl]); (try simp at hc); try (exfalso; omega))) | with_reducible refine And.intro (by first | omega | (unfold inI; omega)) ?_)
    exact ⟨k + 1, by omega, by omega, (fits_mk [] (by simp [renL_d, bdL_d, sg, over, wipe, wl, memN, ins, rm, lk, fitFr, fit1, ren, renL, bd, bdL, app, fitHp, hget, renB, bdB, hset] <;> omega))⟩
  · have e : k = xs.length := by omega
    subst e
    rw [fillTo_end]
    repeat' (first | ((with_reducible first | (refine hK _ ?_; clear hK K) | refine stq fun K' hK' => ?_ | refine stc ?_); try simp only [go_sem]) | (with_reducible first | refine stp ?_ | (refine hK' _ ?_; clear hK' K') | refine kN kl69 fun K hK => ?_ | refine kO fun K hK => ?_) | refine iB ?_ | (with_reducible refine pK_mk ?_ ?_ <;> (intro hc; (try simp only [go_sem]); (try simp at hc); try (exfalso; omega))) | with_reducible refine And.intro (by first | omega | (unfold inI; omega)) ?_)
    refine retQ_ret rfl (by simp only [retL, ret1, hget, lk, List.length_map, List.length_nil, List.length_append, List.length_take, if_true, if_false, Nat.reduceEqDiff, Nat.reduceBEq, Bool.false_eq_true, Option.some.injEq]; rfl) (by simp [rowsOf, lk]) ?_; rfl
section
variable {H : Type} {enc : TypeId × Value → H} {w : World} {base : Nat} {spare : Nat → Bool} {held : Bool}
set_option maxRecDepth 100000 in
theorem open_stringS : OpenK enc Tryz.prog w base spare held (datL 1 datS) (fun xs => xs.length ≤ maxLen ∧ ∀ x ∈ xs, x.size ≤ maxLen) 141 1 :=
  OpenK.slc (OpenK.str Tryz.underlying9) Tryz.underlying141 (by kernel_rfl) (by decide)
set_option maxRecDepth 100000 in
theorem open_item : OpenK enc Tryz.prog w base spare held ItemD.dat (fun r => ItFit maxLen r) 158 3 :=
  OpenK.map (OpenK.st (OpenFs.cons open_stringS rfl (by kernel_rfl) (OpenFs.cons open_intS0 rfl (by kernel_rfl) (OpenFs.cons (OpenK.bool Tryz.underlying4) rfl (by kernel_rfl) (OpenFs.nil 3)))) Tryz.underlying158 (by kernel_rfl))
    (fun p => (⟨p.1, p.2.1, p.2.2.1⟩ : ItemD)) ItemD.dat _ (fun _ => rfl) (fun _ => rfl) (fun _ h => ⟨h.1.1, h.1.2, h.2.1.1⟩)
set_option maxRecDepth 100000 in
theorem open_itemS : OpenK enc Tryz.prog w base spare held (datL 3 ItemD.dat) (fun xs => xs.length ≤ maxLen ∧ ∀ r ∈ xs, ItFit maxLen r) 26 1 :=
  OpenK.slc open_item Tryz.underlying26 (by kernel_rfl) (by decide)
end
end Go.Proofs.YtphakidbddamfaaGreat
