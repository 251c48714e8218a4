/-
  Scores of items: worths, bases, repeats: the program's functions and the reference's, in the abstract machine.
-/
import Derived.Test.YtphakidbddamfaaGreatZSa
import Derived.Test.YtphakidbddamfaaGreatZCd
set_option linter.unusedSimpArgs false
set_option linter.unusedVariables false
set_option maxHeartbeats 2000000
set_option maxRecDepth 100000
namespace Go.Proofs.YtphakidbddamfaaGreat
open Go.RowKit

theorem code_len {c : CodeD} (hc : CodeOk c) : c.elements.length ≤ 16777216 := by have := hc.2.2.2.1; omega
theorem worth_mul {c : CodeD} (hc : CodeNums c) {x : ElementD} (h1 : 1 ≤ x.base) (h2 : x.base ≤ 2000) : 0 ≤ x.base * c.keeps ∧ x.base * c.keeps ≤ 200000 := by
  have h := hc.2.2.2.2.2.2.2
  have h3 := mul_nn (a := x.base) (b := c.keeps) (A := 2000) (B := 100) (by omega) h2 (by omega) h.2.1
  omega
theorem worthOf_ok (c : CodeD) (x : ElementD) (m : Int) (hc : CodeNums c) (hb1 : 1 ≤ x.base) (hb2 : x.base ≤ 2000) : FnEq Tryz.prog 262 [.agg c.cs, .agg [.d (.str x.name), .d (.int .i64 x.family), .d (.int .i64 x.level), .d (.int .i64 x.base)], .d (.int .i64 m)] [.d (.int .i64 (worthE c x m))] := by
  have hm := worth_mul hc hb1 hb2
  have hq := tdiv_bd (x.base * c.keeps) 100 200000 (by omega) (by omega)
  have hq2 := tdiv_bd (x.base * 9) 10 18000 (by omega) (by omega)
  have e : worthE c x m = if m = 1 then (x.base * c.keeps).tdiv 100 else if m = 2 then (x.base * 9).tdiv 10 else if m = 3 then 0 else x.base := rfl
  refine fn_ok G_ok Tryz.func262 rfl rfl ?_; simp only [Tryz.ntmps262, List.length_cons, List.length_nil, Nat.reduceAdd, Nat.reduceSub, enm]
  by_cases h1 : m = 1
  · rw [if_pos h1] at e
    generalize hp : x.base * c.keeps = p at hm hq e
    generalize hq0 : p.tdiv 100 = q at hq e
    repeat' (first | ((with_reducible first | (refine hK _ ?_; clear hK K) | refine stq fun K' hK' => ?_ | refine stc ?_); try simp only [go_sem, hp, hq0]) | (with_reducible first | refine stp ?_ | (refine hK' _ ?_; clear hK' K') | refine kN kl262 fun K hK => ?_ | refine kO fun K hK => ?_) | (with_reducible refine pK_mk ?_ ?_ <;> (intro hc; (try simp only [go_sem, hp, hq0]); (try simp at hc); try (exfalso; omega))) | with_reducible refine And.intro (by first | omega | (unfold inI; omega)) ?_)
    all_goals first
      | (exfalso; omega)
      | (refine retQ_ret rfl rfl (by simp [rowsOf, lk]) ?_; rw [e])
  · rw [if_neg h1] at e
    by_cases h2 : m = 2
    · rw [if_pos h2] at e
      generalize hp : x.base * 9 = p at hq2 e
      generalize hq0 : p.tdiv 10 = q at hq2 e
      repeat' (first | ((with_reducible first | (refine hK _ ?_; clear hK K) | refine stq fun K' hK' => ?_ | refine stc ?_); try simp only [go_sem, hp, hq0]) | (with_reducible first | refine stp ?_ | (refine hK' _ ?_; clear hK' K') | refine kN kl262 fun K hK => ?_ | refine kO fun K hK => ?_) | (with_reducible refine pK_mk ?_ ?_ <;> (intro hc; (try simp only [go_sem, hp, hq0]); (try simp at hc); try (exfalso; omega))) | with_reducible refine And.intro (by first | omega | (unfold inI; omega)) ?_)
      all_goals first
        | (exfalso; omega)
        | (refine retQ_ret rfl rfl (by simp [rowsOf, lk]) ?_; rw [e])
    · rw [if_neg h2] at e
      by_cases h3 : m = 3
      · rw [if_pos h3] at e
        repeat' (first | ((with_reducible first | (refine hK _ ?_; clear hK K) | refine stq fun K' hK' => ?_ | refine stc ?_); try simp only [go_sem]) | (with_reducible first | refine stp ?_ | (refine hK' _ ?_; clear hK' K') | refine kN kl262 fun K hK => ?_ | refine kO fun K hK => ?_) | (with_reducible refine pK_mk ?_ ?_ <;> (intro hc; (try simp only [go_sem]); (try simp at hc); try (exfalso; omega))) | with_reducible refine And.intro (by first | omega | (unfold inI; omega)) ?_)
        all_goals first
          | (exfalso; omega)
          | (refine retQ_ret rfl rfl (by simp [rowsOf, lk]) ?_; rw [e])
      · rw [if_neg h3] at e
        repeat' (first | ((with_reducible first | (refine hK _ ?_; clear hK K) | refine stq fun K' hK' => ?_ | refine stc ?_); try simp only [go_sem]) | (with_reducible first | refine stp ?_ | (refine hK' _ ?_; clear hK' K') | refine kN kl262 fun K hK => ?_ | refine kO fun K hK => ?_) | (with_reducible refine pK_mk ?_ ?_ <;> (intro hc; (try simp only [go_sem]); (try simp at hc); try (exfalso; omega))) | with_reducible refine And.intro (by first | omega | (unfold inI; omega)) ?_)
        all_goals first
          | (exfalso; omega)
          | (refine retQ_ret rfl rfl (by simp [rowsOf, lk]) ?_; rw [e])
theorem bsWorth_ok (c : CodeD) (nm : ByteArray) (m : Int) (hc : CodeOk c) : FnEq Tryz.prog 261 [.agg c.cs, .d (.str nm), .d (.int .i64 m)] [.d (.int .i64 (worthN c nm m))] := by
  have hl := code_len hc
  refine fn_ok G_ok Tryz.func261 rfl rfl ?_; simp only [Tryz.ntmps261, List.length_cons, List.length_nil, Nat.reduceAdd, Nat.reduceSub, enm]
  by_cases hf : 0 ≤ findW c nm
  · obtain ⟨x, hx, _⟩ := findW_at hf
    have hxl := (List.getElem?_eq_some_iff.1 hx).1
    obtain ⟨_, _, _, _, _, hb1, hb2, _⟩ := hc.1 _ x hx
    rw [worthN_of hf hx]
    have hm := worth_mul hc.2.2 hb1 hb2
    have hq := tdiv_bd (x.base * c.keeps) 100 200000 (by omega) (by omega)
    have hq2 := tdiv_bd (x.base * 9) 10 18000 (by omega) (by omega)
    have e : worthE c x m = if m = 1 then (x.base * c.keeps).tdiv 100 else if m = 2 then (x.base * 9).tdiv 10 else if m = 3 then 0 else x.base := rfl
    have hcf := cdFind_ok c nm hl
    generalize findW c nm = i at hf hx hcf hxl
    by_cases h1 : m = 1
    · rw [if_pos h1] at e
      generalize hp : x.base * c.keeps = p at hm hq e
      generalize hq0 : p.tdiv 100 = q at hq e
      repeat' (first | ((with_reducible first | (refine hK _ ?_; clear hK K) | refine stq fun K' hK' => ?_ | refine stc ?_); try simp only [go_sem, hp, hq0, List.getElem?_map, hx, Option.map_some, ElementD.dat, hf, hxl]) | (with_reducible first | refine stp ?_ | (refine hK' _ ?_; clear hK' K') | refine kN kl261 fun K hK => ?_ | refine kO fun K hK => ?_) | ((with_reducible apply CallK.eq); (· with_reducible first | exact hcf); (· simp [RV.flat, D.sc, datI]); try simp only [go_sem, hp, hq0, List.getElem?_map, hx, Option.map_some, ElementD.dat, hf, hxl]) | (with_reducible refine pK_mk ?_ ?_ <;> (intro hc; (try simp only [go_sem, hp, hq0, List.getElem?_map, hx, Option.map_some, ElementD.dat, hf, hxl]); (try simp at hc); try (exfalso; omega))) | with_reducible refine And.intro (by first | omega | (unfold inI; omega)) ?_)
      all_goals first
        | (exfalso; omega)
        | (refine retQ_ret rfl rfl (by simp [rowsOf, lk]) ?_; rw [e])
    · rw [if_neg h1] at e
      by_cases h2 : m = 2
      · rw [if_pos h2] at e
        generalize hp : x.base * 9 = p at hq2 e
        generalize hq0 : p.tdiv 10 = q at hq2 e
        repeat' (first | ((with_reducible first | (refine hK _ ?_; clear hK K) | refine stq fun K' hK' => ?_ | refine stc ?_); try simp only [go_sem, hp, hq0, List.getElem?_map, hx, Option.map_some, ElementD.dat, hf, hxl]) | (with_reducible first | refine stp ?_ | (refine hK' _ ?_; clear hK' K') | refine kN kl261 fun K hK => ?_ | refine kO fun K hK => ?_) | ((with_reducible apply CallK.eq); (· with_reducible first | exact hcf); (· simp [RV.flat, D.sc, datI]); try simp only [go_sem, hp, hq0, List.getElem?_map, hx, Option.map_some, ElementD.dat, hf, hxl]) | (with_reducible refine pK_mk ?_ ?_ <;> (intro hc; (try simp only [go_sem, hp, hq0, List.getElem?_map, hx, Option.map_some, ElementD.dat, hf, hxl]); (try simp at hc); try (exfalso; omega))) | with_reducible refine And.intro (by first | omega | (unfold inI; omega)) ?_)
        all_goals first
          | (exfalso; omega)
          | (refine retQ_ret rfl rfl (by simp [rowsOf, lk]) ?_; rw [e])
      · rw [if_neg h2] at e
        by_cases h3 : m = 3
        · rw [if_pos h3] at e
          repeat' (first | ((with_reducible first | (refine hK _ ?_; clear hK K) | refine stq fun K' hK' => ?_ | refine stc ?_); try simp only [go_sem, List.getElem?_map, hx, Option.map_some, ElementD.dat, hf, hxl]) | (with_reducible first | refine stp ?_ | (refine hK' _ ?_; clear hK' K') | refine kN kl261 fun K hK => ?_ | refine kO fun K hK => ?_) | ((with_reducible apply CallK.eq); (· with_reducible first | exact hcf); (· simp [RV.flat, D.sc, datI]); try simp only [go_sem, List.getElem?_map, hx, Option.map_some, ElementD.dat, hf, hxl]) | (with_reducible refine pK_mk ?_ ?_ <;> (intro hc; (try simp only [go_sem, List.getElem?_map, hx, Option.map_some, ElementD.dat, hf, hxl]); (try simp at hc); try (exfalso; omega))) | with_reducible refine And.intro (by first | omega | (unfold inI; omega)) ?_)
          all_goals first
            | (exfalso; omega)
            | (refine retQ_ret rfl rfl (by simp [rowsOf, lk]) ?_; rw [e])
        · rw [if_neg h3] at e
          repeat' (first | ((with_reducible first | (refine hK _ ?_; clear hK K) | refine stq fun K' hK' => ?_ | refine stc ?_); try simp only [go_sem, List.getElem?_map, hx, Option.map_some, ElementD.dat, hf, hxl]) | (with_reducible first | refine stp ?_ | (refine hK' _ ?_; clear hK' K') | refine kN kl261 fun K hK => ?_ | refine kO fun K hK => ?_) | ((with_reducible apply CallK.eq); (· with_reducible first | exact hcf); (· simp [RV.flat, D.sc, datI]); try simp only [go_sem, List.getElem?_map, hx, Option.map_some, ElementD.dat, hf, hxl]) | (with_reducible refine pK_mk ?_ ?_ <;> (intro hc; (try simp only [go_sem, List.getElem?_map, hx, Option.map_some, ElementD.dat, hf, hxl]); (try simp at hc); try (exfalso; omega))) | with_reducible refine And.intro (by first | omega | (unfold inI; omega)) ?_)
          all_goals first
            | (exfalso; omega)
            | (refine retQ_ret rfl rfl (by simp [rowsOf, lk]) ?_; rw [e])
  · rw [worthN_neg (by omega)]
    repeat' (first | ((with_reducible first | (refine hK _ ?_; clear hK K) | refine stq fun K' hK' => ?_ | refine stc ?_); try simp only [go_sem]) | (with_reducible first | refine stp ?_ | (refine hK' _ ?_; clear hK' K') | refine kN kl261 fun K hK => ?_ | refine kO fun K hK => ?_) | ((with_reducible apply CallK.eq); (· with_reducible first | exact cdFind_ok c nm hl); (· simp [RV.flat, D.sc, datI]); try simp only [go_sem]) | (with_reducible refine pK_mk ?_ ?_ <;> (intro hc; (try simp only [go_sem]); (try simp at hc); try (exfalso; omega))) | with_reducible refine And.intro (by first | omega | (unfold inI; omega)) ?_)
    all_goals first
      | (exfalso; omega)
      | (refine retQ_ret rfl rfl (by simp [rowsOf, lk]) ?_; rfl)
theorem isKnown_ok (c : CodeD) (l : List ItemD) (hl : c.elements.length ≤ 16777216) (hn : l.length ≤ 9223372036854775807) (hs : ∀ r ∈ l, ItFit 9223372036854775807 r) : FnEq Tryz.prog 209 [.agg c.cs, .d (.lst 3 (l.map ItemD.dat))] [.d (.bool (bP (KnownL c l)))] := by
  refine fn_ok G_ok Tryz.func209 rfl rfl ?_; simp only [Tryz.ntmps209, List.length_cons, List.length_nil, Nat.reduceAdd, Nat.reduceSub, enm]
  repeat' (first | ((with_reducible first | (refine hK _ ?_; clear hK K) | refine stq fun K' hK' => ?_ | refine stc ?_); try simp only [go_sem]) | (with_reducible first | refine stp ?_ | (refine hK' _ ?_; clear hK' K') | refine kN kl209 fun K hK => ?_ | refine kO fun K hK => ?_) | refine iB ?_ | (with_reducible refine pK_mk ?_ ?_ <;> (intro hc; (try simp only [go_sem]); (try simp at hc); try (exfalso; omega))) | with_reducible refine And.intro (by first | omega | (unfold inI; omega)) ?_)
  refine pw_loop_over [4, 6, 8, 11, 12, 13, 14, 15, 16, 17, 18, 19, 20, 21, 22, 23, 24, 25, 26, 27] (fun k : Nat => [(11, .d (.int .i64 (k : Int)))]) (fun k : Nat => [(0, .box 42 [.d (.lst 4 (c.elements.map ElementD.dat)), .d (.lst 1 (c.limits.map datI)), .d (.int .i64 c.repeats), .d (.int .i64 c.bonus), .d (.int .i64 c.keeps), .d (.int .i64 c.fall)])]) 1 (fun k : Nat => k ≤ l.length ∧ Upto (fun _ it => KnownI c it) l k) (fun k : Nat => l.length - k) 0 ⟨Nat.zero_le _, Upto.zero _ _⟩ (fits_mk [] (by simp [renL_d, bdL_d, sg, over, wipe, wl, memN, ins, rm, lk, fitFr, fit1, ren, renL, bd, bdL, app, fitHp, hget, renB, bdB] <;> omega)) ?_
  rintro k ⟨hk, hJ⟩
  simp only [over, wipe, wl, memN, ins, rm, if_true, if_false, Nat.reduceEqDiff, Bool.false_eq_true, reduceCtorEq]
  by_cases hlt : k < l.length
  · have hx := List.getElem?_eq_getElem hlt
    generalize l[k] = x at hx
    obtain ⟨hs1, hs2, _⟩ := hs x (List.mem_of_getElem? hx)
    repeat' (first | ((with_reducible first | (refine hK _ ?_; clear hK K) | refine stq fun K' hK' => ?_ | refine stc ?_); try simp only [go_sem, List.getElem?_map, hx, Option.map_some, ItemD.dat]) | (with_reducible first | refine stp ?_ | (refine hK' _ ?_; clear hK' K') | refine kN kl209 fun K hK => ?_ | refine kO fun K hK => ?_) | refine iB ?_ | (with_reducible refine pK_mk ?_ ?_ <;> (intro hc; (try simp only [go_sem, List.getElem?_map, hx, Option.map_some, ItemD.dat]); (try simp at hc); try (exfalso; omega))) | with_reducible refine And.intro (by first | omega | (unfold inI; omega)) ?_)
    refine pw_loop_over [4, 8, 18, 19, 20, 21, 22, 23, 24, 25, 26] (fun k : Nat => [(18, .d (.int .i64 (k : Int))), (6, .und)]) (fun k : Nat => [(0, .box 42 [.d (.lst 4 (c.elements.map ElementD.dat)), .d (.lst 1 (c.limits.map datI)), .d (.int .i64 c.repeats), .d (.int .i64 c.bonus), .d (.int .i64 c.keeps), .d (.int .i64 c.fall)])]) 1 (fun k : Nat => k ≤ x.names.length ∧ Upto (fun _ nm => 0 ≤ findW c nm) x.names k) (fun k : Nat => x.names.length - k) 0 ⟨Nat.zero_le _, Upto.zero _ _⟩ (fits_mk [] (by simp [renL_d, bdL_d, sg, over, wipe, wl, memN, ins, rm, lk, fitFr, fit1, ren, renL, bd, bdL, app, fitHp, hget, renB, bdB] <;> omega)) ?_
    rintro j ⟨hj, hI⟩
    simp only [over, wipe, wl, memN, ins, rm, if_true, if_false, Nat.reduceEqDiff, Bool.false_eq_true, reduceCtorEq]
    by_cases hlt2 : j < x.names.length
    · have hy := List.getElem?_eq_getElem hlt2
      generalize x.names[j] = y at hy
      have hcf := findElement_ok c y hl
      by_cases hfi : 0 ≤ findW c y
      · have hI' := hI.succ hy hfi
        generalize findW c y = i at hcf hfi
        repeat' (first | ((with_reducible first | (refine hK _ ?_; clear hK K) | refine stq fun K' hK' => ?_ | refine stc ?_); try simp only [go_sem, List.getElem?_map, hy, Option.map_some, datS, hfi]) | (with_reducible first | refine stp ?_ | (refine hK' _ ?_; clear hK' K') | refine kN kl209 fun K hK => ?_ | refine kO fun K hK => ?_) | ((with_reducible apply CallK.eq); (· with_reducible first | exact hcf); (· simp [RV.flat, D.sc, datI]); try simp only [go_sem, List.getElem?_map, hy, Option.map_some, datS, hfi]) | refine iB ?_ | (with_reducible refine pK_mk ?_ ?_ <;> (intro hc; (try simp only [go_sem, List.getElem?_map, hy, Option.map_some, datS, hfi]); (try simp at hc); try (exfalso; omega))) | with_reducible refine And.intro (by first | omega | (unfold inI; omega)) ?_)
        all_goals first
          | (exfalso; omega)
          | exact ⟨j + 1, ⟨by omega, hI'⟩, by omega, (fits_mk [] (by simp [renL_d, bdL_d, sg, over, wipe, wl, memN, ins, rm, lk, fitFr, fit1, ren, renL, bd, bdL, app, fitHp, hget, renB, bdB] <;> omega))⟩
      · have hno : bP (KnownL c l) = false := bP_false fun h => hfi (h k x hx j y hy)
        generalize findW c y = i at hcf hfi
        repeat' (first | ((with_reducible first | (refine hK _ ?_; clear hK K) | refine stq fun K' hK' => ?_ | refine stc ?_); try simp only [go_sem, List.getElem?_map, hy, Option.map_some, datS]) | (with_reducible first | refine stp ?_ | (refine hK' _ ?_; clear hK' K') | refine kN kl209 fun K hK => ?_ | refine kO fun K hK => ?_) | ((with_reducible apply CallK.eq); (· with_reducible first | exact hcf); (· simp [RV.flat, D.sc, datI]); try simp only [go_sem, List.getElem?_map, hy, Option.map_some, datS]) | refine iB ?_ | (with_reducible refine pK_mk ?_ ?_ <;> (intro hc; (try simp only [go_sem, List.getElem?_map, hy, Option.map_some, datS]); (try simp at hc); try (exfalso; omega))) | with_reducible refine And.intro (by first | omega | (unfold inI; omega)) ?_)
        all_goals first
          | (exfalso; omega)
          | (refine retQ_ret rfl rfl (by simp [rowsOf, lk]) ?_; rw [hno])
    · have hJ' := hJ.succ hx (show KnownI c x from hI.all (by omega))
      repeat' (first | ((with_reducible first | (refine hK _ ?_; clear hK K) | refine stq fun K' hK' => ?_ | refine stc ?_); try simp only [go_sem]) | (with_reducible first | refine stp ?_ | (refine hK' _ ?_; clear hK' K') | refine kN kl209 fun K hK => ?_ | refine kO fun K hK => ?_) | refine iB ?_ | (with_reducible refine pK_mk ?_ ?_ <;> (intro hc; (try simp only [go_sem]); (try simp at hc); try (exfalso; omega))) | with_reducible refine And.intro (by first | omega | (unfold inI; omega)) ?_)
      all_goals first
        | (exfalso; omega)
        | exact ⟨k + 1, ⟨by omega, hJ'⟩, by omega, (fits_mk [] (by simp [renL_d, bdL_d, sg, over, wipe, wl, memN, ins, rm, lk, fitFr, fit1, ren, renL, bd, bdL, app, fitHp, hget, renB, bdB] <;> omega))⟩
  · repeat' (first | ((with_reducible first | (refine hK _ ?_; clear hK K) | refine stq fun K' hK' => ?_ | refine stc ?_); try simp only [go_sem]) | (with_reducible first | refine stp ?_ | (refine hK' _ ?_; clear hK' K') | refine kN kl209 fun K hK => ?_ | refine kO fun K hK => ?_) | refine iB ?_ | (with_reducible refine pK_mk ?_ ?_ <;> (intro hc; (try simp only [go_sem]); (try simp at hc); try (exfalso; omega))) | with_reducible refine And.intro (by first | omega | (unfold inI; omega)) ?_)
    all_goals first
      | (exfalso; omega)
      | (refine retQ_ret rfl rfl (by simp [rowsOf, lk]) ?_; rw [bP_true (show KnownL c l from hJ.all (by omega))])
theorem bsKnows_ok (c : CodeD) (l : List ItemD) (hl : c.elements.length ≤ 16777216) (hn : l.length ≤ 9223372036854775807) (hs : ∀ r ∈ l, ItFit 9223372036854775807 r) : FnEq Tryz.prog 212 [.agg c.cs, .d (.lst 3 (l.map ItemD.dat))] [.d (.bool (bP (KnownL c l)))] := by
  refine fn_ok G_ok Tryz.func212 rfl rfl ?_; simp only [Tryz.ntmps212, List.length_cons, List.length_nil, Nat.reduceAdd, Nat.reduceSub, enm]
  repeat' (first | ((with_reducible first | (refine hK _ ?_; clear hK K) | refine stq fun K' hK' => ?_ | refine stc ?_); try simp only [go_sem]) | (with_reducible first | refine stp ?_ | (refine hK' _ ?_; clear hK' K') | refine kN kl212 fun K hK => ?_ | refine kO fun K hK => ?_) | refine iB ?_ | (with_reducible refine pK_mk ?_ ?_ <;> (intro hc; (try simp only [go_sem]); (try simp at hc); try (exfalso; omega))) | with_reducible refine And.intro (by first | omega | (unfold inI; omega)) ?_)
  refine pw_loop_over [4, 6, 8, 11, 12, 13, 14, 15, 16, 17, 18, 19, 20, 21, 22, 23, 24, 25, 26, 27] (fun k : Nat => [(11, .d (.int .i64 (k : Int)))]) (fun k : Nat => [(0, .box 42 [.d (.lst 4 (c.elements.map ElementD.dat)), .d (.lst 1 (c.limits.map datI)), .d (.int .i64 c.repeats), .d (.int .i64 c.bonus), .d (.int .i64 c.keeps), .d (.int .i64 c.fall)])]) 1 (fun k : Nat => k ≤ l.length ∧ Upto (fun _ it => KnownI c it) l k) (fun k : Nat => l.length - k) 0 ⟨Nat.zero_le _, Upto.zero _ _⟩ (fits_mk [] (by simp [renL_d, bdL_d, sg, over, wipe, wl, memN, ins, rm, lk, fitFr, fit1, ren, renL, bd, bdL, app, fitHp, hget, renB, bdB] <;> omega)) ?_
  rintro k ⟨hk, hJ⟩
  simp only [over, wipe, wl, memN, ins, rm, if_true, if_false, Nat.reduceEqDiff, Bool.false_eq_true, reduceCtorEq]
  by_cases hlt : k < l.length
  · have hx := List.getElem?_eq_getElem hlt
    generalize l[k] = x at hx
    obtain ⟨hs1, hs2, _⟩ := hs x (List.mem_of_getElem? hx)
    repeat' (first | ((with_reducible first | (refine hK _ ?_; clear hK K) | refine stq fun K' hK' => ?_ | refine stc ?_); try simp only [go_sem, List.getElem?_map, hx, Option.map_some, ItemD.dat]) | (with_reducible first | refine stp ?_ | (refine hK' _ ?_; clear hK' K') | refine kN kl212 fun K hK => ?_ | refine kO fun K hK => ?_) | refine iB ?_ | (with_reducible refine pK_mk ?_ ?_ <;> (intro hc; (try simp only [go_sem, List.getElem?_map, hx, Option.map_some, ItemD.dat]); (try simp at hc); try (exfalso; omega))) | with_reducible refine And.intro (by first | omega | (unfold inI; omega)) ?_)
    refine pw_loop_over [4, 8, 18, 19, 20, 21, 22, 23, 24, 25, 26] (fun k : Nat => [(18, .d (.int .i64 (k : Int))), (6, .und)]) (fun k : Nat => [(0, .box 42 [.d (.lst 4 (c.elements.map ElementD.dat)), .d (.lst 1 (c.limits.map datI)), .d (.int .i64 c.repeats), .d (.int .i64 c.bonus), .d (.int .i64 c.keeps), .d (.int .i64 c.fall)])]) 1 (fun k : Nat => k ≤ x.names.length ∧ Upto (fun _ nm => 0 ≤ findW c nm) x.names k) (fun k : Nat => x.names.length - k) 0 ⟨Nat.zero_le _, Upto.zero _ _⟩ (fits_mk [] (by simp [renL_d, bdL_d, sg, over, wipe, wl, memN, ins, rm, lk, fitFr, fit1, ren, renL, bd, bdL, app, fitHp, hget, renB, bdB] <;> omega)) ?_
    rintro j ⟨hj, hI⟩
    simp only [over, wipe, wl, memN, ins, rm, if_true, if_false, Nat.reduceEqDiff, Bool.false_eq_true, reduceCtorEq]
    by_cases hlt2 : j < x.names.length
    · have hy := List.getElem?_eq_getElem hlt2
      generalize x.names[j] = y at hy
      have hcf := cdFind_ok c y hl
      by_cases hfi : 0 ≤ findW c y
      · have hI' := hI.succ hy hfi
        generalize findW c y = i at hcf hfi
        repeat' (first | ((with_reducible first | (refine hK _ ?_; clear hK K) | refine stq fun K' hK' => ?_ | refine stc ?_); try simp only [go_sem, List.getElem?_map, hy, Option.map_some, datS, hfi]) | (with_reducible first | refine stp ?_ | (refine hK' _ ?_; clear hK' K') | refine kN kl212 fun K hK => ?_ | refine kO fun K hK => ?_) | ((with_reducible apply CallK.eq); (· with_reducible first | exact hcf); (· simp [RV.flat, D.sc, datI]); try simp only [go_sem, List.getElem?_map, hy, Option.map_some, datS, hfi]) | refine iB ?_ | (with_reducible refine pK_mk ?_ ?_ <;> (intro hc; (try simp only [go_sem, List.getElem?_map, hy, Option.map_some, datS, hfi]); (try simp at hc); try (exfalso; omega))) | with_reducible refine And.intro (by first | omega | (unfold inI; omega)) ?_)
        all_goals first
          | (exfalso; omega)
          | exact ⟨j + 1, ⟨by omega, hI'⟩, by omega, (fits_mk [] (by simp [renL_d, bdL_d, sg, over, wipe, wl, memN, ins, rm, lk, fitFr, fit1, ren, renL, bd, bdL, app, fitHp, hget, renB, bdB] <;> omega))⟩
      · have hno : bP (KnownL c l) = false := bP_false fun h => hfi (h k x hx j y hy)
        generalize findW c y = i at hcf hfi
        repeat' (first | ((with_reducible first | (refine hK _ ?_; clear hK K) | refine stq fun K' hK' => ?_ | refine stc ?_); try simp only [go_sem, List.getElem?_map, hy, Option.map_some, datS]) | (with_reducible first | refine stp ?_ | (refine hK' _ ?_; clear hK' K') | refine kN kl212 fun K hK => ?_ | refine kO fun K hK => ?_) | ((with_reducible apply CallK.eq); (· with_reducible first | exact hcf); (· simp [RV.flat, D.sc, datI]); try simp only [go_sem, List.getElem?_map, hy, Option.map_some, datS]) | refine iB ?_ | (with_reducible refine pK_mk ?_ ?_ <;> (intro hc; (try simp only [go_sem, List.getElem?_map, hy, Option.map_some, datS]); (try simp at hc); try (exfalso; omega))) | with_reducible refine And.intro (by first | omega | (unfold inI; omega)) ?_)
        all_goals first
          | (exfalso; omega)
          | (refine retQ_ret rfl rfl (by simp [rowsOf, lk]) ?_; rw [hno])
    · have hJ' := hJ.succ hx (show KnownI c x from hI.all (by omega))
      repeat' (first | ((with_reducible first | (refine hK _ ?_; clear hK K) | refine stq fun K' hK' => ?_ | refine stc ?_); try simp only [go_sem]) | (with_reducible first | refine stp ?_ | (refine hK' _ ?_; clear hK' K') | refine kN kl212 fun K hK => ?_ | refine kO fun K hK => ?_) | refine iB ?_ | (with_reducible refine pK_mk ?_ ?_ <;> (intro hc; (try simp only [go_sem]); (try simp at hc); try (exfalso; omega))) | with_reducible refine And.intro (by first | omega | (unfold inI; omega)) ?_)
      all_goals first
        | (exfalso; omega)
        | exact ⟨k + 1, ⟨by omega, hJ'⟩, by omega, (fits_mk [] (by simp [renL_d, bdL_d, sg, over, wipe, wl, memN, ins, rm, lk, fitFr, fit1, ren, renL, bd, bdL, app, fitHp, hget, renB, bdB] <;> omega))⟩
  · repeat' (first | ((with_reducible first | (refine hK _ ?_; clear hK K) | refine stq fun K' hK' => ?_ | refine stc ?_); try simp only [go_sem]) | (with_reducible first | refine stp ?_ | (refine hK' _ ?_; clear hK' K') | refine kN kl212 fun K hK => ?_ | refine kO fun K hK => ?_) | refine iB ?_ | (with_reducible refine pK_mk ?_ ?_ <;> (intro hc; (try simp only [go_sem]); (try simp at hc); try (exfalso; omega))) | with_reducible refine And.intro (by first | omega | (unfold inI; omega)) ?_)
    all_goals first
      | (exfalso; omega)
      | (refine retQ_ret rfl rfl (by simp [rowsOf, lk]) ?_; rw [bP_true (show KnownL c l from hJ.all (by omega))])
end Go.Proofs.YtphakidbddamfaaGreat
