/-
  Codes and performances: what the laws' helpers give (sizes, copies, comparisons), in the abstract machine; opened as arguments.
-/
import Derived.Test.YtphakidbddamfaaGreatZGw
import Derived.Test.YtphakidbddamfaaGreatZIs
set_option linter.unusedSimpArgs false
set_option linter.unusedVariables false
set_option maxHeartbeats 2000000
set_option maxRecDepth 100000
namespace Go.Proofs.YtphakidbddamfaaGreat
open Go.ChangeShapes Go.WideShapes Go.ChangeAt Go.RowKit Go.Deep

def cntE (l : List ElementD) : Nat := (l.map fun x => x.name.size).sum
theorem cntE_succ {l : List ElementD} {k : Nat} {x : ElementD} (hx : l[k]? = some x) : cntE (l.take (k + 1)) = cntE (l.take k) + x.name.size := by unfold cntE; rw [take_snoc hx]; simp
theorem cntE_take (l : List ElementD) (k : Nat) : cntE (l.take k) ≤ cntE l := by
  have : l = l.take k ++ l.drop k := (List.take_append_drop k l).symm
  unfold cntE
  conv => rhs; rw [this]
  rw [List.map_append, List.sum_append]
  omega
theorem cntE_mem {l : List ElementD} {x : ElementD} (h : x ∈ l) : x.name.size ≤ cntE l := by
  unfold cntE
  exact le_sum_nat (List.mem_map.2 ⟨x, h, rfl⟩)
def cntL (l : List (List Int)) : Nat := (l.map fun x => x.length).sum
theorem cntL_succ {l : List (List Int)} {k : Nat} {x : (List Int)} (hx : l[k]? = some x) : cntL (l.take (k + 1)) = cntL (l.take k) + x.length := by unfold cntL; rw [take_snoc hx]; simp
theorem cntL_take (l : List (List Int)) (k : Nat) : cntL (l.take k) ≤ cntL l := by
  have : l = l.take k ++ l.drop k := (List.take_append_drop k l).symm
  unfold cntL
  conv => rhs; rw [this]
  rw [List.map_append, List.sum_append]
  omega
theorem cntL_mem {l : List (List Int)} {x : (List Int)} (h : x ∈ l) : x.length ≤ cntL l := by
  unfold cntL
  exact le_sum_nat (List.mem_map.2 ⟨x, h, rfl⟩)
def cntCd (c : CodeD) : Nat := c.elements.length + cntE c.elements + c.limits.length
def cntMk (m : MarksD) : Nat := m.grades.length + cntL m.grades + (m.components.length + cntL m.components)
def cntPf (p : PerfD) : Nat := p.items.length + cntI p.items + cntMk p.marks
theorem lsFit_of {m : Nat} {l : List (List Int)} (h : l.length + cntL l ≤ m) : LsFit m l := ⟨by omega, fun g hg => by have := cntL_mem hg; omega⟩
theorem cdFit_of {m : Nat} {c : CodeD} (h : cntCd c ≤ m) : CdFit m c := by
  unfold cntCd at h
  exact ⟨by omega, fun x hx => by have := cntE_mem hx; unfold ElFit; omega, by omega⟩
theorem mkFit_of {m : Nat} {x : MarksD} (h : cntMk x ≤ m) : MkFit m x := by
  unfold cntMk at h
  exact ⟨lsFit_of (by omega), lsFit_of (by omega)⟩
theorem pfFit_of {m : Nat} {p : PerfD} (h : cntPf p ≤ m) : PfFit m p := by
  unfold cntPf at h
  exact ⟨⟨by omega, fun x hx => itFit_of (by have := cntI_mem hx; omega)⟩, mkFit_of (by omega)⟩
theorem szElement_ok (x : ElementD) (hf : x.name.size ≤ 9223372036854775807) (left : Int) (h0 : 0 ≤ left) (h1 : left ≤ 1048576) : FnEq Tryz.prog 116 [.agg [.d (.str x.name), .d (.int .i64 x.family), .d (.int .i64 x.level), .d (.int .i64 x.base)], .d (.int .i64 left)] [.d (.int .i64 (szOf left x.name.size))] := by
  refine fn_ok G_ok Tryz.func116 rfl rfl ?_; simp only [Tryz.ntmps116, List.length_cons, List.length_nil, Nat.reduceAdd, Nat.reduceSub, enm]
  repeat' (first | ((with_reducible first | (refine hK _ ?_; clear hK K) | refine stq fun K' hK' => ?_ | refine stc ?_); try simp only [go_sem]) | (with_reducible first | refine stp ?_ | (refine hK' _ ?_; clear hK' K') | refine kN kl116 fun K hK => ?_ | refine kO fun K hK => ?_) | (with_reducible refine pK_mk ?_ ?_ <;> (intro hc; (try simp only [go_sem]); (try simp at hc); try (exfalso; omega))) | with_reducible refine And.intro (by first | omega | (unfold inI; omega)) ?_)
  all_goals first
    | (exfalso; omega)
    | (refine retQ_ret rfl rfl (by simp [rowsOf, lk]) ?_; rw [szOf_lt (by omega)]; done)
    | (refine retQ_ret rfl rfl (by simp [rowsOf, lk]) ?_; rw [szOf_ge (by omega)])
theorem szElementS_ok (l : List ElementD) (hn : l.length ≤ 9223372036854775807) (hs : ∀ r ∈ l, r.name.size ≤ 9223372036854775807) (left : Int) (h0 : 0 ≤ left) (h1 : left ≤ 1048576) : FnEq Tryz.prog 59 [.d (.lst 4 (l.map ElementD.dat)), .d (.int .i64 left)] [.d (.int .i64 (szOf left ((l.length + cntE l : Nat) : Int)))] := by
  refine fn_ok G_ok Tryz.func59 rfl rfl ?_; simp only [Tryz.ntmps59, List.length_cons, List.length_nil, Nat.reduceAdd, Nat.reduceSub, enm]
  repeat' (first | ((with_reducible first | (refine hK _ ?_; clear hK K) | refine stq fun K' hK' => ?_ | refine stc ?_); try simp only [go_sem]) | (with_reducible first | refine stp ?_ | (refine hK' _ ?_; clear hK' K') | refine kN kl59 fun K hK => ?_ | refine kO fun K hK => ?_) | refine iB ?_ | (with_reducible refine pK_mk ?_ ?_ <;> (intro hc; (try simp only [go_sem]); (try simp at hc); try (exfalso; omega))) | with_reducible refine And.intro (by first | omega | (unfold inI; omega)) ?_)
  · refine retQ_ret rfl rfl (by simp [rowsOf, lk]) ?_; rw [szOf_lt (by omega)]
  · refine pw_loop_over [1, 4, 5, 12, 13, 14, 15, 16, 17, 18, 19, 20, 21, 22, 23, 24, 25] (fun k : Nat => [(5, .d (.int .i64 (k : Int))), (1, .d (.int .i64 (left - ((l.length + cntE (l.take k) : Nat) : Int))))]) (fun k : Nat => []) 0 (fun k : Nat => k ≤ l.length ∧ ((l.length + cntE (l.take k) : Nat) : Int) ≤ left) (fun k : Nat => l.length - k) 0 ⟨Nat.zero_le _, by simp [cntE]; omega⟩ (fits_mk [] (by simp [renL_d, bdL_d, sg, over, wipe, wl, memN, ins, rm, lk, fitFr, fit1, ren, renL, bd, bdL, app, fitHp, hget, renB, bdB, cntE] <;> omega)) ?_
    rintro k ⟨hk, hJ⟩
    have hct := cntE_take l k
    have hct1 := cntE_take l (k + 1)
    simp only [over, wipe, wl, memN, ins, rm, if_true, if_false, Nat.reduceEqDiff, Bool.false_eq_true, reduceCtorEq]
    by_cases hlt : k < l.length
    · have hx := List.getElem?_eq_getElem hlt
      generalize l[k] = x at hx
      have hxs := hs x (List.mem_of_getElem? hx)
      have hc1 := cntE_succ hx
      by_cases hle : ((x.name.size : Nat) : Int) ≤ left - ((l.length + cntE (l.take k) : Nat) : Int)
      · have hz := szOf_ge hle
        repeat' (first | ((with_reducible first | (refine hK _ ?_; clear hK K) | refine stq fun K' hK' => ?_ | refine stc ?_); try simp only [go_sem, List.getElem?_map, hx, Option.map_some, ElementD.dat, hz]) | (with_reducible first | refine stp ?_ | (refine hK' _ ?_; clear hK' K') | refine kN kl59 fun K hK => ?_ | refine kO fun K hK => ?_) | ((with_reducible apply CallK.eq); (· with_reducible first | exact szElement_ok x hxs _ (by omega) (by omega)); (· simp [RV.flat, D.sc, datI]); try simp only [go_sem, List.getElem?_map, hx, Option.map_some, ElementD.dat, hz]) | refine iB ?_ | (with_reducible refine pK_mk ?_ ?_ <;> (intro hc; (try simp only [go_sem, List.getElem?_map, hx, Option.map_some, ElementD.dat, hz]); (try simp at hc); try (exfalso; omega))) | with_reducible refine And.intro (by first | omega | (unfold inI; omega)) ?_)
        all_goals exact ⟨k + 1, ⟨by omega, by omega⟩, by omega, (fits_mk [] (by simp [renL_d, bdL_d, sg, over, wipe, wl, memN, ins, rm, lk, fitFr, fit1, ren, renL, bd, bdL, app, fitHp, hget, renB, bdB, hc1] <;> omega))⟩
      · have hz := szOf_lt (left := left - ((l.length + cntE (l.take k) : Nat) : Int)) (n := ((x.name.size : Nat) : Int)) (by omega)
        repeat' (first | ((with_reducible first | (refine hK _ ?_; clear hK K) | refine stq fun K' hK' => ?_ | refine stc ?_); try simp only [go_sem, List.getElem?_map, hx, Option.map_some, ElementD.dat, hz]) | (with_reducible first | refine stp ?_ | (refine hK' _ ?_; clear hK' K') | refine kN kl59 fun K hK => ?_ | refine kO fun K hK => ?_) | ((with_reducible apply CallK.eq); (· with_reducible first | exact szElement_ok x hxs _ (by omega) (by omega)); (· simp [RV.flat, D.sc, datI]); try simp only [go_sem, List.getElem?_map, hx, Option.map_some, ElementD.dat, hz]) | refine iB ?_ | (with_reducible refine pK_mk ?_ ?_ <;> (intro hc; (try simp only [go_sem, List.getElem?_map, hx, Option.map_some, ElementD.dat, hz]); (try simp at hc); try (exfalso; omega))) | with_reducible refine And.intro (by first | omega | (unfold inI; omega)) ?_)
        all_goals (refine retQ_ret rfl rfl (by simp [rowsOf, lk]) ?_; rw [szOf_lt (by omega)])
    · have e : l.take k = l := List.take_of_length_le (by omega)
      repeat' (first | ((with_reducible first | (refine hK _ ?_; clear hK K) | refine stq fun K' hK' => ?_ | refine stc ?_); try simp only [go_sem, e]) | (with_reducible first | refine stp ?_ | (refine hK' _ ?_; clear hK' K') | refine kN kl59 fun K hK => ?_ | refine kO fun K hK => ?_) | refine iB ?_ | (with_reducible refine pK_mk ?_ ?_ <;> (intro hc; (try simp only [go_sem, e]); (try simp at hc); try (exfalso; omega))) | with_reducible refine And.intro (by first | omega | (unfold inI; omega)) ?_)
      refine retQ_ret rfl rfl (by simp [rowsOf, lk]) ?_; rw [e] at hJ; rw [szOf_ge hJ]
theorem szIntSS_ok (l : List (List Int)) (hn : l.length ≤ 9223372036854775807) (hs : ∀ r ∈ l, r.length ≤ 9223372036854775807) (left : Int) (h0 : 0 ≤ left) (h1 : left ≤ 1048576) : FnEq Tryz.prog 118 [.d (.lst 1 (l.map (datL 1 datI))), .d (.int .i64 left)] [.d (.int .i64 (szOf left ((l.length + cntL l : Nat) : Int)))] := by
  refine fn_ok G_ok Tryz.func118 rfl rfl ?_; simp only [Tryz.ntmps118, List.length_cons, List.length_nil, Nat.reduceAdd, Nat.reduceSub, enm]
  repeat' (first | ((with_reducible first | (refine hK _ ?_; clear hK K) | refine stq fun K' hK' => ?_ | refine stc ?_); try simp only [go_sem]) | (with_reducible first | refine stp ?_ | (refine hK' _ ?_; clear hK' K') | refine kN kl118 fun K hK => ?_ | refine kO fun K hK => ?_) | refine iB ?_ | (with_reducible refine pK_mk ?_ ?_ <;> (intro hc; (try simp only [go_sem]); (try simp at hc); try (exfalso; omega))) | with_reducible refine And.intro (by first | omega | (unfold inI; omega)) ?_)
  · refine retQ_ret rfl rfl (by simp [rowsOf, lk]) ?_; rw [szOf_lt (by omega)]
  · refine pw_loop_over [1, 4, 5, 12, 13, 14, 15, 16, 17, 18, 19, 20, 21, 22, 23, 24, 25] (fun k : Nat => [(5, .d (.int .i64 (k : Int))), (1, .d (.int .i64 (left - ((l.length + cntL (l.take k) : Nat) : Int))))]) (fun k : Nat => []) 0 (fun k : Nat => k ≤ l.length ∧ ((l.length + cntL (l.take k) : Nat) : Int) ≤ left) (fun k : Nat => l.length - k) 0 ⟨Nat.zero_le _, by simp [cntL]; omega⟩ (fits_mk [] (by simp [renL_d, bdL_d, sg, over, wipe, wl, memN, ins, rm, lk, fitFr, fit1, ren, renL, bd, bdL, app, fitHp, hget, renB, bdB, cntL] <;> omega)) ?_
    rintro k ⟨hk, hJ⟩
    have hct := cntL_take l k
    have hct1 := cntL_take l (k + 1)
    simp only [over, wipe, wl, memN, ins, rm, if_true, if_false, Nat.reduceEqDiff, Bool.false_eq_true, reduceCtorEq]
    by_cases hlt : k < l.length
    · have hx := List.getElem?_eq_getElem hlt
      generalize l[k] = x at hx
      have hxs := hs x (List.mem_of_getElem? hx)
      have hc1 := cntL_succ hx
      by_cases hle : ((x.length : Nat) : Int) ≤ left - ((l.length + cntL (l.take k) : Nat) : Int)
      · have hz := szOf_ge hle
        repeat' (first | ((with_reducible first | (refine hK _ ?_; clear hK K) | refine stq fun K' hK' => ?_ | refine stc ?_); try simp only [go_sem, List.getElem?_map, hx, Option.map_some, datL, hz]) | (with_reducible first | refine stp ?_ | (refine hK' _ ?_; clear hK' K') | refine kN kl118 fun K hK => ?_ | refine kO fun K hK => ?_) | ((with_reducible apply CallK.eq); (· with_reducible first | exact szIntS_ok x hxs _ (by omega) (by omega)); (· simp [RV.flat, D.sc, datI]); try simp only [go_sem, List.getElem?_map, hx, Option.map_some, datL, hz]) | refine iB ?_ | (with_reducible refine pK_mk ?_ ?_ <;> (intro hc; (try simp only [go_sem, List.getElem?_map, hx, Option.map_some, datL, hz]); (try simp at hc); try (exfalso; omega))) | with_reducible refine And.intro (by first | omega | (unfold inI; omega)) ?_)
        all_goals exact ⟨k + 1, ⟨by omega, by omega⟩, by omega, (fits_mk [] (by simp [renL_d, bdL_d, sg, over, wipe, wl, memN, ins, rm, lk, fitFr, fit1, ren, renL, bd, bdL, app, fitHp, hget, renB, bdB, hc1] <;> omega))⟩
      · have hz := szOf_lt (left := left - ((l.length + cntL (l.take k) : Nat) : Int)) (n := ((x.length : Nat) : Int)) (by omega)
        repeat' (first | ((with_reducible first | (refine hK _ ?_; clear hK K) | refine stq fun K' hK' => ?_ | refine stc ?_); try simp only [go_sem, List.getElem?_map, hx, Option.map_some, datL, hz]) | (with_reducible first | refine stp ?_ | (refine hK' _ ?_; clear hK' K') | refine kN kl118 fun K hK => ?_ | refine kO fun K hK => ?_) | ((with_reducible apply CallK.eq); (· with_reducible first | exact szIntS_ok x hxs _ (by omega) (by omega)); (· simp [RV.flat, D.sc, datI]); try simp only [go_sem, List.getElem?_map, hx, Option.map_some, datL, hz]) | refine iB ?_ | (with_reducible refine pK_mk ?_ ?_ <;> (intro hc; (try simp only [go_sem, List.getElem?_map, hx, Option.map_some, datL, hz]); (try simp at hc); try (exfalso; omega))) | with_reducible refine And.intro (by first | omega | (unfold inI; omega)) ?_)
        all_goals (refine retQ_ret rfl rfl (by simp [rowsOf, lk]) ?_; rw [szOf_lt (by omega)])
    · have e : l.take k = l := List.take_of_length_le (by omega)
      repeat' (first | ((with_reducible first | (refine hK _ ?_; clear hK K) | refine stq fun K' hK' => ?_ | refine stc ?_); try simp only [go_sem, e]) | (with_reducible first | refine stp ?_ | (refine hK' _ ?_; clear hK' K') | refine kN kl118 fun K hK => ?_ | refine kO fun K hK => ?_) | refine iB ?_ | (with_reducible refine pK_mk ?_ ?_ <;> (intro hc; (try simp only [go_sem, e]); (try simp at hc); try (exfalso; omega))) | with_reducible refine And.intro (by first | omega | (unfold inI; omega)) ?_)
      refine retQ_ret rfl rfl (by simp [rowsOf, lk]) ?_; rw [e] at hJ; rw [szOf_ge hJ]
theorem szCode_ok (c : CodeD) (hf : CdFit 9223372036854775807 c) (left : Int) (h0 : 0 ≤ left) (h1 : left ≤ 1048576) : FnEq Tryz.prog 9 [.agg c.cs, .d (.int .i64 left)] [.d (.int .i64 (szOf left (cntCd c)))] := by
  obtain ⟨hf1, hf2, hf3⟩ := hf
  have hc : cntCd c = c.elements.length + cntE c.elements + (c.limits.length) := rfl
  refine fn_ok G_ok Tryz.func9 rfl rfl ?_; simp only [Tryz.ntmps9, List.length_cons, List.length_nil, Nat.reduceAdd, Nat.reduceSub, enm]
  by_cases hle : ((c.elements.length + cntE c.elements : Nat) : Int) ≤ left
  · have hz := szOf_ge hle
    by_cases hle2 : ((c.limits.length : Nat) : Int) ≤ left - ((c.elements.length + cntE c.elements : Nat) : Int)
    · have hz2 := szOf_ge hle2
      have hz3 := szOf_ge (left := left) (n := ((cntCd c : Nat) : Int)) (by omega)
      repeat' (first | ((with_reducible first | (refine hK _ ?_; clear hK K) | refine stq fun K' hK' => ?_ | refine stc ?_); try simp only [go_sem, hz, hz2]) | (with_reducible first | refine stp ?_ | (refine hK' _ ?_; clear hK' K') | refine kN kl9 fun K hK => ?_ | refine kO fun K hK => ?_) | ((with_reducible apply CallK.eq); (· with_reducible first | exact szElementS_ok c.elements hf1 hf2 _ (by omega) (by omega) | exact szIntS_ok c.limits hf3 _ (by omega) (by omega)); (· simp [RV.flat, D.sc, datI]); try simp only [go_sem, hz, hz2]) | (with_reducible refine pK_mk ?_ ?_ <;> (intro hc; (try simp only [go_sem, hz, hz2]); (try simp at hc); try (exfalso; omega))) | with_reducible refine And.intro (by first | omega | (unfold inI; omega)) ?_)
      all_goals first
        | (exfalso; omega)
        | (refine retQ_ret rfl rfl (by simp [rowsOf, lk]) ?_; rw [hz3]; congr 3; omega)
    · have hz2 := szOf_lt (left := left - ((c.elements.length + cntE c.elements : Nat) : Int)) (n := ((c.limits.length : Nat) : Int)) (by omega)
      have hz3 := szOf_lt (left := left) (n := ((cntCd c : Nat) : Int)) (by omega)
      repeat' (first | ((with_reducible first | (refine hK _ ?_; clear hK K) | refine stq fun K' hK' => ?_ | refine stc ?_); try simp only [go_sem, hz, hz2]) | (with_reducible first | refine stp ?_ | (refine hK' _ ?_; clear hK' K') | refine kN kl9 fun K hK => ?_ | refine kO fun K hK => ?_) | ((with_reducible apply CallK.eq); (· with_reducible first | exact szElementS_ok c.elements hf1 hf2 _ (by omega) (by omega) | exact szIntS_ok c.limits hf3 _ (by omega) (by omega)); (· simp [RV.flat, D.sc, datI]); try simp only [go_sem, hz, hz2]) | (with_reducible refine pK_mk ?_ ?_ <;> (intro hc; (try simp only [go_sem, hz, hz2]); (try simp at hc); try (exfalso; omega))) | with_reducible refine And.intro (by first | omega | (unfold inI; omega)) ?_)
      all_goals (refine retQ_ret rfl rfl (by simp [rowsOf, lk]) ?_; rw [hz3])
  · have hz := szOf_lt (left := left) (n := ((c.elements.length + cntE c.elements : Nat) : Int)) (by omega)
    have hz3 := szOf_lt (left := left) (n := ((cntCd c : Nat) : Int)) (by omega)
    repeat' (first | ((with_reducible first | (refine hK _ ?_; clear hK K) | refine stq fun K' hK' => ?_ | refine stc ?_); try simp only [go_sem, hz]) | (with_reducible first | refine stp ?_ | (refine hK' _ ?_; clear hK' K') | refine kN kl9 fun K hK => ?_ | refine kO fun K hK => ?_) | ((with_reducible apply CallK.eq); (· with_reducible first | exact szElementS_ok c.elements hf1 hf2 _ (by omega) (by omega)); (· simp [RV.flat, D.sc, datI]); try simp only [go_sem, hz]) | (with_reducible refine pK_mk ?_ ?_ <;> (intro hc; (try simp only [go_sem, hz]); (try simp at hc); try (exfalso; omega))) | with_reducible refine And.intro (by first | omega | (unfold inI; omega)) ?_)
    all_goals (refine retQ_ret rfl rfl (by simp [rowsOf, lk]) ?_; rw [hz3])
theorem szMarks_ok (m : MarksD) (hf : MkFit 9223372036854775807 m) (left : Int) (h0 : 0 ≤ left) (h1 : left ≤ 1048576) : FnEq Tryz.prog 62 [.agg m.cs, .d (.int .i64 left)] [.d (.int .i64 (szOf left (cntMk m)))] := by
  obtain ⟨⟨hf1, hf2⟩, hf3, hf4⟩ := hf
  have hc : cntMk m = m.grades.length + cntL m.grades + (m.components.length + cntL m.components) := rfl
  refine fn_ok G_ok Tryz.func62 rfl rfl ?_; simp only [Tryz.ntmps62, List.length_cons, List.length_nil, Nat.reduceAdd, Nat.reduceSub, enm]
  by_cases hle : ((m.grades.length + cntL m.grades : Nat) : Int) ≤ left
  · have hz := szOf_ge hle
    by_cases hle2 : ((m.components.length + cntL m.components : Nat) : Int) ≤ left - ((m.grades.length + cntL m.grades : Nat) : Int)
    · have hz2 := szOf_ge hle2
      have hz3 := szOf_ge (left := left) (n := ((cntMk m : Nat) : Int)) (by omega)
      repeat' (first | ((with_reducible first | (refine hK _ ?_; clear hK K) | refine stq fun K' hK' => ?_ | refine stc ?_); try simp only [go_sem, hz, hz2]) | (with_reducible first | refine stp ?_ | (refine hK' _ ?_; clear hK' K') | refine kN kl62 fun K hK => ?_ | refine kO fun K hK => ?_) | ((with_reducible apply CallK.eq); (· with_reducible first | exact szIntSS_ok m.grades hf1 hf2 _ (by omega) (by omega) | exact szIntSS_ok m.components hf3 hf4 _ (by omega) (by omega)); (· simp [RV.flat, D.sc, datI]); try simp only [go_sem, hz, hz2]) | (with_reducible refine pK_mk ?_ ?_ <;> (intro hc; (try simp only [go_sem, hz, hz2]); (try simp at hc); try (exfalso; omega))) | with_reducible refine And.intro (by first | omega | (unfold inI; omega)) ?_)
      all_goals first
        | (exfalso; omega)
        | (refine retQ_ret rfl rfl (by simp [rowsOf, lk]) ?_; rw [hz3]; congr 3; omega)
    · have hz2 := szOf_lt (left := left - ((m.grades.length + cntL m.grades : Nat) : Int)) (n := ((m.components.length + cntL m.components : Nat) : Int)) (by omega)
      have hz3 := szOf_lt (left := left) (n := ((cntMk m : Nat) : Int)) (by omega)
      repeat' (first | ((with_reducible first | (refine hK _ ?_; clear hK K) | refine stq fun K' hK' => ?_ | refine stc ?_); try simp only [go_sem, hz, hz2]) | (with_reducible first | refine stp ?_ | (refine hK' _ ?_; clear hK' K') | refine kN kl62 fun K hK => ?_ | refine kO fun K hK => ?_) | ((with_reducible apply CallK.eq); (· with_reducible first | exact szIntSS_ok m.grades hf1 hf2 _ (by omega) (by omega) | exact szIntSS_ok m.components hf3 hf4 _ (by omega) (by omega)); (· simp [RV.flat, D.sc, datI]); try simp only [go_sem, hz, hz2]) | (with_reducible refine pK_mk ?_ ?_ <;> (intro hc; (try simp only [go_sem, hz, hz2]); (try simp at hc); try (exfalso; omega))) | with_reducible refine And.intro (by first | omega | (unfold inI; omega)) ?_)
      all_goals (refine retQ_ret rfl rfl (by simp [rowsOf, lk]) ?_; rw [hz3])
  · have hz := szOf_lt (left := left) (n := ((m.grades.length + cntL m.grades : Nat) : Int)) (by omega)
    have hz3 := szOf_lt (left := left) (n := ((cntMk m : Nat) : Int)) (by omega)
    repeat' (first | ((with_reducible first | (refine hK _ ?_; clear hK K) | refine stq fun K' hK' => ?_ | refine stc ?_); try simp only [go_sem, hz]) | (with_reducible first | refine stp ?_ | (refine hK' _ ?_; clear hK' K') | refine kN kl62 fun K hK => ?_ | refine kO fun K hK => ?_) | ((with_reducible apply CallK.eq); (· with_reducible first | exact szIntSS_ok m.grades hf1 hf2 _ (by omega) (by omega)); (· simp [RV.flat, D.sc, datI]); try simp only [go_sem, hz]) | (with_reducible refine pK_mk ?_ ?_ <;> (intro hc; (try simp only [go_sem, hz]); (try simp at hc); try (exfalso; omega))) | with_reducible refine And.intro (by first | omega | (unfold inI; omega)) ?_)
    all_goals (refine retQ_ret rfl rfl (by simp [rowsOf, lk]) ?_; rw [hz3])
theorem szPerformance_ok (p : PerfD) (hf : PfFit 9223372036854775807 p) (left : Int) (h0 : 0 ≤ left) (h1 : left ≤ 1048576) : FnEq Tryz.prog 10 [.agg p.cs, .d (.int .i64 left)] [.d (.int .i64 (szOf left (cntPf p)))] := by
  obtain ⟨⟨hf1, hf2⟩, hf3⟩ := hf
  have hc : cntPf p = p.items.length + cntI p.items + (cntMk p.marks) := rfl
  refine fn_ok G_ok Tryz.func10 rfl rfl ?_; simp only [Tryz.ntmps10, List.length_cons, List.length_nil, Nat.reduceAdd, Nat.reduceSub, enm]
  by_cases hle : ((p.items.length + cntI p.items : Nat) : Int) ≤ left
  · have hz := szOf_ge hle
    by_cases hle2 : ((cntMk p.marks : Nat) : Int) ≤ left - ((p.items.length + cntI p.items : Nat) : Int)
    · have hz2 := szOf_ge hle2
      have hz3 := szOf_ge (left := left) (n := ((cntPf p : Nat) : Int)) (by omega)
      repeat' (first | ((with_reducible first | (refine hK _ ?_; clear hK K) | refine stq fun K' hK' => ?_ | refine stc ?_); try simp only [go_sem, hz, hz2]) | (with_reducible first | refine stp ?_ | (refine hK' _ ?_; clear hK' K') | refine kN kl10 fun K hK => ?_ | refine kO fun K hK => ?_) | ((with_reducible apply CallK.eq); (· with_reducible first | exact szItemS_ok p.items hf1 hf2 _ (by omega) (by omega) | exact szMarks_ok p.marks hf3 _ (by omega) (by omega)); (· simp [RV.flat, D.sc, datI]); try simp only [go_sem, hz, hz2]) | (with_reducible refine pK_mk ?_ ?_ <;> (intro hc; (try simp only [go_sem, hz, hz2]); (try simp at hc); try (exfalso; omega))) | with_reducible refine And.intro (by first | omega | (unfold inI; omega)) ?_)
      all_goals first
        | (exfalso; omega)
        | (refine retQ_ret rfl rfl (by simp [rowsOf, lk]) ?_; rw [hz3]; congr 3; omega)
    · have hz2 := szOf_lt (left := left - ((p.items.length + cntI p.items : Nat) : Int)) (n := ((cntMk p.marks : Nat) : Int)) (by omega)
      have hz3 := szOf_lt (left := left) (n := ((cntPf p : Nat) : Int)) (by omega)
      repeat' (first | ((with_reducible first | (refine hK _ ?_; clear hK K) | refine stq fun K' hK' => ?_ | refine stc ?_); try simp only [go_sem, hz, hz2]) | (with_reducible first | refine stp ?_ | (refine hK' _ ?_; clear hK' K') | refine kN kl10 fun K hK => ?_ | refine kO fun K hK => ?_) | ((with_reducible apply CallK.eq); (· with_reducible first | exact szItemS_ok p.items hf1 hf2 _ (by omega) (by omega) | exact szMarks_ok p.marks hf3 _ (by omega) (by omega)); (· simp [RV.flat, D.sc, datI]); try simp only [go_sem, hz, hz2]) | (with_reducible refine pK_mk ?_ ?_ <;> (intro hc; (try simp only [go_sem, hz, hz2]); (try simp at hc); try (exfalso; omega))) | with_reducible refine And.intro (by first | omega | (unfold inI; omega)) ?_)
      all_goals (refine retQ_ret rfl rfl (by simp [rowsOf, lk]) ?_; rw [hz3])
  · have hz := szOf_lt (left := left) (n := ((p.items.length + cntI p.items : Nat) : Int)) (by omega)
    have hz3 := szOf_lt (left := left) (n := ((cntPf p : Nat) : Int)) (by omega)
    repeat' (first | ((with_reducible first | (refine hK _ ?_; clear hK K) | refine stq fun K' hK' => ?_ | refine stc ?_); try simp only [go_sem, hz]) | (with_reducible first | refine stp ?_ | (refine hK' _ ?_; clear hK' K') | refine kN kl10 fun K hK => ?_ | refine kO fun K hK => ?_) | ((with_reducible apply CallK.eq); (· with_reducible first | exact szItemS_ok p.items hf1 hf2 _ (by omega) (by omega)); (· simp [RV.flat, D.sc, datI]); try simp only [go_sem, hz]) | (with_reducible refine pK_mk ?_ ?_ <;> (intro hc; (try simp only [go_sem, hz]); (try simp at hc); try (exfalso; omega))) | with_reducible refine And.intro (by first | omega | (unfold inI; omega)) ?_)
    all_goals (refine retQ_ret rfl rfl (by simp [rowsOf, lk]) ?_; rw [hz3])
end Go.Proofs.YtphakidbddamfaaGreat

/-
  Codes and performances: copies and comparisons by the laws' helpers, in the abstract machine; opened as arguments.
-/
set_option linter.unusedSimpArgs false
set_option linter.unusedVariables false
set_option maxHeartbeats 2000000
set_option maxRecDepth 100000
namespace Go.Proofs.YtphakidbddamfaaGreat
open Go.ChangeShapes Go.WideShapes Go.ChangeAt Go.RowKit Go.Deep

def MarksD.dat (m : MarksD) : List D := [.lst 1 (m.grades.map (datL 1 datI)), .lst 1 (m.components.map (datL 1 datI))]
def SlipsD.dat (s : SlipsD) : List D := [.int .i64 s.falls, .int .i64 s.seconds, .int .i64 s.other]
def PerfD.dat (p : PerfD) : List D := [.lst 3 (p.items.map ItemD.dat), .lst 1 (p.marks.grades.map (datL 1 datI)), .lst 1 (p.marks.components.map (datL 1 datI)), .int .i64 p.slips.falls, .int .i64 p.slips.seconds, .int .i64 p.slips.other]
theorem flatE_El (xs : List ElementD) : flatE (xs.map ElementD.dat) := by
  intro e he d hd
  obtain ⟨x, _, rfl⟩ := List.mem_map.1 he
  simp only [ElementD.dat, List.mem_cons, List.not_mem_nil, or_false] at hd
  rcases hd with rfl | rfl | rfl | rfl <;> simp [D.sc]
theorem toElement_ok (x : ElementD) : FnEq Tryz.prog 123 [.agg [.d (.str x.name), .d (.int .i64 x.family), .d (.int .i64 x.level), .d (.int .i64 x.base)]] [.agg [.str x.name, .int .i64 x.family, .int .i64 x.level, .int .i64 x.base]] := by
  refine fn_ok G_ok Tryz.func123 rfl rfl ?_; simp only [Tryz.ntmps123, List.length_cons, List.length_nil, Nat.reduceAdd, Nat.reduceSub, enm]
  repeat' (first | ((with_reducible first | (refine hK _ ?_; clear hK K) | refine stq fun K' hK' => ?_ | refine stc ?_); try simp only [go_sem]) | (with_reducible first | refine stp ?_ | (refine hK' _ ?_; clear hK' K') | refine kN kl123 fun K hK => ?_ | refine kO fun K hK => ?_) | (with_reducible refine pK_mk ?_ ?_ <;> (intro hc; (try simp only [go_sem]); (try simp at hc); try (exfalso; omega))) | with_reducible refine And.intro (by first | omega | (unfold inI; omega)) ?_)
  refine retQ_ret rfl rfl (by simp [rowsOf, rowIds, lk]) ?_
  rfl
def elZ : ElementD := ⟨⟨#[]⟩, 0, 0, 0⟩
theorem toElementS_ok (xs : List ElementD) (hn : xs.length ≤ 1048576) : FnEq Tryz.prog 67 [.d (.lst 4 (xs.map ElementD.dat))] [.row 161 4 (xs.map ElementD.dat)] := by
  refine fn_ok G_ok Tryz.func67 rfl rfl ?_; simp only [Tryz.ntmps67, List.length_cons, List.length_nil, Nat.reduceAdd, Nat.reduceSub, enm]
  repeat' (first | ((with_reducible first | (refine hK _ ?_; clear hK K) | refine stq fun K' hK' => ?_ | refine stc ?_); try simp only [go_sem]) | (with_reducible first | refine stp ?_ | (refine hK' _ ?_; clear hK' K') | refine kN kl67 fun K hK => ?_ | refine kO fun K hK => ?_) | refine iB ?_ | (with_reducible refine pK_mk ?_ ?_ <;> (intro hc; (try simp only [go_sem]); (try simp at hc); try (exfalso; omega))) | with_reducible refine And.intro (by first | omega | (unfold inI; omega)) ?_)
  refine pw_loop_over [2, 4, 8, 9, 10, 11, 12, 13, 14, 15, 16, 17, 18, 19, 20, 21] (fun k : Nat => [(4, .d (.int .i64 (k : Int))), (3, .row 0 xs.length)]) (fun k : Nat => [(0, .row 161 4 ((fillTo elZ xs k).map ElementD.dat))]) 1 (fun k : Nat => k ≤ xs.length) (fun k : Nat => xs.length - k) 0 (Nat.zero_le _) (fits_mk [] (by simp [renL_d, bdL_d, sg, over, wipe, wl, memN, ins, rm, lk, fitFr, fit1, ren, renL, bd, bdL, app, fitHp, hget, renB, bdB, fillTo_zero, ElementD.dat, elZ] <;> omega)) ?_
  intro k hk
  have hL := fillTo_len elZ xs k hk
  simp only [over, wipe, wl, memN, ins, rm, if_true, if_false, Nat.reduceEqDiff, Bool.false_eq_true, reduceCtorEq]
  by_cases hlt : k < xs.length
  · have hx := List.getElem?_eq_getElem hlt
    generalize xs[k] = x at hx
    have hg := fillTo_get elZ hlt
    have hset : List.set ((fillTo elZ xs k).map ElementD.dat) k [.str x.name, .int .i64 x.family, .int .i64 x.level, .int .i64 x.base] = (fillTo elZ xs (k + 1)).map ElementD.dat := by rw [← fillTo_set elZ hx, List.map_set]; rfl
    repeat' (first | ((with_reducible first | (refine hK _ ?_; clear hK K) | refine stq fun K' hK' => ?_ | refine stc ?_); try simp only [go_sem, List.getElem?_map, hx, hg, Option.map_some, ElementD.dat, hlt]) | (with_reducible first | refine stp ?_ | (refine hK' _ ?_; clear hK' K') | refine kN kl67 fun K hK => ?_ | refine kO fun K hK => ?_) | ((with_reducible apply CallK.eq); (· with_reducible first | exact toElement_ok x); (· simp [RV.flat, D.sc, datI]); try simp only [go_sem, List.getElem?_map, hx, hg, Option.map_some, ElementD.dat, hlt]) | refine iB ?_ | (with_reducible refine pK_mk ?_ ?_ <;> (intro hc; (try simp only [go_sem, List.getElem?_map, hx, hg, Option.map_some, ElementD.dat, hlt]); (try simp at hc); try (exfalso; omega))) | with_reducible refine And.intro (by first | omega | (unfold inI; omega)) ?_)
    exact ⟨k + 1, by omega, by omega, (fits_mk [] (by simp [renL_d, bdL_d, sg, over, wipe, wl, memN, ins, rm, lk, fitFr, fit1, ren, renL, bd, bdL, app, fitHp, hget, renB, bdB, hset] <;> omega))⟩
  · have e : k = xs.length := by omega
    subst e
    rw [fillTo_end]
    repeat' (first | ((with_reducible first | (refine hK _ ?_; clear hK K) | refine stq fun K' hK' => ?_ | refine stc ?_); try simp only [go_sem]) | (with_reducible first | refine stp ?_ | (refine hK' _ ?_; clear hK' K') | refine kN kl67 fun K hK => ?_ | refine kO fun K hK => ?_) | refine iB ?_ | (with_reducible refine pK_mk ?_ ?_ <;> (intro hc; (try simp only [go_sem]); (try simp at hc); try (exfalso; omega))) | with_reducible refine And.intro (by first | omega | (unfold inI; omega)) ?_)
    refine retQ_ret rfl (by simp only [retL, ret1, hget, lk, List.length_map, List.length_nil, List.length_append, List.length_take, if_true, if_false, Nat.reduceEqDiff, Nat.reduceBEq, Bool.false_eq_true, Option.some.injEq]; rfl) (by simp [rowsOf, lk]) ?_; rfl
theorem toCode_ok (c : CodeD) (hf : CdFit 1048576 c) : FnAg Tryz.prog 12 [.agg c.cs] [.row 161 4 (c.elements.map ElementD.dat), .row 3 1 (c.limits.map datI), .d (.int .i64 c.repeats), .d (.int .i64 c.bonus), .d (.int .i64 c.keeps), .d (.int .i64 c.fall)] := by
  obtain ⟨hf1, hf2, hf3⟩ := hf
  refine fn_okA G_ok Tryz.func12 rfl rfl ?_; simp only [Tryz.ntmps12, List.length_cons, List.length_nil, Nat.reduceAdd, Nat.reduceSub, enm]
  repeat' (first | ((with_reducible first | (refine hK _ ?_; clear hK K) | refine stq fun K' hK' => ?_ | refine stc ?_); try simp only [go_sem]) | (with_reducible first | refine stp ?_ | (refine hK' _ ?_; clear hK' K') | refine kN kl12 fun K hK => ?_ | refine kO fun K hK => ?_) | ((with_reducible apply CallK.eq); (· with_reducible first | exact toElementS_ok c.elements hf1 | exact toIntS_ok c.limits hf3); (· simp [RV.flat, D.sc, datI]); try simp only [go_sem]) | (with_reducible refine pK_mk ?_ ?_ <;> (intro hc; (try simp only [go_sem]); (try simp at hc); try (exfalso; omega))) | with_reducible refine And.intro (by first | omega | (unfold inI; omega)) ?_)
  refine ⟨_, rfl, by simp only [retL, ret1, hget, lk, List.take_succ_cons, List.take_zero, List.drop_zero, List.length_map, if_true, if_false, Nat.reduceEqDiff], by simp [rowsOf, lk]⟩
theorem toIntSS_ok (xs : List (List Int)) (hn : xs.length ≤ 1048576) (hs : ∀ r ∈ xs, r.length ≤ 1048576) : FnEq Tryz.prog 125 [.d (.lst 1 (xs.map (datL 1 datI)))] [.deep 23 1 (xs.map (datL 1 datI))] := by
  refine fn_ok G_ok Tryz.func125 rfl rfl ?_; simp only [Tryz.ntmps125, List.length_cons, List.length_nil, Nat.reduceAdd, Nat.reduceSub, enm]
  repeat' (first | ((with_reducible first | (refine hK _ ?_; clear hK K) | refine stq fun K' hK' => ?_ | refine stc ?_); try simp only [go_sem, Bool.true_and]) | (with_reducible first | refine stp ?_ | (refine hK' _ ?_; clear hK' K') | refine kN kl125 fun K hK => ?_ | refine kO fun K hK => ?_) | refine iB ?_ | (with_reducible refine pK_mk ?_ ?_ <;> (intro hc; (try simp only [go_sem, Bool.true_and]); (try simp at hc); try (exfalso; omega))) | with_reducible refine And.intro (by first | omega | (unfold inI; omega)) ?_)
  refine pw_loop_over [2, 4, 8, 9, 10, 11, 12, 13, 14, 15, 16, 17, 18, 19, 20, 21] (fun k : Nat => [(4, .d (.int .i64 (k : Int))), (3, .row 0 xs.length)]) (fun k : Nat => [(0, .deep 0 23 1 ((fillTo [] xs k).map (datL 1 datI)))]) 1 (fun k : Nat => k ≤ xs.length) (fun k : Nat => xs.length - k) 0 (Nat.zero_le _) (fits_mk [] (by simp [renL_d, bdL_d, sg, over, wipe, wl, memN, ins, rm, lk, fitFr, fit1, ren, renL, bd, bdL, app, fitHp, hget, renB, bdB, fillTo_zero, datL] <;> omega)) ?_
  intro k hk
  have hL := fillTo_len [] xs k hk
  simp only [over, wipe, wl, memN, ins, rm, if_true, if_false, Nat.reduceEqDiff, Bool.false_eq_true, reduceCtorEq]
  by_cases hlt : k < xs.length
  · have hx := List.getElem?_eq_getElem hlt
    generalize xs[k] = x at hx
    have hg := fillTo_get [] hlt
    have hset : List.set ((fillTo [] xs k).map (datL 1 datI)) k [.lst 1 (x.map datI)] = (fillTo [] xs (k + 1)).map (datL 1 datI) := by rw [← fillTo_set [] hx, List.map_set]; rfl
    repeat' (first | ((with_reducible first | (refine hK _ ?_; clear hK K) | refine stq fun K' hK' => ?_ | refine stc ?_); try simp only [go_sem, List.getElem?_map, hx, hg, Option.map_some, datL, hlt]) | (with_reducible first | refine stp ?_ | (refine hK' _ ?_; clear hK' K') | refine kN kl125 fun K hK => ?_ | refine kO fun K hK => ?_) | ((with_reducible apply CallK.eq); (· with_reducible first | exact toIntS_ok x (hs x (List.mem_of_getElem? hx))); (· simp [RV.flat, D.sc, datI]); try simp only [go_sem, List.getElem?_map, hx, hg, Option.map_some, datL, hlt]) | refine iB ?_ | (with_reducible refine pK_mk ?_ ?_ <;> (intro hc; (try simp only [go_sem, List.getElem?_map, hx, hg, Option.map_some, datL, hlt]); (try simp at hc); try (exfalso; omega))) | with_reducible refine And.intro (by first | omega | (unfold inI; omega)) ?_)
    refine po_store_own (e := datL 1 datI []) (ds := datL 1 datI x) rfl (G_ok _ _ G23) rfl rfl (by rw [List.getElem?_map, hg]; rfl) (by simp [ownL, ownC, cellsPV, AS.get, lk, hget, D.scB, datL]) (by simp [cellsPV, AS.get, lk, rowIds]) ?_ (by simp [cellsPV, AS.get, lk, rowIds]) rfl (Nat.le_refl _) ?_
    · simp only [flatL, flatC, cellsPV, AS.get, lk, hget, if_true, if_false, Nat.reduceEqDiff]; exact ⟨flatE_datI _, trivial⟩
    repeat' (first | ((with_reducible first | (refine hK _ ?_; clear hK K) | refine stq fun K' hK' => ?_ | refine stc ?_); try simp only [go_sem, datL, spl]) | (with_reducible first | refine stp ?_ | (refine hK' _ ?_; clear hK' K') | refine kN kl125 fun K hK => ?_ | refine kO fun K hK => ?_) | refine iB ?_ | (with_reducible refine pK_mk ?_ ?_ <;> (intro hc; (try simp only [go_sem, datL, spl]); (try simp at hc); try (exfalso; omega))) | with_reducible refine And.intro (by first | omega | (unfold inI; omega)) ?_)
    exact ⟨k + 1, by omega, by omega, (fits_mk [] (by simp [renL_d, bdL_d, sg, over, wipe, wl, memN, ins, rm, lk, fitFr, fit1, ren, renL, bd, bdL, app, fitHp, hget, renB, bdB, hset] <;> omega))⟩
  · have e : k = xs.length := by omega
    subst e
    rw [fillTo_end]
    repeat' (first | ((with_reducible first | (refine hK _ ?_; clear hK K) | refine stq fun K' hK' => ?_ | refine stc ?_); try simp only [go_sem]) | (with_reducible first | refine stp ?_ | (refine hK' _ ?_; clear hK' K') | refine kN kl125 fun K hK => ?_ | refine kO fun K hK => ?_) | refine iB ?_ | (with_reducible refine pK_mk ?_ ?_ <;> (intro hc; (try simp only [go_sem]); (try simp at hc); try (exfalso; omega))) | with_reducible refine And.intro (by first | omega | (unfold inI; omega)) ?_)
    refine retQ_ret rfl (by simp only [retL, ret1, hget, lk, List.length_map, List.length_nil, List.length_append, List.length_take, if_true, if_false, Nat.reduceEqDiff, Nat.reduceBEq, Bool.false_eq_true, Option.some.injEq]; rfl) (by simp [rowsOf, lk]) ?_; rfl
theorem toMarks_ok (m : MarksD) (hf : MkFit 1048576 m) : FnAg Tryz.prog 70 [.agg m.cs] [.deep 23 1 (m.grades.map (datL 1 datI)), .deep 23 1 (m.components.map (datL 1 datI))] := by
  obtain ⟨⟨hf1, hf2⟩, hf3, hf4⟩ := hf
  refine fn_okA G_ok Tryz.func70 rfl rfl ?_; simp only [Tryz.ntmps70, List.length_cons, List.length_nil, Nat.reduceAdd, Nat.reduceSub, enm]
  repeat' (first | ((with_reducible first | (refine hK _ ?_; clear hK K) | refine stq fun K' hK' => ?_ | refine stc ?_); try simp only [go_sem]) | (with_reducible first | refine stp ?_ | (refine hK' _ ?_; clear hK' K') | refine kN kl70 fun K hK => ?_ | refine kO fun K hK => ?_) | ((with_reducible apply CallK.eq); (· with_reducible first | exact toIntSS_ok m.grades hf1 hf2 | exact toIntSS_ok m.components hf3 hf4); (· simp [RV.flat, D.sc, datI]); try simp only [go_sem]) | (with_reducible refine pK_mk ?_ ?_ <;> (intro hc; (try simp only [go_sem]); (try simp at hc); try (exfalso; omega))) | with_reducible refine And.intro (by first | omega | (unfold inI; omega)) ?_)
  refine ⟨_, rfl, by simp only [retL, ret1, hget, lk, List.take_succ_cons, List.take_zero, List.drop_zero, List.length_map, if_true, if_false, Nat.reduceEqDiff], by simp [rowsOf, lk]⟩
theorem toSlips_ok (s : SlipsD) : FnEq Tryz.prog 71 [.agg s.cs] [.agg s.dat] := by
  refine fn_ok G_ok Tryz.func71 rfl rfl ?_; simp only [Tryz.ntmps71, List.length_cons, List.length_nil, Nat.reduceAdd, Nat.reduceSub, enm]
  repeat' (first | ((with_reducible first | (refine hK _ ?_; clear hK K) | refine stq fun K' hK' => ?_ | refine stc ?_); try simp only [go_sem]) | (with_reducible first | refine stp ?_ | (refine hK' _ ?_; clear hK' K') | refine kN kl71 fun K hK => ?_ | refine kO fun K hK => ?_) | (with_reducible refine pK_mk ?_ ?_ <;> (intro hc; (try simp only [go_sem]); (try simp at hc); try (exfalso; omega))) | with_reducible refine And.intro (by first | omega | (unfold inI; omega)) ?_)
  refine retQ_ret rfl rfl (by simp [rowsOf, rowIds, lk]) ?_
  rfl
theorem toPerformance_ok (p : PerfD) (hf : PfFit 1048576 p) : FnAg Tryz.prog 13 [.agg p.cs] [.deep 143 3 (p.items.map ItemD.dat), .deep 23 1 (p.marks.grades.map (datL 1 datI)), .deep 23 1 (p.marks.components.map (datL 1 datI)), .d (.int .i64 p.slips.falls), .d (.int .i64 p.slips.seconds), .d (.int .i64 p.slips.other)] := by
  obtain ⟨⟨hf1, hf2⟩, hf3⟩ := hf
  refine fn_okA G_ok Tryz.func13 rfl rfl ?_; simp only [Tryz.ntmps13, List.length_cons, List.length_nil, Nat.reduceAdd, Nat.reduceSub, enm]
  repeat' (first | ((with_reducible first | (refine hK _ ?_; clear hK K) | refine stq fun K' hK' => ?_ | refine stc ?_); try simp only [go_sem]) | (with_reducible first | refine stp ?_ | (refine hK' _ ?_; clear hK' K') | refine kN kl13 fun K hK => ?_ | refine kO fun K hK => ?_) | ((with_reducible apply CallK.eq); (· with_reducible first | exact toItemS_ok p.items hf1 hf2); (· simp [RV.flat, D.sc, datI]); try simp only [go_sem]) | (with_reducible refine pK_mk ?_ ?_ <;> (intro hc; (try simp only [go_sem]); (try simp at hc); try (exfalso; omega))) | with_reducible refine And.intro (by first | omega | (unfold inI; omega)) ?_)
  refine CallK.po (po_callA rfl rfl (toMarks_ok p.marks hf3) ⟨fun h => by simp [AS.get, lk, rf2, rf1, rf0] at h, ?_⟩)
  repeat' (first | ((with_reducible first | (refine hK _ ?_; clear hK K) | refine stq fun K' hK' => ?_ | refine stc ?_); try simp only [go_sem, SlipsD.dat]) | (with_reducible first | refine stp ?_ | (refine hK' _ ?_; clear hK' K') | refine kN kl13 fun K hK => ?_ | refine kO fun K hK => ?_) | ((with_reducible apply CallK.eq); (· with_reducible first | exact toSlips_ok p.slips); (· simp [RV.flat, D.sc, datI]); try simp only [go_sem, SlipsD.dat]) | (with_reducible refine pK_mk ?_ ?_ <;> (intro hc; (try simp only [go_sem, SlipsD.dat]); (try simp at hc); try (exfalso; omega))) | with_reducible refine And.intro (by first | omega | (unfold inI; omega)) ?_)
  refine ⟨_, rfl, by simp only [retL, ret1, hget, lk, List.take_succ_cons, List.take_zero, List.drop_zero, List.length_map, if_true, if_false, Nat.reduceEqDiff], by simp [rowsOf, lk]⟩
end Go.Proofs.YtphakidbddamfaaGreat
