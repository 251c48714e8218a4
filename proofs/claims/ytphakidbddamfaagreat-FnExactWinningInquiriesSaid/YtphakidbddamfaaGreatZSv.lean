/-
  Marks and slips: when they are valid: the program's functions and the reference's, in the abstract machine.
-/
import Derived.Test.YtphakidbddamfaaGreatZSx
set_option linter.unusedSimpArgs false
set_option linter.unusedVariables false
set_option maxHeartbeats 2000000
set_option maxRecDepth 100000
namespace Go.Proofs.YtphakidbddamfaaGreat
open Go.RowKit

def qP (x : Int) : Bool := !((decide (0 ≤ x) && decide (x ≤ 1000)) && (x.tmod 25 == 0))
theorem cpAt_iff {n k : Nat} {g : List Int} : CpAt n k g ↔ g.length = n ∧ g.any qP = false := by
  unfold CpAt
  rw [List.any_eq_false]
  constructor
  · rintro ⟨h1, h2, h3⟩
    refine ⟨h1, fun x hx => ?_⟩
    obtain ⟨i, hi⟩ := List.getElem?_of_mem hx
    have h4 := h2 i x hi
    have h5 : x.tmod 25 = 0 := h3 i x hi
    simp [qP, h4.1, h4.2, h5]
  · rintro ⟨h1, h2⟩
    refine ⟨h1, fun i x hi => ?_, fun i x hi => ?_⟩
    · have h4 := h2 x (List.mem_of_getElem? hi)
      simp [qP] at h4
      exact ⟨h4.1.1, h4.1.2⟩
    · have h4 := h2 x (List.mem_of_getElem? hi)
      simp [qP] at h4
      exact h4.2
theorem judges_of {m : MarksD} {g : List Int} (h : m.components[0]? = some g) : judgesW m = g.length := by
  unfold judgesW
  cases hc : m.components with
  | nil => rw [hc] at h; simp at h
  | cons a l => rw [hc] at h; simp at h; rw [← h]; rfl
theorem MarksOk.no_gr {m : MarksD} {k : Nat} {g : List Int} (hx : m.grades[k]? = some g) (h : ¬ GrAt (judgesW m) k g) : bP (MarksOk m) = false := bP_false fun h' => h (h'.2.2.2.2.1 k g hx)
theorem MarksOk.no_cp {m : MarksD} {k : Nat} {g : List Int} (hx : m.components[k]? = some g) (h : ¬ CpAt (judgesW m) k g) : bP (MarksOk m) = false := bP_false fun h' => h (h'.2.2.2.2.2 k g hx)
def MkNums (m : MarksD) : Prop := m.components.length = 3 ∧ m.grades.length ≤ 14 ∧ 3 ≤ judgesW m ∧ judgesW m ≤ 9
theorem MarksOk.no_nums {m : MarksD} (h : ¬ MkNums m) : bP (MarksOk m) = false := bP_false fun h' => h ⟨h'.1, h'.2.1, h'.2.2.1, h'.2.2.2.1⟩
theorem isComponentMark_ok (n : Int) (h1 : -1000000 ≤ n ∨ True) : FnEq Tryz.prog 237 [.d (.int .i64 n)] [.d (.bool ((decide (0 ≤ n) && decide (n ≤ 1000)) && (n.tmod 25 == 0)))] := by
  have hq : 0 ≤ n ∧ n ≤ 1000 → inI (n.tmod 25) := fun h => by have := tmod_bd (a := n) (b := 25) (A := 1000) (by omega) (by omega); unfold inI; omega
  refine fn_ok G_ok Tryz.func237 rfl rfl ?_; simp only [Tryz.ntmps237, List.length_cons, List.length_nil, Nat.reduceAdd, Nat.reduceSub, enm]
  by_cases hr : 0 ≤ n ∧ n ≤ 1000
  · have hb : (decide (0 ≤ n) && decide (n ≤ 1000)) = true := by simp [hr]
    have hq := hq hr
    unfold inI at hq
    rw [hb]
    repeat' (first | ((with_reducible first | (refine hK _ ?_; clear hK K) | refine stq fun K' hK' => ?_ | refine stc ?_); try simp only [go_sem, hb]) | (with_reducible first | refine stp ?_ | (refine hK' _ ?_; clear hK' K') | refine kN kl237 fun K hK => ?_ | refine kO fun K hK => ?_) | (refine xS rfl fun K' hK' => ?_; simp only [go_sem, hb]) | ((with_reducible apply CallK.eq); (· with_reducible first | exact within_ok _ _ _); (· simp [RV.flat, D.sc, datI]); try simp only [go_sem, hb]) | (with_reducible refine pK_mk ?_ ?_ <;> (intro hc; (try simp only [go_sem, hb]); (try simp at hc); try (exfalso; omega))) | with_reducible refine And.intro (by first | omega | (unfold inI; omega)) ?_)
    all_goals first
      | (exfalso; omega)
      | (refine retQ_ret rfl rfl (by simp [rowsOf, lk]) ?_; simp)
  · have hb : (decide (0 ≤ n) && decide (n ≤ 1000)) = false := by rw [Bool.eq_false_iff]; intro h; simp at h; omega
    rw [hb]
    repeat' (first | ((with_reducible first | (refine hK _ ?_; clear hK K) | refine stq fun K' hK' => ?_ | refine stc ?_); try simp only [go_sem, hb]) | (with_reducible first | refine stp ?_ | (refine hK' _ ?_; clear hK' K') | refine kN kl237 fun K hK => ?_ | refine kO fun K hK => ?_) | (refine xS rfl fun K' hK' => ?_; simp only [go_sem, hb]) | ((with_reducible apply CallK.eq); (· with_reducible first | exact within_ok _ _ _); (· simp [RV.flat, D.sc, datI]); try simp only [go_sem, hb]) | (with_reducible refine pK_mk ?_ ?_ <;> (intro hc; (try simp only [go_sem, hb]); (try simp at hc); try (exfalso; omega))) | with_reducible refine And.intro (by first | omega | (unfold inI; omega)) ?_)
    all_goals first
      | (exfalso; omega)
      | (refine retQ_ret rfl rfl (by simp [rowsOf, lk]) ?_; simp)
theorem isMarks1_ok (n : Int) : FnEq Tryz.prog 236 [.d (.int .i64 n)] [.d (.bool (qP n))] := by
  refine fn_ok G_ok Tryz.func236 rfl rfl ?_; simp only [Tryz.ntmps236, List.length_cons, List.length_nil, Nat.reduceAdd, Nat.reduceSub, enm]
  repeat' (first | ((with_reducible first | (refine hK _ ?_; clear hK K) | refine stq fun K' hK' => ?_ | refine stc ?_); try simp only [go_sem]) | (with_reducible first | refine stp ?_ | (refine hK' _ ?_; clear hK' K') | refine kN kl236 fun K hK => ?_ | refine kO fun K hK => ?_) | ((with_reducible apply CallK.eq); (· with_reducible first | exact isComponentMark_ok n (.inr trivial)); (· simp [RV.flat, D.sc, datI]); try simp only [go_sem]) | (with_reducible refine pK_mk ?_ ?_ <;> (intro hc; (try simp only [go_sem]); (try simp at hc); try (exfalso; omega))) | with_reducible refine And.intro (by first | omega | (unfold inI; omega)) ?_)
  refine retQ_ret rfl rfl (by simp [rowsOf, lk]) ?_; rfl
theorem indexI_ok (xs : List Int) (fid : Nat) (caps : List PV) (p : Int → Bool) (hn : xs.length ≤ 16777216) (hcap : CapOK caps) (hf : ∀ x : Int, FnEq Tryz.prog fid (.d (.int .i64 x) :: caps) [.d (.bool (p x))]) :
    FnEq Tryz.prog 251 [.d (.lst 1 (xs.map datI)), .fn fid caps] [.d (.int .i64 (fIx p xs 0))] := by
  refine fn_ok G_ok Tryz.func251 rfl rfl ?_; simp only [Tryz.ntmps251, List.length_cons, List.length_nil, Nat.reduceAdd, Nat.reduceSub, enm]
  repeat' (first | ((with_reducible first | (refine hK _ ?_; clear hK K) | refine stq fun K' hK' => ?_ | refine stc ?_); try simp only [go_sem]) | (with_reducible first | refine stp ?_ | (refine hK' _ ?_; clear hK' K') | refine kN kl251 fun K hK => ?_ | refine kO fun K hK => ?_) | refine iB ?_ | (with_reducible refine pK_mk ?_ ?_ <;> (intro hc; (try simp only [go_sem]); (try simp at hc); try (exfalso; omega))) | with_reducible refine And.intro (by first | omega | (unfold inI; omega)) ?_)
  refine pw_loop_over [4, 5, 8, 9, 10, 11, 12, 13, 14, 15, 16, 17, 18] (fun k : Nat => [(8, .d (.int .i64 (k : Int)))]) (fun k : Nat => []) 0 (fun k : Nat => k ≤ xs.length ∧ ∀ y ∈ xs.take k, p y = false) (fun k : Nat => xs.length - k) 0 ⟨Nat.zero_le _, by simp⟩ (fits_mk [] (by simp [renL_d, bdL_d, sg, over, wipe, wl, memN, ins, rm, lk, fitFr, fit1, ren, renL, bd, bdL, app, fitHp, hget, renB, bdB, hcap.ren, hcap.bd] <;> omega)) ?_
  rintro k ⟨hk, hJ⟩
  simp only [over, wipe, wl, memN, ins, rm, if_true, if_false, Nat.reduceEqDiff, Bool.false_eq_true, reduceCtorEq]
  by_cases hlt : k < xs.length
  · have hx := List.getElem?_eq_getElem hlt
    generalize xs[k] = x at hx
    repeat' (first | ((with_reducible first | (refine hK _ ?_; clear hK K) | refine stq fun K' hK' => ?_ | refine stc ?_); try simp only [go_sem, List.getElem?_map, hx, Option.map_some, datI, hcap.t2]) | (with_reducible first | refine stp ?_ | (refine hK' _ ?_; clear hK' K') | refine kN kl251 fun K hK => ?_ | refine kO fun K hK => ?_) | ((with_reducible apply CallK.eq); (· with_reducible first | exact hf x); (· simp [RV.flat, D.sc, datI]); try simp only [go_sem, List.getElem?_map, hx, Option.map_some, datI, hcap.t2]) | refine iB ?_ | (with_reducible refine pK_mk ?_ ?_ <;> (intro hc; (try simp only [go_sem, List.getElem?_map, hx, Option.map_some, datI, hcap.t2]); (try simp at hc); try (exfalso; omega))) | with_reducible refine And.intro (by first | omega | (unfold inI; omega)) ?_)
    · refine retQ_ret rfl rfl (by simp [rowsOf, lk]) ?_; rw [fIx_at (i := 0) hx hc hJ]; simp
    · exact ⟨k + 1, ⟨by omega, none_snoc hJ hx hc⟩, by omega, (fits_mk [] (by simp [renL_d, bdL_d, sg, over, wipe, wl, memN, ins, rm, lk, fitFr, fit1, ren, renL, bd, bdL, app, fitHp, hget, renB, bdB, hcap.ren, hcap.bd] <;> omega))⟩
  · repeat' (first | ((with_reducible first | (refine hK _ ?_; clear hK K) | refine stq fun K' hK' => ?_ | refine stc ?_); try simp only [go_sem]) | (with_reducible first | refine stp ?_ | (refine hK' _ ?_; clear hK' K') | refine kN kl251 fun K hK => ?_ | refine kO fun K hK => ?_) | refine iB ?_ | (with_reducible refine pK_mk ?_ ?_ <;> (intro hc; (try simp only [go_sem]); (try simp at hc); try (exfalso; omega))) | with_reducible refine And.intro (by first | omega | (unfold inI; omega)) ?_)
    refine retQ_ret rfl rfl (by simp [rowsOf, lk]) ?_; rw [fIx_none (none_all hJ (by omega))]
theorem containsI_ok (xs : List Int) (fid : Nat) (caps : List PV) (p : Int → Bool) (hn : xs.length ≤ 16777216) (hcap : CapOK caps) (hf : ∀ x : Int, FnEq Tryz.prog fid (.d (.int .i64 x) :: caps) [.d (.bool (p x))]) :
    FnEq Tryz.prog 235 [.d (.lst 1 (xs.map datI)), .fn fid caps] [.d (.bool (xs.any p))] := by
  refine fn_ok G_ok Tryz.func235 rfl rfl ?_; simp only [Tryz.ntmps235, List.length_cons, List.length_nil, Nat.reduceAdd, Nat.reduceSub, enm]
  repeat' (first | ((with_reducible first | (refine hK _ ?_; clear hK K) | refine stq fun K' hK' => ?_ | refine stc ?_); try simp only [go_sem, hcap.t1]) | (with_reducible first | refine stp ?_ | (refine hK' _ ?_; clear hK' K') | refine kN kl235 fun K hK => ?_ | refine kO fun K hK => ?_) | ((with_reducible apply CallK.eq); (· with_reducible first | exact indexI_ok xs fid caps p hn hcap hf); (· simp [RV.flat, D.sc, datI]); try simp only [go_sem, hcap.t1]) | (with_reducible refine pK_mk ?_ ?_ <;> (intro hc; (try simp only [go_sem, hcap.t1]); (try simp at hc); try (exfalso; omega))) | with_reducible refine And.intro (by first | omega | (unfold inI; omega)) ?_)
  refine retQ_ret rfl rfl (by simp [rowsOf, lk]) ?_; rw [fIx_any]
theorem judgesOf_ok (m : MarksD) (g : List Int) (h0 : m.components[0]? = some g) : FnEq Tryz.prog 234 [.agg m.cs] [.d (.int .i64 (g.length : Nat))] := by
  have hl := (List.getElem?_eq_some_iff.1 h0).1
  refine fn_ok G_ok Tryz.func234 rfl rfl ?_; simp only [Tryz.ntmps234, List.length_cons, List.length_nil, Nat.reduceAdd, Nat.reduceSub, enm]
  repeat' (first | ((with_reducible first | (refine hK _ ?_; clear hK K) | refine stq fun K' hK' => ?_ | refine stc ?_); try simp only [go_sem, List.getElem?_map, h0, Option.map_some, datL, hl]) | (with_reducible first | refine stp ?_ | (refine hK' _ ?_; clear hK' K') | refine kN kl234 fun K hK => ?_ | refine kO fun K hK => ?_) | (with_reducible refine pK_mk ?_ ?_ <;> (intro hc; (try simp only [go_sem, List.getElem?_map, h0, Option.map_some, datL, hl]); (try simp at hc); try (exfalso; omega))) | with_reducible refine And.intro (by first | omega | (unfold inI; omega)) ?_)
  all_goals first
    | (exfalso; omega)
    | (refine retQ_ret rfl rfl (by simp [rowsOf, lk]) ?_; simp)
set_option maxHeartbeats 8000000 in
theorem isMarks_ok (m : MarksD) (hf : MkFit 1048576 m) : FnEq Tryz.prog 223 [.agg m.cs] [.d (.bool (bP (MarksOk m)))] := by
  obtain ⟨⟨hf1, hf2⟩, hf3, hf4⟩ := hf
  refine fn_ok G_ok Tryz.func223 rfl rfl ?_; simp only [Tryz.ntmps223, List.length_cons, List.length_nil, Nat.reduceAdd, Nat.reduceSub, enm]
  by_cases h3 : m.components.length = 3
  · have h0 := List.getElem?_eq_getElem (show 0 < m.components.length by omega)
    generalize m.components[0] = g0 at h0
    have hj := judges_of h0
    have hjo := judgesOf_ok m g0 h0
    have hg0 := hf4 g0 (List.mem_of_getElem? h0)
    have hlt0 : 0 < m.components.length := by omega
    repeat' (first | ((with_reducible first | (refine hK _ ?_; clear hK K) | refine stq fun K' hK' => ?_ | refine stc ?_); try simp only [go_sem, List.getElem?_map, h0, Option.map_some, datL, hlt0]) | (with_reducible first | refine stp ?_ | (refine hK' _ ?_; clear hK' K') | refine kN kl223 fun K hK => ?_ | refine kO fun K hK => ?_) | (refine xS rfl fun K' hK' => ?_; simp only [go_sem, List.getElem?_map, h0, Option.map_some, datL, hlt0]) | ((with_reducible apply CallK.eq); (· with_reducible first | exact within_ok _ _ _); (· simp [RV.flat, D.sc, datI]); try simp only [go_sem, List.getElem?_map, h0, Option.map_some, datL, hlt0]) | refine iB ?_ | (with_reducible refine pK_mk ?_ ?_ <;> (intro hc; (try simp only [go_sem, List.getElem?_map, h0, Option.map_some, datL, hlt0]); (try simp at hc); try (exfalso; omega))) | with_reducible refine And.intro (by first | omega | (unfold inI; omega)) ?_)
    all_goals first
      | (exfalso; omega)
      | (refine retQ_ret rfl rfl (by simp [rowsOf, lk]) ?_; rw [MarksOk.no_nums (by unfold MkNums; omega)]; done)
      | skip
    refine pw_loop_over [2, 4, 29, 30, 31, 32, 33, 34, 35, 36, 37, 38, 39, 40, 41, 42, 43] (fun k : Nat => [(29, .d (.int .i64 (k : Int)))]) (fun k : Nat => [(0, .box 45 [.d (.lst 1 (m.grades.map (datL 1 datI))), .d (.lst 1 (m.components.map (datL 1 datI)))])]) 1 (fun k : Nat => k ≤ m.grades.length ∧ Upto (GrAt (judgesW m)) m.grades k) (fun k : Nat => m.grades.length - k) 0 ⟨Nat.zero_le _, Upto.zero _ _⟩ (fits_mk [] (by simp [renL_d, bdL_d, sg, over, wipe, wl, memN, ins, rm, lk, fitFr, fit1, ren, renL, bd, bdL, app, fitHp, hget, renB, bdB] <;> omega)) ?_
    rintro k ⟨hk, hJ⟩
    simp only [over, wipe, wl, memN, ins, rm, if_true, if_false, Nat.reduceEqDiff, Bool.false_eq_true, reduceCtorEq]
    by_cases hlt : k < m.grades.length
    · have hx := List.getElem?_eq_getElem hlt
      generalize m.grades[k] = x at hx
      have hxl := hf2 x (List.mem_of_getElem? hx)
      by_cases hA : AllIn (-5) 5 x
      · have hAb := bP_true hA
        by_cases hl : x.length = g0.length
        · have hE : GrAt (judgesW m) k x := ⟨by omega, hA⟩
          have hJ' := hJ.succ hx hE
          repeat' (first | ((with_reducible first | (refine hK _ ?_; clear hK K) | refine stq fun K' hK' => ?_ | refine stc ?_); try simp only [go_sem, List.getElem?_map, hx, Option.map_some, datL, hAb]) | (with_reducible first | refine stp ?_ | (refine hK' _ ?_; clear hK' K') | refine kN kl223 fun K hK => ?_ | refine kO fun K hK => ?_) | (refine xS rfl fun K' hK' => ?_; simp only [go_sem, List.getElem?_map, hx, Option.map_some, datL, hAb]) | ((with_reducible apply CallK.eq); (· with_reducible first | exact hjo | exact allWithin_ok x (-5) 5 (by omega)); (· simp [RV.flat, D.sc, datI]); try simp only [go_sem, List.getElem?_map, hx, Option.map_some, datL, hAb]) | refine iB ?_ | (with_reducible refine pK_mk ?_ ?_ <;> (intro hc; (try simp only [go_sem, List.getElem?_map, hx, Option.map_some, datL, hAb]); (try simp at hc); try (exfalso; omega))) | with_reducible refine And.intro (by first | omega | (unfold inI; omega)) ?_)
          all_goals first
            | (exfalso; omega)
            | exact ⟨k + 1, ⟨by omega, hJ'⟩, by omega, (fits_mk [] (by simp [renL_d, bdL_d, sg, over, wipe, wl, memN, ins, rm, lk, fitFr, fit1, ren, renL, bd, bdL, app, fitHp, hget, renB, bdB] <;> omega))⟩
        · have hE : ¬ GrAt (judgesW m) k x := fun h => hl (by have := h.1; omega)
          repeat' (first | ((with_reducible first | (refine hK _ ?_; clear hK K) | refine stq fun K' hK' => ?_ | refine stc ?_); try simp only [go_sem, List.getElem?_map, hx, Option.map_some, datL, hAb]) | (with_reducible first | refine stp ?_ | (refine hK' _ ?_; clear hK' K') | refine kN kl223 fun K hK => ?_ | refine kO fun K hK => ?_) | (refine xS rfl fun K' hK' => ?_; simp only [go_sem, List.getElem?_map, hx, Option.map_some, datL, hAb]) | ((with_reducible apply CallK.eq); (· with_reducible first | exact hjo | exact allWithin_ok x (-5) 5 (by omega)); (· simp [RV.flat, D.sc, datI]); try simp only [go_sem, List.getElem?_map, hx, Option.map_some, datL, hAb]) | refine iB ?_ | (with_reducible refine pK_mk ?_ ?_ <;> (intro hc; (try simp only [go_sem, List.getElem?_map, hx, Option.map_some, datL, hAb]); (try simp at hc); try (exfalso; omega))) | with_reducible refine And.intro (by first | omega | (unfold inI; omega)) ?_)
          all_goals first
            | (exfalso; omega)
            | (refine retQ_ret rfl rfl (by simp [rowsOf, lk]) ?_; rw [MarksOk.no_gr hx hE])
      · have hAb := bP_false hA
        have hE : ¬ GrAt (judgesW m) k x := fun h => hA h.2
        repeat' (first | ((with_reducible first | (refine hK _ ?_; clear hK K) | refine stq fun K' hK' => ?_ | refine stc ?_); try simp only [go_sem, List.getElem?_map, hx, Option.map_some, datL, hAb]) | (with_reducible first | refine stp ?_ | (refine hK' _ ?_; clear hK' K') | refine kN kl223 fun K hK => ?_ | refine kO fun K hK => ?_) | (refine xS rfl fun K' hK' => ?_; simp only [go_sem, List.getElem?_map, hx, Option.map_some, datL, hAb]) | ((with_reducible apply CallK.eq); (· with_reducible first | exact hjo | exact allWithin_ok x (-5) 5 (by omega)); (· simp [RV.flat, D.sc, datI]); try simp only [go_sem, List.getElem?_map, hx, Option.map_some, datL, hAb]) | refine iB ?_ | (with_reducible refine pK_mk ?_ ?_ <;> (intro hc; (try simp only [go_sem, List.getElem?_map, hx, Option.map_some, datL, hAb]); (try simp at hc); try (exfalso; omega))) | with_reducible refine And.intro (by first | omega | (unfold inI; omega)) ?_)
        all_goals first
          | (exfalso; omega)
          | (refine retQ_ret rfl rfl (by simp [rowsOf, lk]) ?_; rw [MarksOk.no_gr hx hE])
    · have hG := hJ.all (show m.grades.length ≤ k by omega)
      repeat' (first | ((with_reducible first | (refine hK _ ?_; clear hK K) | refine stq fun K' hK' => ?_ | refine stc ?_); try simp only [go_sem]) | (with_reducible first | refine stp ?_ | (refine hK' _ ?_; clear hK' K') | refine kN kl223 fun K hK => ?_ | refine kO fun K hK => ?_) | (refine xS rfl fun K' hK' => ?_; simp only [go_sem]) | refine iB ?_ | (with_reducible refine pK_mk ?_ ?_ <;> (intro hc; (try simp only [go_sem]); (try simp at hc); try (exfalso; omega))) | with_reducible refine And.intro (by first | omega | (unfold inI; omega)) ?_)
      all_goals first
        | (exfalso; omega)
        | skip
      refine pw_loop_over [2, 6, 47, 48, 49, 50, 51, 52, 53, 54, 55, 56, 57, 58, 59, 60] (fun k : Nat => [(47, .d (.int .i64 (k : Int)))]) (fun k : Nat => [(0, .box 45 [.d (.lst 1 (m.grades.map (datL 1 datI))), .d (.lst 1 (m.components.map (datL 1 datI)))])]) 1 (fun k : Nat => k ≤ m.components.length ∧ Upto (CpAt (judgesW m)) m.components k) (fun k : Nat => m.components.length - k) 0 ⟨Nat.zero_le _, Upto.zero _ _⟩ (fits_mk [] (by simp [renL_d, bdL_d, sg, over, wipe, wl, memN, ins, rm, lk, fitFr, fit1, ren, renL, bd, bdL, app, fitHp, hget, renB, bdB] <;> omega)) ?_
      rintro j ⟨hk2, hJ2⟩
      simp only [over, wipe, wl, memN, ins, rm, if_true, if_false, Nat.reduceEqDiff, Bool.false_eq_true, reduceCtorEq]
      by_cases hlt2 : j < m.components.length
      · have hx := List.getElem?_eq_getElem hlt2
        generalize m.components[j] = x at hx
        have hxl := hf4 x (List.mem_of_getElem? hx)
        have hci := containsI_ok x 236 [] qP (by omega) noCap (fun y => isMarks1_ok y)
        by_cases hl : x.length = g0.length
        · cases hA : x.any qP
          · have hE : CpAt (judgesW m) j x := cpAt_iff.2 ⟨by omega, hA⟩
            have hJ' := hJ2.succ hx hE
            rw [hA] at hci
            repeat' (first | ((with_reducible first | (refine hK _ ?_; clear hK K) | refine stq fun K' hK' => ?_ | refine stc ?_); try simp only [go_sem, List.getElem?_map, hx, Option.map_some, datL]) | (with_reducible first | refine stp ?_ | (refine hK' _ ?_; clear hK' K') | refine kN kl223 fun K hK => ?_ | refine kO fun K hK => ?_) | (refine xS rfl fun K' hK' => ?_; simp only [go_sem, List.getElem?_map, hx, Option.map_some, datL]) | ((with_reducible apply CallK.eq); (· with_reducible first | exact hjo | exact hci); (· simp [RV.flat, D.sc, datI]); try simp only [go_sem, List.getElem?_map, hx, Option.map_some, datL]) | refine iB ?_ | (with_reducible refine pK_mk ?_ ?_ <;> (intro hc; (try simp only [go_sem, List.getElem?_map, hx, Option.map_some, datL]); (try simp at hc); try (exfalso; omega))) | with_reducible refine And.intro (by first | omega | (unfold inI; omega)) ?_)
            all_goals first
              | (exfalso; omega)
              | exact ⟨j + 1, ⟨by omega, hJ'⟩, by omega, (fits_mk [] (by simp [renL_d, bdL_d, sg, over, wipe, wl, memN, ins, rm, lk, fitFr, fit1, ren, renL, bd, bdL, app, fitHp, hget, renB, bdB] <;> omega))⟩
          · have hE : ¬ CpAt (judgesW m) j x := fun h => by have := (cpAt_iff.1 h).2; rw [hA] at this; cases this
            rw [hA] at hci
            repeat' (first | ((with_reducible first | (refine hK _ ?_; clear hK K) | refine stq fun K' hK' => ?_ | refine stc ?_); try simp only [go_sem, List.getElem?_map, hx, Option.map_some, datL]) | (with_reducible first | refine stp ?_ | (refine hK' _ ?_; clear hK' K') | refine kN kl223 fun K hK => ?_ | refine kO fun K hK => ?_) | (refine xS rfl fun K' hK' => ?_; simp only [go_sem, List.getElem?_map, hx, Option.map_some, datL]) | ((with_reducible apply CallK.eq); (· with_reducible first | exact hjo | exact hci); (· simp [RV.flat, D.sc, datI]); try simp only [go_sem, List.getElem?_map, hx, Option.map_some, datL]) | refine iB ?_ | (with_reducible refine pK_mk ?_ ?_ <;> (intro hc; (try simp only [go_sem, List.getElem?_map, hx, Option.map_some, datL]); (try simp at hc); try (exfalso; omega))) | with_reducible refine And.intro (by first | omega | (unfold inI; omega)) ?_)
            all_goals first
              | (exfalso; omega)
              | (refine retQ_ret rfl rfl (by simp [rowsOf, lk]) ?_; rw [MarksOk.no_cp hx hE])
        · have hE : ¬ CpAt (judgesW m) j x := fun h => hl (by have := h.1; omega)
          repeat' (first | ((with_reducible first | (refine hK _ ?_; clear hK K) | refine stq fun K' hK' => ?_ | refine stc ?_); try simp only [go_sem, List.getElem?_map, hx, Option.map_some, datL]) | (with_reducible first | refine stp ?_ | (refine hK' _ ?_; clear hK' K') | refine kN kl223 fun K hK => ?_ | refine kO fun K hK => ?_) | (refine xS rfl fun K' hK' => ?_; simp only [go_sem, List.getElem?_map, hx, Option.map_some, datL]) | ((with_reducible apply CallK.eq); (· with_reducible first | exact hjo | exact hci); (· simp [RV.flat, D.sc, datI]); try simp only [go_sem, List.getElem?_map, hx, Option.map_some, datL]) | refine iB ?_ | (with_reducible refine pK_mk ?_ ?_ <;> (intro hc; (try simp only [go_sem, List.getElem?_map, hx, Option.map_some, datL]); (try simp at hc); try (exfalso; omega))) | with_reducible refine And.intro (by first | omega | (unfold inI; omega)) ?_)
          all_goals first
            | (exfalso; omega)
            | (refine retQ_ret rfl rfl (by simp [rowsOf, lk]) ?_; rw [MarksOk.no_cp hx hE])
      · have hC := hJ2.all (show m.components.length ≤ j by omega)
        repeat' (first | ((with_reducible first | (refine hK _ ?_; clear hK K) | refine stq fun K' hK' => ?_ | refine stc ?_); try simp only [go_sem]) | (with_reducible first | refine stp ?_ | (refine hK' _ ?_; clear hK' K') | refine kN kl223 fun K hK => ?_ | refine kO fun K hK => ?_) | (refine xS rfl fun K' hK' => ?_; simp only [go_sem]) | refine iB ?_ | (with_reducible refine pK_mk ?_ ?_ <;> (intro hc; (try simp only [go_sem]); (try simp at hc); try (exfalso; omega))) | with_reducible refine And.intro (by first | omega | (unfold inI; omega)) ?_)
        all_goals first
          | (exfalso; omega)
          | (refine retQ_ret rfl rfl (by simp [rowsOf, lk]) ?_; rw [bP_true (show MarksOk m from ⟨h3, by omega, by omega, by omega, hG, hC⟩)])
  · repeat' (first | ((with_reducible first | (refine hK _ ?_; clear hK K) | refine stq fun K' hK' => ?_ | refine stc ?_); try simp only [go_sem]) | (with_reducible first | refine stp ?_ | (refine hK' _ ?_; clear hK' K') | refine kN kl223 fun K hK => ?_ | refine kO fun K hK => ?_) | (refine xS rfl fun K' hK' => ?_; simp only [go_sem]) | ((with_reducible apply CallK.eq); (· with_reducible first | exact within_ok _ _ _); (· simp [RV.flat, D.sc, datI]); try simp only [go_sem]) | refine iB ?_ | (with_reducible refine pK_mk ?_ ?_ <;> (intro hc; (try simp only [go_sem]); (try simp at hc); try (exfalso; omega))) | with_reducible refine And.intro (by first | omega | (unfold inI; omega)) ?_)
    all_goals first
      | (exfalso; omega)
      | (refine retQ_ret rfl rfl (by simp [rowsOf, lk]) ?_; rw [MarksOk.no_nums (fun h => h3 h.1)])
theorem AreMarks_ok (m : MarksD) (n : Int) (hf : MkFit 1048576 m) : FnEq Tryz.prog 210 [.agg m.cs, .d (.int .i64 n)] [.d (.bool (bP (AreMk m n)))] := by
  have hi := isMarks_ok m hf
  obtain ⟨⟨hf1, hf2⟩, hf3, hf4⟩ := hf
  refine fn_ok G_ok Tryz.func210 rfl rfl ?_; simp only [Tryz.ntmps210, List.length_cons, List.length_nil, Nat.reduceAdd, Nat.reduceSub, enm]
  by_cases hm : MarksOk m
  · have hb := bP_true hm
    have e : bP (AreMk m n) = decide ((m.grades.length : Int) = n) := by rw [Bool.eq_iff_iff, bP_iff, decide_eq_true_eq]; exact ⟨fun h => h.2, fun h => ⟨hm, h⟩⟩
    rw [hb] at hi
    rw [e]
    repeat' (first | ((with_reducible first | (refine hK _ ?_; clear hK K) | refine stq fun K' hK' => ?_ | refine stc ?_); try simp only [go_sem]) | (with_reducible first | refine stp ?_ | (refine hK' _ ?_; clear hK' K') | refine kN kl210 fun K hK => ?_ | refine kO fun K hK => ?_) | (refine xS rfl fun K' hK' => ?_; simp only [go_sem]) | ((with_reducible apply CallK.eq); (· with_reducible first | exact hi); (· simp [RV.flat, D.sc, datI]); try simp only [go_sem]) | (with_reducible refine pK_mk ?_ ?_ <;> (intro hc; (try simp only [go_sem]); (try simp at hc); try (exfalso; omega))) | with_reducible refine And.intro (by first | omega | (unfold inI; omega)) ?_)
    all_goals first
      | (exfalso; omega)
      | (refine retQ_ret rfl rfl (by simp [rowsOf, lk]) ?_; first | rfl | (simp; done) | (simp_all; done))
  · have hb := bP_false hm
    have e : bP (AreMk m n) = false := bP_false fun h => hm h.1
    rw [hb] at hi
    rw [e]
    repeat' (first | ((with_reducible first | (refine hK _ ?_; clear hK K) | refine stq fun K' hK' => ?_ | refine stc ?_); try simp only [go_sem]) | (with_reducible first | refine stp ?_ | (refine hK' _ ?_; clear hK' K') | refine kN kl210 fun K hK => ?_ | refine kO fun K hK => ?_) | (refine xS rfl fun K' hK' => ?_; simp only [go_sem]) | ((with_reducible apply CallK.eq); (· with_reducible first | exact hi); (· simp [RV.flat, D.sc, datI]); try simp only [go_sem]) | (with_reducible refine pK_mk ?_ ?_ <;> (intro hc; (try simp only [go_sem]); (try simp at hc); try (exfalso; omega))) | with_reducible refine And.intro (by first | omega | (unfold inI; omega)) ?_)
    all_goals first
      | (exfalso; omega)
      | (refine retQ_ret rfl rfl (by simp [rowsOf, lk]) ?_; first | rfl | (simp; done) | (simp_all; done))
theorem mkListF_ok (g : List Int) (n : Int) (hg : g.length ≤ 1048576) : FnEq Tryz.prog 213 [.d (.lst 1 (g.map datI)), .d (.int .i64 n), .d (.bool false)] [.d (.bool (bP ((g.length : Int) = n ∧ AllIn (-5) 5 g)))] := by
  refine fn_ok G_ok Tryz.func213 rfl rfl ?_; simp only [Tryz.ntmps213, List.length_cons, List.length_nil, Nat.reduceAdd, Nat.reduceSub, enm]
  repeat' (first | ((with_reducible first | (refine hK _ ?_; clear hK K) | refine stq fun K' hK' => ?_ | refine stc ?_); try simp only [go_sem]) | (with_reducible first | refine stp ?_ | (refine hK' _ ?_; clear hK' K') | refine kN kl213 fun K hK => ?_ | refine kO fun K hK => ?_) | (refine xS rfl fun K' hK' => ?_; simp only [go_sem]) | refine iB ?_ | (with_reducible refine pK_mk ?_ ?_ <;> (intro hc; (try simp only [go_sem]); (try simp at hc); try (exfalso; omega))) | with_reducible refine And.intro (by first | omega | (unfold inI; omega)) ?_)
  refine pw_loop_over [6, 8, 11, 12, 13, 14, 15, 16, 17, 18, 19, 20, 21] (fun k : Nat => [(11, .d (.int .i64 (k : Int)))]) (fun k : Nat => []) 0 (fun k : Nat => k ≤ g.length) (fun k : Nat => g.length - k) 0 (Nat.zero_le _) (fits_mk [] (by simp [renL_d, bdL_d, sg, over, wipe, wl, memN, ins, rm, lk, fitFr, fit1, ren, renL, bd, bdL, app, fitHp, hget, renB, bdB] <;> omega)) ?_
  intro k hk
  simp only [over, wipe, wl, memN, ins, rm, if_true, if_false, Nat.reduceEqDiff, Bool.false_eq_true, reduceCtorEq]
  by_cases hlt : k < g.length
  · have hx := List.getElem?_eq_getElem hlt
    generalize g[k] = x at hx
    repeat' (first | ((with_reducible first | (refine hK _ ?_; clear hK K) | refine stq fun K' hK' => ?_ | refine stc ?_); try simp only [go_sem, List.getElem?_map, hx, Option.map_some, datI]) | (with_reducible first | refine stp ?_ | (refine hK' _ ?_; clear hK' K') | refine kN kl213 fun K hK => ?_ | refine kO fun K hK => ?_) | (refine xS rfl fun K' hK' => ?_; simp only [go_sem, List.getElem?_map, hx, Option.map_some, datI]) | refine iB ?_ | (with_reducible refine pK_mk ?_ ?_ <;> (intro hc; (try simp only [go_sem, List.getElem?_map, hx, Option.map_some, datI]); (try simp at hc); try (exfalso; omega))) | with_reducible refine And.intro (by first | omega | (unfold inI; omega)) ?_)
    all_goals first
      | (exfalso; omega)
      | exact ⟨k + 1, by omega, by omega, (fits_mk [] (by simp [renL_d, bdL_d, sg, over, wipe, wl, memN, ins, rm, lk, fitFr, fit1, ren, renL, bd, bdL, app, fitHp, hget, renB, bdB] <;> omega))⟩
  · by_cases hA : AllIn (-5) 5 g
    · have hAb := bP_true hA
      have e : bP ((g.length : Int) = n ∧ AllIn (-5) 5 g) = decide ((g.length : Int) = n) := by rw [Bool.eq_iff_iff, bP_iff, decide_eq_true_eq]; exact ⟨fun h => h.1, fun h => ⟨h, hA⟩⟩
      rw [e]
      repeat' (first | ((with_reducible first | (refine hK _ ?_; clear hK K) | refine stq fun K' hK' => ?_ | refine stc ?_); try simp only [go_sem, hAb]) | (with_reducible first | refine stp ?_ | (refine hK' _ ?_; clear hK' K') | refine kN kl213 fun K hK => ?_ | refine kO fun K hK => ?_) | (refine xS rfl fun K' hK' => ?_; simp only [go_sem, hAb]) | ((with_reducible apply CallK.eq); (· with_reducible first | exact l1All_ok g (-5) 5 (by omega)); (· simp [RV.flat, D.sc, datI]); try simp only [go_sem, hAb]) | refine iB ?_ | (with_reducible refine pK_mk ?_ ?_ <;> (intro hc; (try simp only [go_sem, hAb]); (try simp at hc); try (exfalso; omega))) | with_reducible refine And.intro (by first | omega | (unfold inI; omega)) ?_)
      all_goals first
        | (exfalso; omega)
        | (refine retQ_ret rfl rfl (by simp [rowsOf, lk]) ?_; first | rfl | (simp; done) | (simp_all; done))
    · have hAb := bP_false hA
      have e : bP ((g.length : Int) = n ∧ AllIn (-5) 5 g) = false := bP_false fun h => hA h.2
      rw [e]
      repeat' (first | ((with_reducible first | (refine hK _ ?_; clear hK K) | refine stq fun K' hK' => ?_ | refine stc ?_); try simp only [go_sem, hAb]) | (with_reducible first | refine stp ?_ | (refine hK' _ ?_; clear hK' K') | refine kN kl213 fun K hK => ?_ | refine kO fun K hK => ?_) | (refine xS rfl fun K' hK' => ?_; simp only [go_sem, hAb]) | ((with_reducible apply CallK.eq); (· with_reducible first | exact l1All_ok g (-5) 5 (by omega)); (· simp [RV.flat, D.sc, datI]); try simp only [go_sem, hAb]) | refine iB ?_ | (with_reducible refine pK_mk ?_ ?_ <;> (intro hc; (try simp only [go_sem, hAb]); (try simp at hc); try (exfalso; omega))) | with_reducible refine And.intro (by first | omega | (unfold inI; omega)) ?_)
      all_goals first
        | (exfalso; omega)
        | (refine retQ_ret rfl rfl (by simp [rowsOf, lk]) ?_; first | rfl | (simp; done) | (simp_all; done))
theorem mod25 (x : Int) : -25 < x.tmod 25 ∧ x.tmod 25 < 25 := by
  have h2 : (x.tmod 25).natAbs < 25 := by rw [Int.natAbs_tmod]; exact Nat.mod_lt _ (by decide)
  omega
theorem mkListT_ok (g : List Int) (n : Int) (hg : g.length ≤ 1048576) : FnEq Tryz.prog 213 [.d (.lst 1 (g.map datI)), .d (.int .i64 n), .d (.bool true)] [.d (.bool (bP ((g.length : Int) = n ∧ AllIn 0 1000 g ∧ All Q25 g)))] := by
  refine fn_ok G_ok Tryz.func213 rfl rfl ?_; simp only [Tryz.ntmps213, List.length_cons, List.length_nil, Nat.reduceAdd, Nat.reduceSub, enm]
  repeat' (first | ((with_reducible first | (refine hK _ ?_; clear hK K) | refine stq fun K' hK' => ?_ | refine stc ?_); try simp only [go_sem]) | (with_reducible first | refine stp ?_ | (refine hK' _ ?_; clear hK' K') | refine kN kl213 fun K hK => ?_ | refine kO fun K hK => ?_) | (refine xS rfl fun K' hK' => ?_; simp only [go_sem]) | refine iB ?_ | (with_reducible refine pK_mk ?_ ?_ <;> (intro hc; (try simp only [go_sem]); (try simp at hc); try (exfalso; omega))) | with_reducible refine And.intro (by first | omega | (unfold inI; omega)) ?_)
  refine pw_loop_over [6, 8, 11, 12, 13, 14, 15, 16, 17, 18, 19, 20, 21] (fun k : Nat => [(11, .d (.int .i64 (k : Int)))]) (fun k : Nat => []) 0 (fun k : Nat => k ≤ g.length ∧ Upto Q25 g k) (fun k : Nat => g.length - k) 0 ⟨Nat.zero_le _, Upto.zero _ _⟩ (fits_mk [] (by simp [renL_d, bdL_d, sg, over, wipe, wl, memN, ins, rm, lk, fitFr, fit1, ren, renL, bd, bdL, app, fitHp, hget, renB, bdB] <;> omega)) ?_
  rintro k ⟨hk, hJ⟩
  simp only [over, wipe, wl, memN, ins, rm, if_true, if_false, Nat.reduceEqDiff, Bool.false_eq_true, reduceCtorEq]
  by_cases hlt : k < g.length
  · have hx := List.getElem?_eq_getElem hlt
    generalize g[k] = x at hx
    have hm := mod25 x
    by_cases hq : x.tmod 25 = 0
    · have hJ' := hJ.succ hx (show Q25 k x from hq)
      have hqb : (x.tmod 25 != 0) = false := by simp [hq]
      repeat' (first | ((with_reducible first | (refine hK _ ?_; clear hK K) | refine stq fun K' hK' => ?_ | refine stc ?_); try simp only [go_sem, List.getElem?_map, hx, Option.map_some, datI, hq, hqb, bne_self_eq_false]) | (with_reducible first | refine stp ?_ | (refine hK' _ ?_; clear hK' K') | refine kN kl213 fun K hK => ?_ | refine kO fun K hK => ?_) | (refine xS rfl fun K' hK' => ?_; simp only [go_sem, List.getElem?_map, hx, Option.map_some, datI, hq, hqb, bne_self_eq_false]) | refine iB ?_ | (with_reducible refine pK_mk ?_ ?_ <;> (intro hc; (try simp only [go_sem, List.getElem?_map, hx, Option.map_some, datI, hq, hqb, bne_self_eq_false]); (try simp at hc); try (exfalso; omega))) | with_reducible refine And.intro (by first | omega | (unfold inI; omega)) ?_)
      all_goals first
        | (exfalso; omega)
        | exact ⟨k + 1, ⟨by omega, hJ'⟩, by omega, (fits_mk [] (by simp [renL_d, bdL_d, sg, over, wipe, wl, memN, ins, rm, lk, fitFr, fit1, ren, renL, bd, bdL, app, fitHp, hget, renB, bdB] <;> omega))⟩
    · have e : bP ((g.length : Int) = n ∧ AllIn 0 1000 g ∧ All Q25 g) = false := bP_false fun h => hq (h.2.2 k x hx)
      rw [e]
      repeat' (first | ((with_reducible first | (refine hK _ ?_; clear hK K) | refine stq fun K' hK' => ?_ | refine stc ?_); try simp only [go_sem, List.getElem?_map, hx, Option.map_some, datI]) | (with_reducible first | refine stp ?_ | (refine hK' _ ?_; clear hK' K') | refine kN kl213 fun K hK => ?_ | refine kO fun K hK => ?_) | (refine xS rfl fun K' hK' => ?_; simp only [go_sem, List.getElem?_map, hx, Option.map_some, datI]) | refine iB ?_ | (with_reducible refine pK_mk ?_ ?_ <;> (intro hc; (try simp only [go_sem, List.getElem?_map, hx, Option.map_some, datI]); (try simp at hc); try (exfalso; omega))) | with_reducible refine And.intro (by first | omega | (unfold inI; omega)) ?_)
      all_goals first
        | (exfalso; omega)
        | (refine retQ_ret rfl rfl (by simp [rowsOf, lk]) ?_; rfl)
  · have hQ := hJ.all (show g.length ≤ k by omega)
    by_cases hA : AllIn 0 1000 g
    · have hAb := bP_true hA
      have e : bP ((g.length : Int) = n ∧ AllIn 0 1000 g ∧ All Q25 g) = decide ((g.length : Int) = n) := by rw [Bool.eq_iff_iff, bP_iff, decide_eq_true_eq]; exact ⟨fun h => h.1, fun h => ⟨h, hA, hQ⟩⟩
      rw [e]
      repeat' (first | ((with_reducible first | (refine hK _ ?_; clear hK K) | refine stq fun K' hK' => ?_ | refine stc ?_); try simp only [go_sem, hAb]) | (with_reducible first | refine stp ?_ | (refine hK' _ ?_; clear hK' K') | refine kN kl213 fun K hK => ?_ | refine kO fun K hK => ?_) | (refine xS rfl fun K' hK' => ?_; simp only [go_sem, hAb]) | ((with_reducible apply CallK.eq); (· with_reducible first | exact l1All_ok g 0 1000 (by omega)); (· simp [RV.flat, D.sc, datI]); try simp only [go_sem, hAb]) | refine iB ?_ | (with_reducible refine pK_mk ?_ ?_ <;> (intro hc; (try simp only [go_sem, hAb]); (try simp at hc); try (exfalso; omega))) | with_reducible refine And.intro (by first | omega | (unfold inI; omega)) ?_)
      all_goals first
        | (exfalso; omega)
        | (refine retQ_ret rfl rfl (by simp [rowsOf, lk]) ?_; first | rfl | (simp; done) | (simp_all; done))
    · have hAb := bP_false hA
      have e : bP ((g.length : Int) = n ∧ AllIn 0 1000 g ∧ All Q25 g) = false := bP_false fun h => hA h.2.1
      rw [e]
      repeat' (first | ((with_reducible first | (refine hK _ ?_; clear hK K) | refine stq fun K' hK' => ?_ | refine stc ?_); try simp only [go_sem, hAb]) | (with_reducible first | refine stp ?_ | (refine hK' _ ?_; clear hK' K') | refine kN kl213 fun K hK => ?_ | refine kO fun K hK => ?_) | (refine xS rfl fun K' hK' => ?_; simp only [go_sem, hAb]) | ((with_reducible apply CallK.eq); (· with_reducible first | exact l1All_ok g 0 1000 (by omega)); (· simp [RV.flat, D.sc, datI]); try simp only [go_sem, hAb]) | refine iB ?_ | (with_reducible refine pK_mk ?_ ?_ <;> (intro hc; (try simp only [go_sem, hAb]); (try simp at hc); try (exfalso; omega))) | with_reducible refine And.intro (by first | omega | (unfold inI; omega)) ?_)
      all_goals first
        | (exfalso; omega)
        | (refine retQ_ret rfl rfl (by simp [rowsOf, lk]) ?_; first | rfl | (simp; done) | (simp_all; done))
set_option maxHeartbeats 8000000 in
theorem mkAll_ok (m : MarksD) (hf : MkFit 1048576 m) : FnEq Tryz.prog 184 [.agg m.cs] [.d (.bool (bP (MarksOk m)))] := by
  obtain ⟨⟨hf1, hf2⟩, hf3, hf4⟩ := hf
  refine fn_ok G_ok Tryz.func184 rfl rfl ?_; simp only [Tryz.ntmps184, List.length_cons, List.length_nil, Nat.reduceAdd, Nat.reduceSub, enm]
  by_cases h3 : m.components.length = 3
  · have h0 := List.getElem?_eq_getElem (show 0 < m.components.length by omega)
    generalize m.components[0] = g0 at h0
    have hj := judges_of h0
    have hg0 := hf4 g0 (List.mem_of_getElem? h0)
    have hlt0 : 0 < m.components.length := by omega
    repeat' (first | ((with_reducible first | (refine hK _ ?_; clear hK K) | refine stq fun K' hK' => ?_ | refine stc ?_); try simp only [go_sem, List.getElem?_map, h0, Option.map_some, datL, hlt0]) | (with_reducible first | refine stp ?_ | (refine hK' _ ?_; clear hK' K') | refine kN kl184 fun K hK => ?_ | refine kO fun K hK => ?_) | (refine xS rfl fun K' hK' => ?_; simp only [go_sem, List.getElem?_map, h0, Option.map_some, datL, hlt0]) | refine iB ?_ | (with_reducible refine pK_mk ?_ ?_ <;> (intro hc; (try simp only [go_sem, List.getElem?_map, h0, Option.map_some, datL, hlt0]); (try simp at hc); try (exfalso; omega))) | with_reducible refine And.intro (by first | omega | (unfold inI; omega)) ?_)
    all_goals first
      | (exfalso; omega)
      | (refine retQ_ret rfl rfl (by simp [rowsOf, lk]) ?_; rw [MarksOk.no_nums (by unfold MkNums; omega)]; done)
      | skip
    refine pw_loop_over [2, 5, 26, 27, 28, 29, 30, 31, 32, 33, 34] (fun k : Nat => [(26, .d (.int .i64 (k : Int)))]) (fun k : Nat => [(0, .box 45 [.d (.lst 1 (m.grades.map (datL 1 datI))), .d (.lst 1 (m.components.map (datL 1 datI)))])]) 1 (fun k : Nat => k ≤ m.grades.length ∧ Upto (GrAt (judgesW m)) m.grades k) (fun k : Nat => m.grades.length - k) 0 ⟨Nat.zero_le _, Upto.zero _ _⟩ (fits_mk [] (by simp [renL_d, bdL_d, sg, over, wipe, wl, memN, ins, rm, lk, fitFr, fit1, ren, renL, bd, bdL, app, fitHp, hget, renB, bdB] <;> omega)) ?_
    rintro k ⟨hk, hJ⟩
    simp only [over, wipe, wl, memN, ins, rm, if_true, if_false, Nat.reduceEqDiff, Bool.false_eq_true, reduceCtorEq]
    by_cases hlt : k < m.grades.length
    · have hx := List.getElem?_eq_getElem hlt
      generalize m.grades[k] = x at hx
      have hxl := hf2 x (List.mem_of_getElem? hx)
      have hml := mkListF_ok x (g0.length : Nat) hxl
      by_cases hA : (x.length : Int) = ((g0.length : Nat) : Int) ∧ AllIn (-5) 5 x
      · have hE : GrAt (judgesW m) k x := ⟨by have := hA.1; omega, hA.2⟩
        have hJ' := hJ.succ hx hE
        rw [bP_true hA] at hml
        repeat' (first | ((with_reducible first | (refine hK _ ?_; clear hK K) | refine stq fun K' hK' => ?_ | refine stc ?_); try simp only [go_sem, List.getElem?_map, hx, Option.map_some, datL]) | (with_reducible first | refine stp ?_ | (refine hK' _ ?_; clear hK' K') | refine kN kl184 fun K hK => ?_ | refine kO fun K hK => ?_) | (refine xS rfl fun K' hK' => ?_; simp only [go_sem, List.getElem?_map, hx, Option.map_some, datL]) | ((with_reducible apply CallK.eq); (· with_reducible first | exact hml); (· simp [RV.flat, D.sc, datI]); try simp only [go_sem, List.getElem?_map, hx, Option.map_some, datL]) | refine iB ?_ | (with_reducible refine pK_mk ?_ ?_ <;> (intro hc; (try simp only [go_sem, List.getElem?_map, hx, Option.map_some, datL]); (try simp at hc); try (exfalso; omega))) | with_reducible refine And.intro (by first | omega | (unfold inI; omega)) ?_)
        all_goals first
          | (exfalso; omega)
          | exact ⟨k + 1, ⟨by omega, hJ'⟩, by omega, (fits_mk [] (by simp [renL_d, bdL_d, sg, over, wipe, wl, memN, ins, rm, lk, fitFr, fit1, ren, renL, bd, bdL, app, fitHp, hget, renB, bdB] <;> omega))⟩
      · have hE : ¬ GrAt (judgesW m) k x := fun h => hA ⟨by have := h.1; omega, h.2⟩
        rw [bP_false hA] at hml
        repeat' (first | ((with_reducible first | (refine hK _ ?_; clear hK K) | refine stq fun K' hK' => ?_ | refine stc ?_); try simp only [go_sem, List.getElem?_map, hx, Option.map_some, datL]) | (with_reducible first | refine stp ?_ | (refine hK' _ ?_; clear hK' K') | refine kN kl184 fun K hK => ?_ | refine kO fun K hK => ?_) | (refine xS rfl fun K' hK' => ?_; simp only [go_sem, List.getElem?_map, hx, Option.map_some, datL]) | ((with_reducible apply CallK.eq); (· with_reducible first | exact hml); (· simp [RV.flat, D.sc, datI]); try simp only [go_sem, List.getElem?_map, hx, Option.map_some, datL]) | refine iB ?_ | (with_reducible refine pK_mk ?_ ?_ <;> (intro hc; (try simp only [go_sem, List.getElem?_map, hx, Option.map_some, datL]); (try simp at hc); try (exfalso; omega))) | with_reducible refine And.intro (by first | omega | (unfold inI; omega)) ?_)
        all_goals first
          | (exfalso; omega)
          | (refine retQ_ret rfl rfl (by simp [rowsOf, lk]) ?_; rw [MarksOk.no_gr hx hE])
    · have hG := hJ.all (show m.grades.length ≤ k by omega)
      repeat' (first | ((with_reducible first | (refine hK _ ?_; clear hK K) | refine stq fun K' hK' => ?_ | refine stc ?_); try simp only [go_sem]) | (with_reducible first | refine stp ?_ | (refine hK' _ ?_; clear hK' K') | refine kN kl184 fun K hK => ?_ | refine kO fun K hK => ?_) | (refine xS rfl fun K' hK' => ?_; simp only [go_sem]) | refine iB ?_ | (with_reducible refine pK_mk ?_ ?_ <;> (intro hc; (try simp only [go_sem]); (try simp at hc); try (exfalso; omega))) | with_reducible refine And.intro (by first | omega | (unfold inI; omega)) ?_)
      all_goals first
        | (exfalso; omega)
        | skip
      refine pw_loop_over [2, 7, 38, 39, 40, 41, 42, 43, 44, 45, 46] (fun k : Nat => [(38, .d (.int .i64 (k : Int)))]) (fun k : Nat => [(0, .box 45 [.d (.lst 1 (m.grades.map (datL 1 datI))), .d (.lst 1 (m.components.map (datL 1 datI)))])]) 1 (fun k : Nat => k ≤ m.components.length ∧ Upto (CpAt (judgesW m)) m.components k) (fun k : Nat => m.components.length - k) 0 ⟨Nat.zero_le _, Upto.zero _ _⟩ (fits_mk [] (by simp [renL_d, bdL_d, sg, over, wipe, wl, memN, ins, rm, lk, fitFr, fit1, ren, renL, bd, bdL, app, fitHp, hget, renB, bdB] <;> omega)) ?_
      rintro j ⟨hk2, hJ2⟩
      simp only [over, wipe, wl, memN, ins, rm, if_true, if_false, Nat.reduceEqDiff, Bool.false_eq_true, reduceCtorEq]
      by_cases hlt2 : j < m.components.length
      · have hx := List.getElem?_eq_getElem hlt2
        generalize m.components[j] = x at hx
        have hxl := hf4 x (List.mem_of_getElem? hx)
        have hml := mkListT_ok x (g0.length : Nat) hxl
        by_cases hA : (x.length : Int) = ((g0.length : Nat) : Int) ∧ AllIn 0 1000 x ∧ All Q25 x
        · have hE : CpAt (judgesW m) j x := ⟨by have := hA.1; omega, hA.2⟩
          have hJ' := hJ2.succ hx hE
          rw [bP_true hA] at hml
          repeat' (first | ((with_reducible first | (refine hK _ ?_; clear hK K) | refine stq fun K' hK' => ?_ | refine stc ?_); try simp only [go_sem, List.getElem?_map, hx, Option.map_some, datL]) | (with_reducible first | refine stp ?_ | (refine hK' _ ?_; clear hK' K') | refine kN kl184 fun K hK => ?_ | refine kO fun K hK => ?_) | (refine xS rfl fun K' hK' => ?_; simp only [go_sem, List.getElem?_map, hx, Option.map_some, datL]) | ((with_reducible apply CallK.eq); (· with_reducible first | exact hml); (· simp [RV.flat, D.sc, datI]); try simp only [go_sem, List.getElem?_map, hx, Option.map_some, datL]) | refine iB ?_ | (with_reducible refine pK_mk ?_ ?_ <;> (intro hc; (try simp only [go_sem, List.getElem?_map, hx, Option.map_some, datL]); (try simp at hc); try (exfalso; omega))) | with_reducible refine And.intro (by first | omega | (unfold inI; omega)) ?_)
          all_goals first
            | (exfalso; omega)
            | exact ⟨j + 1, ⟨by omega, hJ'⟩, by omega, (fits_mk [] (by simp [renL_d, bdL_d, sg, over, wipe, wl, memN, ins, rm, lk, fitFr, fit1, ren, renL, bd, bdL, app, fitHp, hget, renB, bdB] <;> omega))⟩
        · have hE : ¬ CpAt (judgesW m) j x := fun h => hA ⟨by have := h.1; omega, h.2⟩
          rw [bP_false hA] at hml
          repeat' (first | ((with_reducible first | (refine hK _ ?_; clear hK K) | refine stq fun K' hK' => ?_ | refine stc ?_); try simp only [go_sem, List.getElem?_map, hx, Option.map_some, datL]) | (with_reducible first | refine stp ?_ | (refine hK' _ ?_; clear hK' K') | refine kN kl184 fun K hK => ?_ | refine kO fun K hK => ?_) | (refine xS rfl fun K' hK' => ?_; simp only [go_sem, List.getElem?_map, hx, Option.map_some, datL]) | ((with_reducible apply CallK.eq); (· with_reducible first | exact hml); (· simp [RV.flat, D.sc, datI]); try simp only [go_sem, List.getElem?_map, hx, Option.map_some, datL]) | refine iB ?_ | (with_reducible refine pK_mk ?_ ?_ <;> (intro hc; (try simp only [go_sem, List.getElem?_map, hx, Option.map_some, datL]); (try simp at hc); try (exfalso; omega))) | with_reducible refine And.intro (by first | omega | (unfold inI; omega)) ?_)
          all_goals first
            | (exfalso; omega)
            | (refine retQ_ret rfl rfl (by simp [rowsOf, lk]) ?_; rw [MarksOk.no_cp hx hE])
      · have hC := hJ2.all (show m.components.length ≤ j by omega)
        repeat' (first | ((with_reducible first | (refine hK _ ?_; clear hK K) | refine stq fun K' hK' => ?_ | refine stc ?_); try simp only [go_sem]) | (with_reducible first | refine stp ?_ | (refine hK' _ ?_; clear hK' K') | refine kN kl184 fun K hK => ?_ | refine kO fun K hK => ?_) | (refine xS rfl fun K' hK' => ?_; simp only [go_sem]) | ((with_reducible apply CallK.eq); (· with_reducible first | exact l1In_ok _ _ _); (· simp [RV.flat, D.sc, datI]); try simp only [go_sem]) | refine iB ?_ | (with_reducible refine pK_mk ?_ ?_ <;> (intro hc; (try simp only [go_sem]); (try simp at hc); try (exfalso; omega))) | with_reducible refine And.intro (by first | omega | (unfold inI; omega)) ?_)
        all_goals first
          | (exfalso; omega)
          | (refine retQ_ret rfl rfl (by simp [rowsOf, lk]) ?_; by_cases hj9 : 3 ≤ judgesW m ∧ judgesW m ≤ 9 <;> first | (rw [bP_true (show MarksOk m from ⟨h3, by omega, hj9.1, hj9.2, hG, hC⟩)]; simp; omega) | (rw [bP_false (fun h : MarksOk m => hj9 ⟨h.2.2.1, h.2.2.2.1⟩)]; simp; omega))
  · repeat' (first | ((with_reducible first | (refine hK _ ?_; clear hK K) | refine stq fun K' hK' => ?_ | refine stc ?_); try simp only [go_sem]) | (with_reducible first | refine stp ?_ | (refine hK' _ ?_; clear hK' K') | refine kN kl184 fun K hK => ?_ | refine kO fun K hK => ?_) | (refine xS rfl fun K' hK' => ?_; simp only [go_sem]) | refine iB ?_ | (with_reducible refine pK_mk ?_ ?_ <;> (intro hc; (try simp only [go_sem]); (try simp at hc); try (exfalso; omega))) | with_reducible refine And.intro (by first | omega | (unfold inI; omega)) ?_)
    all_goals first
      | (exfalso; omega)
      | (refine retQ_ret rfl rfl (by simp [rowsOf, lk]) ?_; rw [MarksOk.no_nums (fun h => h3 h.1)])
theorem mkGood_ok (m : MarksD) (n : Int) (hf : MkFit 1048576 m) : FnEq Tryz.prog 182 [.agg m.cs, .d (.int .i64 n)] [.d (.bool (bP (AreMk m n)))] := by
  have hi := mkAll_ok m hf
  obtain ⟨⟨hf1, hf2⟩, hf3, hf4⟩ := hf
  refine fn_ok G_ok Tryz.func182 rfl rfl ?_; simp only [Tryz.ntmps182, List.length_cons, List.length_nil, Nat.reduceAdd, Nat.reduceSub, enm]
  by_cases hm : MarksOk m
  · have hb := bP_true hm
    have e : bP (AreMk m n) = decide ((m.grades.length : Int) = n) := by rw [Bool.eq_iff_iff, bP_iff, decide_eq_true_eq]; exact ⟨fun h => h.2, fun h => ⟨hm, h⟩⟩
    rw [hb] at hi
    rw [e]
    repeat' (first | ((with_reducible first | (refine hK _ ?_; clear hK K) | refine stq fun K' hK' => ?_ | refine stc ?_); try simp only [go_sem]) | (with_reducible first | refine stp ?_ | (refine hK' _ ?_; clear hK' K') | refine kN kl182 fun K hK => ?_ | refine kO fun K hK => ?_) | (refine xS rfl fun K' hK' => ?_; simp only [go_sem]) | ((with_reducible apply CallK.eq); (· with_reducible first | exact hi); (· simp [RV.flat, D.sc, datI]); try simp only [go_sem]) | (with_reducible refine pK_mk ?_ ?_ <;> (intro hc; (try simp only [go_sem]); (try simp at hc); try (exfalso; omega))) | with_reducible refine And.intro (by first | omega | (unfold inI; omega)) ?_)
    all_goals first
      | (exfalso; omega)
      | (refine retQ_ret rfl rfl (by simp [rowsOf, lk]) ?_; first | rfl | (simp; done) | (simp_all; done))
  · have hb := bP_false hm
    have e : bP (AreMk m n) = false := bP_false fun h => hm h.1
    rw [hb] at hi
    rw [e]
    repeat' (first | ((with_reducible first | (refine hK _ ?_; clear hK K) | refine stq fun K' hK' => ?_ | refine stc ?_); try simp only [go_sem]) | (with_reducible first | refine stp ?_ | (refine hK' _ ?_; clear hK' K') | refine kN kl182 fun K hK => ?_ | refine kO fun K hK => ?_) | (refine xS rfl fun K' hK' => ?_; simp only [go_sem]) | ((with_reducible apply CallK.eq); (· with_reducible first | exact hi); (· simp [RV.flat, D.sc, datI]); try simp only [go_sem]) | (with_reducible refine pK_mk ?_ ?_ <;> (intro hc; (try simp only [go_sem]); (try simp at hc); try (exfalso; omega))) | with_reducible refine And.intro (by first | omega | (unfold inI; omega)) ?_)
    all_goals first
      | (exfalso; omega)
      | (refine retQ_ret rfl rfl (by simp [rowsOf, lk]) ?_; first | rfl | (simp; done) | (simp_all; done))
theorem slips_iff (s : SlipsD) : bP (SlipsOk s) = (((decide (0 ≤ s.falls) && decide (s.falls ≤ 9)) && (decide (0 ≤ s.seconds) && decide (s.seconds ≤ 60))) && (decide (0 ≤ s.other) && decide (s.other ≤ 500))) := by
  rw [Bool.eq_iff_iff, bP_iff]; simp only [Bool.and_eq_true, decide_eq_true_eq]; unfold SlipsOk; omega
theorem AreSlips_ok (s : SlipsD) : FnEq Tryz.prog 143 [.agg s.cs] [.d (.bool (bP (SlipsOk s)))] := by
  rw [slips_iff]
  refine fn_ok G_ok Tryz.func143 rfl rfl ?_; simp only [Tryz.ntmps143, List.length_cons, List.length_nil, Nat.reduceAdd, Nat.reduceSub, enm]
  repeat' (first | ((with_reducible first | (refine hK _ ?_; clear hK K) | refine stq fun K' hK' => ?_ | refine stc ?_); try simp only [go_sem]) | (with_reducible first | refine stp ?_ | (refine hK' _ ?_; clear hK' K') | refine kN kl143 fun K hK => ?_ | refine kO fun K hK => ?_) | (refine xS rfl fun K' hK' => ?_; simp only [go_sem]) | ((with_reducible apply CallK.eq); (· with_reducible first | exact within_ok _ _ _); (· simp [RV.flat, D.sc, datI]); try simp only [go_sem]) | (with_reducible refine pK_mk ?_ ?_ <;> (intro hc; (try simp only [go_sem]); (try simp at hc); try (exfalso; omega))) | with_reducible refine And.intro (by first | omega | (unfold inI; omega)) ?_)
  all_goals first
    | (exfalso; omega)
    | (refine retQ_ret rfl rfl (by simp [rowsOf, lk]) ?_; first | rfl | (simp; done) | (simp; omega) | (simp_all; done))
theorem dcGood_ok (s : SlipsD) : FnEq Tryz.prog 148 [.agg s.cs] [.d (.bool (bP (SlipsOk s)))] := by
  rw [slips_iff]
  refine fn_ok G_ok Tryz.func148 rfl rfl ?_; simp only [Tryz.ntmps148, List.length_cons, List.length_nil, Nat.reduceAdd, Nat.reduceSub, enm]
  repeat' (first | ((with_reducible first | (refine hK _ ?_; clear hK K) | refine stq fun K' hK' => ?_ | refine stc ?_); try simp only [go_sem]) | (with_reducible first | refine stp ?_ | (refine hK' _ ?_; clear hK' K') | refine kN kl148 fun K hK => ?_ | refine kO fun K hK => ?_) | (refine xS rfl fun K' hK' => ?_; simp only [go_sem]) | ((with_reducible apply CallK.eq); (· with_reducible first | exact l1In_ok _ _ _); (· simp [RV.flat, D.sc, datI]); try simp only [go_sem]) | (with_reducible refine pK_mk ?_ ?_ <;> (intro hc; (try simp only [go_sem]); (try simp at hc); try (exfalso; omega))) | with_reducible refine And.intro (by first | omega | (unfold inI; omega)) ?_)
  all_goals first
    | (exfalso; omega)
    | (refine retQ_ret rfl rfl (by simp [rowsOf, lk]) ?_; first | rfl | (simp; done) | (simp; omega) | (simp_all; done))
end Go.Proofs.YtphakidbddamfaaGreat
