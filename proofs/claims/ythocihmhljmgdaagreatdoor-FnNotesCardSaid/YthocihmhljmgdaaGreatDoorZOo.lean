
/-
  Results of skaters: when one is valid, its total; the program's functions and the reference's, in the abstract machine.
-/
import Derived.Test.YthocihmhljmgdaaGreatDoorZNoteW
import Derived.Sort.Statements
set_option linter.unusedSimpArgs false
set_option linter.unusedVariables false
set_option maxHeartbeats 2000000
set_option maxRecDepth 100000
namespace Go.Proofs.YthocihmhljmgdaaGreatDoor
open Go.RowKit

structure ResultD where
  skater : Int
  scores : List Int
def ResultD.dat (x : ResultD) : List D := [.int .i64 x.skater, .lst 1 (x.scores.map datI)]

/-- a score at a place: no score behind a missing one -/
def ScAt (l : List Int) (k : Nat) (x : Int) : Prop := -1 ≤ x ∧ x ≤ 100000 ∧ (0 < k → l.getD (k - 1) 0 < 0 → x < 0)
def ScOk (l : List Int) : Prop := All (ScAt l) l
def ResOk (r : ResultD) : Prop := ScOk r.scores ∧ 1 ≤ r.skater ∧ r.skater ≤ 999 ∧ 1 ≤ r.scores.length ∧ r.scores.length ≤ 3
theorem ResOk.not_at {r : ResultD} {k : Nat} {x : Int} (hx : r.scores[k]? = some x) (hf : ¬ ScAt r.scores k x) : ¬ ResOk r := fun h => hf (h.1 k x hx)
theorem res_end {r : ResultD} {k : Nat} (h : Upto (ScAt r.scores) r.scores k) (hk : r.scores.length ≤ k) : bP (ResOk r) = ((decide (1 ≤ r.skater) && decide (r.skater ≤ 999)) && (decide (1 ≤ (r.scores.length : Int)) && decide ((r.scores.length : Int) ≤ 3))) := by
  rw [Bool.eq_iff_iff, bP_iff]
  simp only [Bool.and_eq_true, decide_eq_true_eq]
  constructor
  · rintro ⟨_, h1, h2, h3, h4⟩; exact ⟨⟨h1, h2⟩, by omega, by omega⟩
  · rintro ⟨⟨h1, h2⟩, h3, h4⟩; exact ⟨h.all hk, h1, h2, by omega, by omega⟩
theorem res_no {r : ResultD} (h : ¬ (1 ≤ r.skater ∧ r.skater ≤ 999)) : bP (ResOk r) = false := bP_false fun h' => h ⟨h'.2.1, h'.2.2.1⟩
def negB (l : List Int) (k : Nat) : Bool := decide (0 < k) && decide (l.getD (k - 1) 0 < 0)
theorem negB_iff {l : List Int} {k : Nat} : negB l k = true ↔ 0 < k ∧ l.getD (k - 1) 0 < 0 := by unfold negB; simp only [Bool.and_eq_true, decide_eq_true_eq]
theorem negB_zero (l : List Int) : negB l 0 = false := rfl
theorem negB_succ {l : List Int} {k : Nat} {x : Int} (hx : l[k]? = some x) : negB l (k + 1) = decide (x < 0) := by
  unfold negB; rw [show k + 1 - 1 = k by omega, List.getD_eq_getElem?_getD, hx]; simp
theorem isResult_ok (r : ResultD) (hn : r.scores.length ≤ 1048576) : FnEq Tryz.prog 65 [.agg [.d (.int .i64 r.skater), .d (.lst 1 (r.scores.map datI))]] [.d (.bool (bP (ResOk r)))] := by
  refine fn_ok G_ok Tryz.func65 rfl rfl ?_; simp only [Tryz.ntmps65, List.length_cons, List.length_nil, Nat.reduceAdd, Nat.reduceSub, enm]
  repeat' (first | ((with_reducible first | (refine hK _ ?_; clear hK K) | refine stq fun K' hK' => ?_ | refine stc ?_); try simp only [go_sem]) | (with_reducible first | refine stp ?_ | (refine hK' _ ?_; clear hK' K') | refine kN kl65 fun K hK => ?_ | refine kO fun K hK => ?_) | (refine xS rfl fun K' hK' => ?_; simp only [go_sem]) | refine iB ?_ | (with_reducible refine pK_mk ?_ ?_ <;> (intro hc; (try simp only [go_sem]); (try simp at hc); try (exfalso; omega))) | with_reducible refine And.intro (by first | omega | (unfold inI; omega)) ?_)
  refine pw_loop_over [2, 3, 4, 8, 9, 10, 11, 12, 13, 14, 15, 16, 17, 18, 19, 20, 21, 22, 23, 24, 25, 26, 27, 28, 29, 30, 31, 32, 33] (fun k : Nat => [(8, .d (.int .i64 (k : Int)))]) (fun k : Nat => [(0, .box 92 [.d (.int .i64 r.skater), .d (.lst 1 (r.scores.map datI))])]) 1 (fun k : Nat => k ≤ r.scores.length ∧ Upto (ScAt r.scores) r.scores k) (fun k : Nat => r.scores.length - k) 0 ⟨Nat.zero_le _, Upto.zero _ _⟩ (fits_mk [] (by simp [renL_d, bdL_d, sg, over, wipe, wl, memN, ins, rm, lk, fitFr, fit1, ren, renL, bd, bdL, app, fitHp, hget, renB, bdB] <;> omega)) ?_
  rintro k ⟨hk, hJ⟩
  simp only [over, wipe, wl, memN, ins, rm, if_true, if_false, Nat.reduceEqDiff, Bool.false_eq_true, reduceCtorEq]
  by_cases hlt : k < r.scores.length
  · have hx := List.getElem?_eq_getElem hlt
    generalize r.scores[k] = x at hx
    rcases Nat.eq_zero_or_pos k with h0 | h0
    · repeat' (first | ((with_reducible first | (refine hK _ ?_; clear hK K) | refine stq fun K' hK' => ?_ | refine stc ?_); try simp only [go_sem, List.getElem?_map, hx, Option.map_some, datI]) | (with_reducible first | refine stp ?_ | (refine hK' _ ?_; clear hK' K') | refine kN kl65 fun K hK => ?_ | refine kO fun K hK => ?_) | (refine xS rfl fun K' hK' => ?_; simp only [go_sem, List.getElem?_map, hx, Option.map_some, datI]) | ((with_reducible apply CallK.eq); (· with_reducible first | exact within_ok _ _ _); (· simp [RV.flat, D.sc, datI]); try simp only [go_sem, List.getElem?_map, hx, Option.map_some, datI]) | refine iB ?_ | (with_reducible refine pK_mk ?_ ?_ <;> (intro hc; (try simp only [go_sem, List.getElem?_map, hx, Option.map_some, datI]); (try simp at hc); try (exfalso; omega))) | with_reducible refine And.intro (by first | omega | (unfold inI; omega)) ?_)
      all_goals first
        | (refine retQ_ret rfl rfl (by simp [rowsOf, lk]) ?_; rw [bP_false (ResOk.not_at hx (by rintro ⟨h1, h2, h3⟩; omega))])
        | exact ⟨k + 1, ⟨by omega, hJ.succ hx ⟨by omega, by omega, fun h1 _ => absurd h1 (by omega)⟩⟩, by omega, (fits_mk [] (by simp [renL_d, bdL_d, sg, over, wipe, wl, memN, ins, rm, lk, fitFr, fit1, ren, renL, bd, bdL, app, fitHp, hget, renB, bdB] <;> omega))⟩
    · have hpl : k - 1 < r.scores.length := by omega
      have hp := List.getElem?_eq_getElem hpl
      generalize r.scores[k - 1] = y at hp
      have hpk : ((k : Int) - 1).toNat = k - 1 := by omega
      have hgd : r.scores.getD (k - 1) 0 = y := by rw [List.getD_eq_getElem?_getD, hp]; rfl
      repeat' (first | ((with_reducible first | (refine hK _ ?_; clear hK K) | refine stq fun K' hK' => ?_ | refine stc ?_); try simp only [go_sem, List.getElem?_map, hx, hp, hpk, Option.map_some, datI]) | (with_reducible first | refine stp ?_ | (refine hK' _ ?_; clear hK' K') | refine kN kl65 fun K hK => ?_ | refine kO fun K hK => ?_) | (refine xS rfl fun K' hK' => ?_; simp only [go_sem, List.getElem?_map, hx, hp, hpk, Option.map_some, datI]) | ((with_reducible apply CallK.eq); (· with_reducible first | exact within_ok _ _ _); (· simp [RV.flat, D.sc, datI]); try simp only [go_sem, List.getElem?_map, hx, hp, hpk, Option.map_some, datI]) | refine iB ?_ | (with_reducible refine pK_mk ?_ ?_ <;> (intro hc; (try simp only [go_sem, List.getElem?_map, hx, hp, hpk, Option.map_some, datI]); (try simp at hc); try (exfalso; omega))) | with_reducible refine And.intro (by first | omega | (unfold inI; omega)) ?_)
      all_goals first
        | (refine retQ_ret rfl rfl (by simp [rowsOf, lk]) ?_; rw [bP_false (ResOk.not_at hx (by rintro ⟨h1, h2, h3⟩; first | omega | (have := h3 h0 (by rw [hgd]; omega); omega)))])
        | exact ⟨k + 1, ⟨by omega, hJ.succ hx ⟨by omega, by omega, fun _ h2 => by rw [hgd] at h2; omega⟩⟩, by omega, (fits_mk [] (by simp [renL_d, bdL_d, sg, over, wipe, wl, memN, ins, rm, lk, fitFr, fit1, ren, renL, bd, bdL, app, fitHp, hget, renB, bdB] <;> omega))⟩
  · repeat' (first | ((with_reducible first | (refine hK _ ?_; clear hK K) | refine stq fun K' hK' => ?_ | refine stc ?_); try simp only [go_sem]) | (with_reducible first | refine stp ?_ | (refine hK' _ ?_; clear hK' K') | refine kN kl65 fun K hK => ?_ | refine kO fun K hK => ?_) | (refine xS rfl fun K' hK' => ?_; simp only [go_sem]) | ((with_reducible apply CallK.eq); (· with_reducible first | exact isSkater_ok _ | exact within_ok _ _ _); (· simp [RV.flat, D.sc, datI]); try simp only [go_sem]) | refine iB ?_ | (with_reducible refine pK_mk ?_ ?_ <;> (intro hc; (try simp only [go_sem]); (try simp at hc); try (exfalso; omega))) | with_reducible refine And.intro (by first | omega | (unfold inI; omega)) ?_)
    · refine retQ_ret rfl rfl (by simp [rowsOf, lk]) ?_; rw [res_end hJ (by omega)]; simp [hc]
    · refine retQ_ret rfl rfl (by simp [rowsOf, lk]) ?_; rw [res_no (by omega)]
theorem rkResult_ok (r : ResultD) (hn : r.scores.length ≤ 1048576) : FnEq Tryz.prog 107 [.agg [.d (.int .i64 r.skater), .d (.lst 1 (r.scores.map datI))]] [.d (.bool (bP (ResOk r)))] := by
  refine fn_ok G_ok Tryz.func107 rfl rfl ?_; simp only [Tryz.ntmps107, List.length_cons, List.length_nil, Nat.reduceAdd, Nat.reduceSub, enm]
  repeat' (first | ((with_reducible first | (refine hK _ ?_; clear hK K) | refine stq fun K' hK' => ?_ | refine stc ?_); try simp only [go_sem]) | (with_reducible first | refine stp ?_ | (refine hK' _ ?_; clear hK' K') | refine kN kl107 fun K hK => ?_ | refine kO fun K hK => ?_) | (refine xS rfl fun K' hK' => ?_; simp only [go_sem]) | refine iB ?_ | (with_reducible refine pK_mk ?_ ?_ <;> (intro hc; (try simp only [go_sem]); (try simp at hc); try (exfalso; omega))) | with_reducible refine And.intro (by first | omega | (unfold inI; omega)) ?_)
  refine pw_loop_over [2, 3, 5, 9, 10, 11, 12, 13, 14, 15, 16, 17, 18, 19, 20, 21, 22, 23, 24, 25] (fun k : Nat => [(9, .d (.int .i64 (k : Int))), (3, .d (.bool (negB r.scores k)))]) (fun k : Nat => [(0, .box 92 [.d (.int .i64 r.skater), .d (.lst 1 (r.scores.map datI))])]) 1 (fun k : Nat => k ≤ r.scores.length ∧ Upto (ScAt r.scores) r.scores k) (fun k : Nat => r.scores.length - k) 0 ⟨Nat.zero_le _, Upto.zero _ _⟩ (fits_mk [] (by simp [renL_d, bdL_d, sg, over, wipe, wl, memN, ins, rm, lk, fitFr, fit1, ren, renL, bd, bdL, app, fitHp, hget, renB, bdB, negB_zero] <;> omega)) ?_
  rintro k ⟨hk, hJ⟩
  simp only [over, wipe, wl, memN, ins, rm, if_true, if_false, Nat.reduceEqDiff, Bool.false_eq_true, reduceCtorEq]
  by_cases hlt : k < r.scores.length
  · have hx := List.getElem?_eq_getElem hlt
    generalize r.scores[k] = x at hx
    repeat' (first | ((with_reducible first | (refine hK _ ?_; clear hK K) | refine stq fun K' hK' => ?_ | refine stc ?_); try simp only [go_sem, List.getElem?_map, hx, Option.map_some, datI]) | (with_reducible first | refine stp ?_ | (refine hK' _ ?_; clear hK' K') | refine kN kl107 fun K hK => ?_ | refine kO fun K hK => ?_) | (refine xS rfl fun K' hK' => ?_; simp only [go_sem, List.getElem?_map, hx, Option.map_some, datI]) | ((with_reducible apply CallK.eq); (· with_reducible first | exact l1In_ok _ _ _); (· simp [RV.flat, D.sc, datI]); try simp only [go_sem, List.getElem?_map, hx, Option.map_some, datI]) | refine iB ?_ | (with_reducible refine pK_mk ?_ ?_ <;> (intro hc; (try simp only [go_sem, List.getElem?_map, hx, Option.map_some, datI]); (try simp at hc); try (exfalso; omega))) | with_reducible refine And.intro (by first | omega | (unfold inI; omega)) ?_)
    all_goals first
      | (refine retQ_ret rfl rfl (by simp [rowsOf, lk]) ?_; rw [bP_false (ResOk.not_at hx (by
          rintro ⟨h1, h2, h3⟩
          first
            | omega
            | (have hn := negB_iff.1 (show negB r.scores k = true by assumption)
               have := h3 hn.1 hn.2
               omega)))])
      | exact ⟨k + 1, ⟨by omega, hJ.succ hx ⟨by omega, by omega, fun h1 h2 => by
          first
            | omega
            | exact absurd (negB_iff.2 ⟨h1, h2⟩) (by rw [show negB r.scores k = false by assumption]; simp)⟩⟩, by omega, (fits_mk [] (by simp [renL_d, bdL_d, sg, over, wipe, wl, memN, ins, rm, lk, fitFr, fit1, ren, renL, bd, bdL, app, fitHp, hget, renB, bdB, negB_succ hx] <;> omega))⟩
  · repeat' (first | ((with_reducible first | (refine hK _ ?_; clear hK K) | refine stq fun K' hK' => ?_ | refine stc ?_); try simp only [go_sem]) | (with_reducible first | refine stp ?_ | (refine hK' _ ?_; clear hK' K') | refine kN kl107 fun K hK => ?_ | refine kO fun K hK => ?_) | (refine xS rfl fun K' hK' => ?_; simp only [go_sem]) | ((with_reducible apply CallK.eq); (· with_reducible first | exact l1In_ok _ _ _); (· simp [RV.flat, D.sc, datI]); try simp only [go_sem]) | refine iB ?_ | (with_reducible refine pK_mk ?_ ?_ <;> (intro hc; (try simp only [go_sem]); (try simp at hc); try (exfalso; omega))) | with_reducible refine And.intro (by first | omega | (unfold inI; omega)) ?_)
    · refine retQ_ret rfl rfl (by simp [rowsOf, lk]) ?_; rw [res_end hJ (by omega)]; simp [hc]
    · refine retQ_ret rfl rfl (by simp [rowsOf, lk]) ?_; rw [res_no (by omega)]
end Go.Proofs.YthocihmhljmgdaaGreatDoor
namespace Go.Proofs.YthocihmhljmgdaaGreatDoor
open Go.RowKit

end Go.Proofs.YthocihmhljmgdaaGreatDoor
namespace Go.Proofs.YthocihmhljmgdaaGreatDoor
open Go.RowKit

def len0 : List ResultD → Nat
  | [] => 0
  | z :: _ => z.scores.length
theorem len0_of {l : List ResultD} {z : ResultD} (h : l[0]? = some z) : len0 l = z.scores.length := by
  cases l with
  | nil => simp at h
  | cons y r => simp at h; subst h; rfl
def rsB (l : List ResultD) (n : Int) : Bool := l.any fun x => x.skater == n
theorem rsB_iff {l : List ResultD} {n : Int} : rsB l n = true ↔ n ∈ l.map ResultD.skater := by unfold rsB; rw [List.any_eq_true, List.mem_map]; simp
theorem rsB_not {l : List ResultD} {n : Int} (h : rsB l n = false) : n ∉ l.map ResultD.skater := fun h' => Bool.noConfusion ((rsB_iff.2 h').symm.trans h)
def ResAt (l : List ResultD) (k : Nat) (r : ResultD) : Prop := ResOk r ∧ r.scores.length = len0 l ∧ r.skater ∉ (l.take k).map ResultD.skater
def ResultsOk (l : List ResultD) : Prop := l.length ≤ 40 ∧ All (ResAt l) l
theorem ResultsOk.not_at {l : List ResultD} {k : Nat} {x : ResultD} (hx : l[k]? = some x) (hf : ¬ ResAt l k x) : ¬ ResultsOk l := fun h => hf (h.2 k x hx)
theorem results_end {l : List ResultD} {k : Nat} (h1 : Upto (ResAt l) l k) (hk : l.length ≤ k) : bP (ResultsOk l) = decide ((l.length : Int) ≤ 40) := by
  by_cases h : l.length ≤ 40
  · rw [bP_true ⟨h, h1.all hk⟩]; exact (decide_eq_true (by omega)).symm
  · rw [bP_false fun h' => h h'.1]; exact (decide_eq_false (by omega)).symm
theorem rsB_bP (l : List ResultD) (n : Int) : bP (n ∈ l.map ResultD.skater) = rsB l n := by rw [Bool.eq_iff_iff, bP_iff, rsB_iff]
theorem l1HasRs_ok (l : List ResultD) (n : Int) (hn : (l.map ResultD.skater).length ≤ 16777216) : FnEq Tryz.prog 97 [.d (.lst 1 ((l.map ResultD.skater).map datI)), .d (.int .i64 n)] [.d (.bool (rsB l n))] := by
  rw [← rsB_bP]; exact l1Has_ok _ n hn

theorem AreResults_ok (l : List ResultD) (hn : l.length ≤ 1048576) (hs : ∀ r ∈ l, r.scores.length ≤ 1048576) : FnEq Tryz.prog 22 [.d (.lst 2 (l.map ResultD.dat))] [.d (.bool (bP (ResultsOk l)))] := by
  refine fn_ok G_ok Tryz.func22 rfl rfl ?_; simp only [Tryz.ntmps22, List.length_cons, List.length_nil, Nat.reduceAdd, Nat.reduceSub, enm]
  repeat' (first | ((with_reducible first | (refine hK _ ?_; clear hK K) | refine stq fun K' hK' => ?_ | refine stc ?_); try simp only [go_sem]) | (with_reducible first | refine stp ?_ | (refine hK' _ ?_; clear hK' K') | refine kN kl22 fun K hK => ?_ | refine kO fun K hK => ?_) | (refine xS rfl fun K' hK' => ?_; simp only [go_sem]) | (refine qS rfl fun K' hK' => ?_; simp only [go_sem]) | refine iB ?_ | (with_reducible refine pw_seq_drawK kl22 G_ok mixed (by kernel_rfl) (fun K hK => ?_)) | (with_reducible refine pw_draw G_ok mixed (by kernel_rfl) ?_) | (with_reducible refine pK_mk ?_ ?_ <;> (intro hc; (try simp only [go_sem]); (try simp at hc); try (exfalso; omega))) | with_reducible refine And.intro (by first | omega | (unfold inI; omega)) ?_)
  refine pw_loop_over [2, 3, 4, 6, 9, 10, 11, 12, 13, 14, 15, 16, 17, 18, 19, 20, 21, 22, 23, 24, 25, 26, 27, 28, 29, 30, 31, 32, 33, 34, 35, 36, 37, 38, 39, 40, 41, 42] (fun k : Nat => [(9, .d (.int .i64 (k : Int)))]) (fun k : Nat => []) 0 (fun k : Nat => k ≤ l.length ∧ Upto (ResAt l) l k) (fun k : Nat => l.length - k) 0 ⟨Nat.zero_le _, Upto.zero _ _⟩ (fits_mk [] (by simp [renL_d, bdL_d, sg, over, wipe, wl, memN, ins, rm, lk, fitFr, fit1, ren, renL, bd, bdL, app, fitHp, hget, renB, bdB] <;> omega)) ?_
  rintro k ⟨hk, hJ⟩
  simp only [over, wipe, wl, memN, ins, rm, if_true, if_false, Nat.reduceEqDiff, Bool.false_eq_true, reduceCtorEq]
  by_cases hlt : k < l.length
  · have hx := List.getElem?_eq_getElem hlt
    generalize l[k] = x at hx
    have hz := List.getElem?_eq_getElem (show 0 < l.length by omega)
    generalize l[0] = z at hz
    have hlz := len0_of hz
    have hxs := hs x (List.mem_of_getElem? hx)
    have hzs := hs z (List.mem_of_getElem? hz)
    repeat' (first | ((with_reducible first | (refine hK _ ?_; clear hK K) | refine stq fun K' hK' => ?_ | refine stc ?_); try simp only [go_sem, List.getElem?_map, hx, hz, Option.map_some, ResultD.dat, ← List.map_take]) | (with_reducible first | refine stp ?_ | (refine hK' _ ?_; clear hK' K') | refine kN kl22 fun K hK => ?_ | refine kO fun K hK => ?_) | (refine xS rfl fun K' hK' => ?_; simp only [go_sem, List.getElem?_map, hx, hz, Option.map_some, ResultD.dat, ← List.map_take]) | (refine qS rfl fun K' hK' => ?_; simp only [go_sem, List.getElem?_map, hx, hz, Option.map_some, ResultD.dat, ← List.map_take]) | ((with_reducible first | apply CallK.eq | apply CallQ.eqs); (· with_reducible first | exact isResult_ok x hxs); (· first | exact rfl | (simp [RV.flat, D.sc, datI]; done)); try simp only [go_sem, List.getElem?_map, hx, hz, Option.map_some, ResultD.dat, ← List.map_take]) | refine iB ?_ | (with_reducible refine pw_seq_drawK kl22 G_ok mixed (by kernel_rfl) (fun K hK => ?_)) | (with_reducible refine pw_draw G_ok mixed (by kernel_rfl) ?_) | (with_reducible refine pK_mk ?_ ?_ <;> (intro hc; (try simp only [go_sem, List.getElem?_map, hx, hz, Option.map_some, ResultD.dat, ← List.map_take]); (try simp at hc); try (exfalso; omega))) | with_reducible refine And.intro (by first | omega | (unfold inI; omega)) ?_)
    · refine retQ_ret rfl rfl (by simp [rowsOf, lk]) ?_; rw [bP_false (ResultsOk.not_at hx fun h => by have := h.2.1; omega)]
    · have hT : (l.take k).length = k := by simp; omega
      refine pw_loop_over [2, 6, 32, 33, 34, 35, 36, 37, 38, 39, 40, 41] (fun j : Nat => [(32, .d (.int .i64 (j : Int)))]) (fun _ => [(0, .box 92 [.d (.int .i64 x.skater), .d (.lst 1 (x.scores.map datI))])]) 1 (fun j => j ≤ k ∧ rsB (l.take j) x.skater = false) (fun j => k - j) 0 ⟨Nat.zero_le _, rfl⟩ (fits_mk [] (by simp [renL_d, bdL_d, sg, over, wipe, wl, memN, ins, rm, lk, fitFr, fit1, ren, renL, bd, bdL, app, fitHp, hget, renB, bdB] <;> omega)) ?_
      rintro j ⟨hj, hJ2⟩
      simp only [over, wipe, wl, memN, ins, rm, if_true, if_false, Nat.reduceEqDiff, Bool.false_eq_true, reduceCtorEq]
      by_cases hlt2 : j < k
      · have hjl : j < l.length := by omega
        have hy := List.getElem?_eq_getElem hjl
        generalize l[j] = y at hy
        have hyt : (l.take k)[j]? = some y := by rw [List.getElem?_take_of_lt hlt2]; exact hy
        repeat' (first | ((with_reducible first | (refine hK _ ?_; clear hK K) | refine stq fun K' hK' => ?_ | refine stc ?_); try simp only [go_sem, List.getElem?_map, hyt, Option.map_some, ResultD.dat]) | (with_reducible first | refine stp ?_ | (refine hK' _ ?_; clear hK' K') | refine kN kl22 fun K hK => ?_ | refine kO fun K hK => ?_) | (refine xS rfl fun K' hK' => ?_; simp only [go_sem, List.getElem?_map, hyt, Option.map_some, ResultD.dat]) | (refine qS rfl fun K' hK' => ?_; simp only [go_sem, List.getElem?_map, hyt, Option.map_some, ResultD.dat]) | refine iB ?_ | (with_reducible refine pw_seq_drawK kl22 G_ok mixed (by kernel_rfl) (fun K hK => ?_)) | (with_reducible refine pw_draw G_ok mixed (by kernel_rfl) ?_) | (with_reducible refine pK_mk ?_ ?_ <;> (intro hc; (try simp only [go_sem, List.getElem?_map, hyt, Option.map_some, ResultD.dat]); (try simp at hc); try (exfalso; omega))) | with_reducible refine And.intro (by first | omega | (unfold inI; omega)) ?_)
        · refine retQ_ret rfl rfl (by simp [rowsOf, lk]) ?_; rw [bP_false (ResultsOk.not_at hx fun h => h.2.2 (by rw [← hc]; exact List.mem_map.2 ⟨y, List.mem_of_getElem? hyt, rfl⟩))]
        · exact ⟨j + 1, ⟨by omega, by unfold rsB at *; rw [take_snoc hy, List.any_append, hJ2]; simpa using hc⟩, by omega, (fits_mk [] (by simp [renL_d, bdL_d, sg, over, wipe, wl, memN, ins, rm, lk, fitFr, fit1, ren, renL, bd, bdL, app, fitHp, hget, renB, bdB] <;> omega))⟩
      · have hje : j = k := by omega
        subst hje
        repeat' (first | ((with_reducible first | (refine hK _ ?_; clear hK K) | refine stq fun K' hK' => ?_ | refine stc ?_); try simp only [go_sem]) | (with_reducible first | refine stp ?_ | (refine hK' _ ?_; clear hK' K') | refine kN kl22 fun K hK => ?_ | refine kO fun K hK => ?_) | (refine xS rfl fun K' hK' => ?_; simp only [go_sem]) | (refine qS rfl fun K' hK' => ?_; simp only [go_sem]) | refine iB ?_ | (with_reducible refine pw_seq_drawK kl22 G_ok mixed (by kernel_rfl) (fun K hK => ?_)) | (with_reducible refine pw_draw G_ok mixed (by kernel_rfl) ?_) | (with_reducible refine pK_mk ?_ ?_ <;> (intro hc; (try simp only [go_sem]); (try simp at hc); try (exfalso; omega))) | with_reducible refine And.intro (by first | omega | (unfold inI; omega)) ?_)
        exact ⟨j + 1, ⟨by omega, hJ.succ hx ⟨of_bP (by assumption), by omega, rsB_not hJ2⟩⟩, by omega, (fits_mk [] (by simp [renL_d, bdL_d, sg, over, wipe, wl, memN, ins, rm, lk, fitFr, fit1, ren, renL, bd, bdL, app, fitHp, hget, renB, bdB] <;> omega))⟩
    · refine retQ_ret rfl rfl (by simp [rowsOf, lk]) ?_; rw [bP_false (ResultsOk.not_at hx fun h => not_bP (by assumption) h.1)]
  · repeat' (first | ((with_reducible first | (refine hK _ ?_; clear hK K) | refine stq fun K' hK' => ?_ | refine stc ?_); try simp only [go_sem]) | (with_reducible first | refine stp ?_ | (refine hK' _ ?_; clear hK' K') | refine kN kl22 fun K hK => ?_ | refine kO fun K hK => ?_) | (refine xS rfl fun K' hK' => ?_; simp only [go_sem]) | (refine qS rfl fun K' hK' => ?_; simp only [go_sem]) | refine iB ?_ | (with_reducible refine pw_seq_drawK kl22 G_ok mixed (by kernel_rfl) (fun K hK => ?_)) | (with_reducible refine pw_draw G_ok mixed (by kernel_rfl) ?_) | (with_reducible refine pK_mk ?_ ?_ <;> (intro hc; (try simp only [go_sem]); (try simp at hc); try (exfalso; omega))) | with_reducible refine And.intro (by first | omega | (unfold inI; omega)) ?_)
    refine retQ_ret rfl rfl (by simp [rowsOf, lk]) ?_; rw [results_end hJ (by omega)]
theorem rkGood_ok (l : List ResultD) (hn : l.length ≤ 1048576) (hs : ∀ r ∈ l, r.scores.length ≤ 1048576) : FnEq Tryz.prog 63 [.d (.lst 2 (l.map ResultD.dat))] [.d (.bool (bP (ResultsOk l)))] := by
  refine fn_ok G_ok Tryz.func63 rfl rfl ?_; simp only [Tryz.ntmps63, List.length_cons, List.length_nil, Nat.reduceAdd, Nat.reduceSub, enm]
  repeat' (first | ((with_reducible first | (refine hK _ ?_; clear hK K) | refine stq fun K' hK' => ?_ | refine stc ?_); try simp only [go_sem]) | (with_reducible first | refine stp ?_ | (refine hK' _ ?_; clear hK' K') | refine kN kl63 fun K hK => ?_ | refine kO fun K hK => ?_) | (refine xS rfl fun K' hK' => ?_; simp only [go_sem]) | (refine qS rfl fun K' hK' => ?_; simp only [go_sem]) | refine iB ?_ | (with_reducible refine pw_seq_drawK kl63 G_ok mixed (by kernel_rfl) (fun K hK => ?_)) | (with_reducible refine pw_draw G_ok mixed (by kernel_rfl) ?_) | (with_reducible refine pK_mk ?_ ?_ <;> (intro hc; (try simp only [go_sem]); (try simp at hc); try (exfalso; omega))) | with_reducible refine And.intro (by first | omega | (unfold inI; omega)) ?_)
  refine pw_loop_over [2, 3, 5, 8, 9, 10, 11, 12, 13, 14, 15, 16, 17, 18, 19, 20, 21, 22, 23, 24, 25, 26, 27, 28, 29, 30, 31, 32, 33, 34, 35, 36, 37] (fun k : Nat => [(8, .d (.int .i64 (k : Int))), (3, .row 0 (l.take k).length)]) (fun k : Nat => [(0, .row 3 1 (((l.take k).map ResultD.skater).map datI))]) 1 (fun k : Nat => k ≤ l.length ∧ Upto (ResAt l) l k) (fun k : Nat => l.length - k) 0 ⟨Nat.zero_le _, Upto.zero _ _⟩ (fits_mk [] (by simp [renL_d, bdL_d, sg, over, wipe, wl, memN, ins, rm, lk, fitFr, fit1, ren, renL, bd, bdL, app, fitHp, hget, renB, bdB] <;> omega)) ?_
  rintro k ⟨hk, hJ⟩
  have hT : (l.take k).length ≤ k := List.length_take_le _ _
  simp only [over, wipe, wl, memN, ins, rm, if_true, if_false, Nat.reduceEqDiff, Bool.false_eq_true, reduceCtorEq]
  by_cases hlt : k < l.length
  · have hx := List.getElem?_eq_getElem hlt
    generalize l[k] = x at hx
    have hz := List.getElem?_eq_getElem (show 0 < l.length by omega)
    generalize l[0] = z at hz
    have hlz := len0_of hz
    have hxs := hs x (List.mem_of_getElem? hx)
    have hzs := hs z (List.mem_of_getElem? hz)
    repeat' (first | ((with_reducible first | (refine hK _ ?_; clear hK K) | refine stq fun K' hK' => ?_ | refine stc ?_); try simp only [go_sem, List.getElem?_map, hx, hz, Option.map_some, ResultD.dat]) | (with_reducible first | refine stp ?_ | (refine hK' _ ?_; clear hK' K') | refine kN kl63 fun K hK => ?_ | refine kO fun K hK => ?_) | (refine xS rfl fun K' hK' => ?_; simp only [go_sem, List.getElem?_map, hx, hz, Option.map_some, ResultD.dat]) | (refine qS rfl fun K' hK' => ?_; simp only [go_sem, List.getElem?_map, hx, hz, Option.map_some, ResultD.dat]) | ((with_reducible first | apply CallK.eq | apply CallQ.eqs); (· with_reducible first | exact rkResult_ok x hxs | exact l1HasRs_ok (l.take k) _ (by simp; omega)); (· first | exact rfl | (simp [RV.flat, D.sc, datI]; done)); try simp only [go_sem, List.getElem?_map, hx, hz, Option.map_some, ResultD.dat]) | refine iB ?_ | (with_reducible refine pw_seq_drawK kl63 G_ok mixed (by kernel_rfl) (fun K hK => ?_)) | (with_reducible refine pw_draw G_ok mixed (by kernel_rfl) ?_) | (with_reducible refine pK_mk ?_ ?_ <;> (intro hc; (try simp only [go_sem, List.getElem?_map, hx, hz, Option.map_some, ResultD.dat]); (try simp at hc); try (exfalso; omega))) | with_reducible refine And.intro (by first | omega | (unfold inI; omega)) ?_)
    · refine retQ_ret rfl rfl (by simp [rowsOf, lk]) ?_; rw [bP_false (ResultsOk.not_at hx fun h => by have := h.2.1; omega)]
    · exact ⟨k + 1, ⟨by omega, hJ.succ hx ⟨of_bP (by assumption), by omega, rsB_not (by assumption)⟩⟩, by omega, (fits_mk [] (by simp [renL_d, bdL_d, sg, over, wipe, wl, memN, ins, rm, lk, fitFr, fit1, ren, renL, bd, bdL, app, fitHp, hget, renB, bdB, map_snoc hx, datI] <;> omega))⟩
    · refine retQ_ret rfl rfl (by simp [rowsOf, lk]) ?_; rw [bP_false (ResultsOk.not_at hx fun h => h.2.2 (rsB_iff.1 (by assumption)))]
    · refine retQ_ret rfl rfl (by simp [rowsOf, lk]) ?_; rw [bP_false (ResultsOk.not_at hx fun h => not_bP (by assumption) h.1)]
  · repeat' (first | ((with_reducible first | (refine hK _ ?_; clear hK K) | refine stq fun K' hK' => ?_ | refine stc ?_); try simp only [go_sem]) | (with_reducible first | refine stp ?_ | (refine hK' _ ?_; clear hK' K') | refine kN kl63 fun K hK => ?_ | refine kO fun K hK => ?_) | (refine xS rfl fun K' hK' => ?_; simp only [go_sem]) | (refine qS rfl fun K' hK' => ?_; simp only [go_sem]) | refine iB ?_ | (with_reducible refine pw_seq_drawK kl63 G_ok mixed (by kernel_rfl) (fun K hK => ?_)) | (with_reducible refine pw_draw G_ok mixed (by kernel_rfl) ?_) | (with_reducible refine pK_mk ?_ ?_ <;> (intro hc; (try simp only [go_sem]); (try simp at hc); try (exfalso; omega))) | with_reducible refine And.intro (by first | omega | (unfold inI; omega)) ?_)
    refine retQ_ret rfl rfl (by simp [rowsOf, lk]) ?_; rw [results_end hJ (by omega)]
end Go.Proofs.YthocihmhljmgdaaGreatDoor

/-
  Places of results: the program's functions and the reference's, in the abstract machine.
-/
namespace Go.Proofs.YthocihmhljmgdaaGreatDoor
open Go.RowKit

end Go.Proofs.YthocihmhljmgdaaGreatDoor
namespace Go.Proofs.YthocihmhljmgdaaGreatDoor
open Go.RowKit

end Go.Proofs.YthocihmhljmgdaaGreatDoor

/-
  Comparisons of results are an order: plain words. No program is named here.
-/
namespace Go.Proofs.YthocihmhljmgdaaGreatDoor
open Go.RowKit

end Go.Proofs.YthocihmhljmgdaaGreatDoor

/-
  The order of results: plain words (an insertion sort under a total order; the order of the program). No program is named here.
-/
namespace Go.Proofs.YthocihmhljmgdaaGreatDoor
open Go.RowKit

/-- a strict total order on those that satisfy S -/
structure TotOn {α : Type} (lt : α → α → Bool) (S : α → Prop) : Prop where
  asymm : ∀ {a b}, S a → S b → lt a b = true → lt b a = false
  trans : ∀ {a b c}, S a → S b → S c → lt a b = true → lt b c = true → lt a c = true
  total : ∀ {a b}, S a → S b → lt a b = false → lt b a = false → a = b
def insO {α : Type} (lt : α → α → Bool) (x : α) : List α → List α
  | [] => [x]
  | y :: ys => if lt y x = true then y :: insO lt x ys else x :: y :: ys
theorem insO_perm {α : Type} (lt : α → α → Bool) (x : α) : ∀ l : List α, (insO lt x l).Perm (x :: l)
  | [] => List.Perm.refl _
  | y :: ys => by
    unfold insO
    split
    · exact ((insO_perm lt x ys).cons y).trans (List.Perm.swap x y ys)
    · exact List.Perm.refl _
theorem insO_sorted {α : Type} {lt : α → α → Bool} {S : α → Prop} (hT : TotOn lt S) {x : α} (hx : S x) : ∀ {l : List α}, (∀ y ∈ l, S y) → (∀ y ∈ l, y ≠ x) → l.Pairwise (fun a b => lt a b = true) → (insO lt x l).Pairwise (fun a b => lt a b = true)
  | [], _, _, _ => by simp [insO]
  | y :: ys, hS, hne, hp => by
    have hy := hS y (by simp)
    have h1 := (List.pairwise_cons.1 hp).1
    have h2 := (List.pairwise_cons.1 hp).2
    unfold insO
    split
    · rename_i h
      refine List.pairwise_cons.2 ⟨fun z hz => ?_, insO_sorted hT hx (fun z hz => hS z (List.mem_cons_of_mem _ hz)) (fun z hz => hne z (List.mem_cons_of_mem _ hz)) h2⟩
      rcases List.mem_cons.1 ((insO_perm lt x ys).mem_iff.1 hz) with rfl | hz
      · exact h
      · exact h1 z hz
    · rename_i h
      have hxy : lt x y = true := by
        cases e : lt x y with
        | true => rfl
        | false => exact absurd (hT.total hy hx (by simpa using h) e) (hne y (by simp))
      refine List.pairwise_cons.2 ⟨fun z hz => ?_, hp⟩
      rcases List.mem_cons.1 hz with rfl | hz'
      · exact hxy
      · exact hT.trans hx hy (hS z hz) hxy (h1 z hz')
theorem insO_at {α : Type} {lt : α → α → Bool} {S : α → Prop} (hT : TotOn lt S) {x : α} (hx : S x) : ∀ (l : List α) (k : Nat), (∀ y ∈ l, S y) → l.Pairwise (fun a b => lt a b = true) → k ≤ l.length → (∀ j y, k ≤ j → l[j]? = some y → lt y x = false) → (∀ y, 0 < k → l[k - 1]? = some y → lt y x = true) → insO lt x l = l.take k ++ x :: l.drop k
  | [], k, _, _, hk, _, _ => by
    have : k = 0 := by simpa using hk
    subst this
    rfl
  | y :: ys, 0, _, _, _, h1, _ => by
    unfold insO
    rw [if_neg (by rw [h1 0 y (by omega) rfl]; simp)]
    rfl
  | y :: ys, k + 1, hS, hp, hk, h1, h2 => by
    have hp1 := (List.pairwise_cons.1 hp).1
    have hp2 := (List.pairwise_cons.1 hp).2
    have hyx : lt y x = true := by
      cases k with
      | zero => exact h2 y (by omega) rfl
      | succ k =>
        have hlt : k < ys.length := by simp at hk; omega
        have hz := List.getElem?_eq_getElem hlt
        have h3 := h2 ys[k] (by omega) (by simp)
        exact hT.trans (hS y (by simp)) (hS _ (List.mem_cons_of_mem _ (List.mem_of_getElem? hz))) hx (hp1 _ (List.mem_of_getElem? hz)) h3
    unfold insO
    rw [if_pos hyx, insO_at hT hx ys k (fun z hz => hS z (List.mem_cons_of_mem _ hz)) hp2 (by simpa using hk) (fun j z hj hz => h1 (j + 1) z (by omega) (by simpa using hz)) (fun z hk0 hz => h2 z (by omega) (by rw [show k + 1 - 1 = (k - 1) + 1 by omega, List.getElem?_cons_succ]; exact hz))]
    rfl
end Go.Proofs.YthocihmhljmgdaaGreatDoor
namespace Go.Proofs.YthocihmhljmgdaaGreatDoor
open Go.RowKit

end Go.Proofs.YthocihmhljmgdaaGreatDoor
