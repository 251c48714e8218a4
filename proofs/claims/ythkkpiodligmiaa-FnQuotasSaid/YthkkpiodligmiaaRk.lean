/-
  Results of skaters: when one is valid, its total; the program's functions and the reference's, in the abstract machine.
-/
import Derived.Test.YthkkpiodligmiaaOrd
set_option linter.unusedSimpArgs false
set_option linter.unusedVariables false
set_option maxHeartbeats 2000000
set_option maxRecDepth 100000
namespace Go.Proofs.Ythkkpiodligmiaa
open Go.RowKit

structure ResultD where
  skater : Int
  scores : List Int
def ResultD.dat (x : ResultD) : List D := [.int .i64 x.skater, .lst 1 (x.scores.map datI)]

/-- a score at a place: no score behind a missing one -/
def ScAt (l : List Int) (k : Nat) (x : Int) : Prop := -1 ≤ x ∧ x ≤ 100000 ∧ (0 < k → l.getD (k - 1) 0 < 0 → x < 0)
def ScOk (l : List Int) : Prop := All (ScAt l) l
def ResOk (r : ResultD) : Prop := ScOk r.scores ∧ 1 ≤ r.skater ∧ r.skater ≤ 999 ∧ 1 ≤ r.scores.length ∧ r.scores.length ≤ 3
theorem ResOk.not_at {r : ResultD} {k : Nat} {x : Int} (hx : r.scores[k]? = some x) (hf : ¬ ScAt r.scores k x) : ¬ ResOk r := fun h => hf (h.1 k x hx)
theorem res_end {r : ResultD} {k : Nat} (h : Upto (ScAt r.scores) r.scores k) (hk : r.scores.length ≤ k) : bP (ResOk r) = ((decide (1 ≤ r.skater) && decide (r.skater ≤ 999)) && (decide (1 ≤ (r.scores.length : Int)) && decide ((r.scores.length : Int) ≤ 3))) := by
  rw [Bool.eq_iff_iff, bP_iff]
  simp only [Bool.and_eq_true, decide_eq_true_eq]
  constructor
  · rintro ⟨_, h1, h2, h3, h4⟩; exact ⟨⟨h1, h2⟩, by omega, by omega⟩
  · rintro ⟨⟨h1, h2⟩, h3, h4⟩; exact ⟨h.all hk, h1, h2, by omega, by omega⟩
theorem res_no {r : ResultD} (h : ¬ (1 ≤ r.skater ∧ r.skater ≤ 999)) : bP (ResOk r) = false := bP_false fun h' => h ⟨h'.2.1, h'.2.2.1⟩
def negB (l : List Int) (k : Nat) : Bool := decide (0 < k) && decide (l.getD (k - 1) 0 < 0)
theorem negB_iff {l : List Int} {k : Nat} : negB l k = true ↔ 0 < k ∧ l.getD (k - 1) 0 < 0 := by unfold negB; simp only [Bool.and_eq_true, decide_eq_true_eq]
theorem negB_zero (l : List Int) : negB l 0 = false := rfl
theorem negB_succ {l : List Int} {k : Nat} {x : Int} (hx : l[k]? = some x) : negB l (k + 1) = decide (x < 0) := by
  unfold negB; rw [show k + 1 - 1 = k by omega, List.getD_eq_getElem?_getD, hx]; simp
/-- the sum of the scores that are there, and how many they are -/
def scSum (l : List Int) : Int := ((l.filter fun x => decide (0 ≤ x)).sum : Int)
def scCnt (l : List Int) : Nat := cn (fun x => decide (0 ≤ x)) l
theorem scSum_yes {l : List Int} {k : Nat} {x : Int} (hx : l[k]? = some x) (h : 0 ≤ x) : scSum (l.take (k + 1)) = scSum (l.take k) + x := by
  unfold scSum; rw [take_snoc hx, List.filter_append]; simp [h]
theorem scSum_no {l : List Int} {k : Nat} {x : Int} (hx : l[k]? = some x) (h : x < 0) : scSum (l.take (k + 1)) = scSum (l.take k) := by
  unfold scSum; rw [take_snoc hx, List.filter_append]; simp [show ¬ 0 ≤ x by omega]
theorem scSum_le {l : List Int} (h : ScOk l) : ∀ k, k ≤ l.length → 0 ≤ scSum (l.take k) ∧ scSum (l.take k) ≤ 100000 * k
  | 0, _ => by simp [scSum]
  | k + 1, hk => by
    have ih := scSum_le h k (by omega)
    have hx := List.getElem?_eq_getElem (show k < l.length by omega)
    generalize l[k] = x at hx
    have hs := h k x hx
    by_cases h0 : 0 ≤ x
    · rw [scSum_yes hx h0]; have := hs.2.1; omega
    · rw [scSum_no hx (by omega)]; omega

theorem isResult_ok (r : ResultD) (hn : r.scores.length ≤ 1048576) : FnEq Try.prog 75 [.agg [.d (.int .i64 r.skater), .d (.lst 1 (r.scores.map datI))]] [.d (.bool (bP (ResOk r)))] := by
  refine fn_ok G_ok Try.func75 rfl rfl ?_; simp only [Try.ntmps75, List.length_cons, List.length_nil, Nat.reduceAdd, Nat.reduceSub, enm]
  repeat' (first | ((with_reducible first | refine execL_step (fun K' hK' => ?_)); (first | with_reducible refine s_none rfl ?_ | refine s_some2 rfl ?_); simp only [go_sem]) | (with_reducible refine hK' _ ?_; clear hK' K') | (with_reducible refine hK _ ?_; clear hK K; try simp only [go_sem]) | with_reducible (first | refine stp ?_ | refine pw_seq_opsK kl75 G_ok (fun K hK => ?_) | refine pw_ops G_ok (fun K hK => ?_)) | refine inBlockA_other (by decide) ?_ | (with_reducible refine pK_mk (fun hc => ?_) (fun hc => ?_) <;> (try simp only [go_sem]) <;> (try simp at hc) <;> (try (exfalso; omega))) | ((first | refine pw_seq (pw_cond rfl (fun hc => ?_) (fun hc => ?_)) | refine pw_cond rfl (fun hc => ?_) (fun hc => ?_)) <;> (try simp at hc) <;> (try (exfalso; omega))) | with_reducible refine And.intro (by first | omega | (unfold inI; omega) | exact andI_inI _) ?_)
  refine pw_loop_over [2, 3, 4, 8, 9, 10, 11, 12, 13, 14, 15, 16, 17, 18, 19, 20, 21, 22, 23, 24, 25, 26, 27, 28, 29, 30, 31, 32, 33] (fun k : Nat => [(8, .d (.int .i64 (k : Int)))]) (fun k : Nat => [(0, .box 29 [.d (.int .i64 r.skater), .d (.lst 1 (r.scores.map datI))])]) 1 (fun k : Nat => k ≤ r.scores.length ∧ Upto (ScAt r.scores) r.scores k) (fun k : Nat => r.scores.length - k) 0 ⟨Nat.zero_le _, Upto.zero _ _⟩ (fits_mk [] (by simp [renL_d, bdL_d, sg, over, wipe, wl, memN, ins, rm, lk, fitFr, fit1, ren, renL, bd, bdL, app, fitHp, hget, renB, bdB] <;> omega)) ?_
  rintro k ⟨hk, hJ⟩
  simp only [over, wipe, wl, memN, ins, rm, if_true, if_false, Nat.reduceEqDiff, Bool.false_eq_true, reduceCtorEq]
  by_cases hlt : k < r.scores.length
  · have hx := List.getElem?_eq_getElem hlt
    generalize r.scores[k] = x at hx
    rcases Nat.eq_zero_or_pos k with h0 | h0
    · repeat' (first | ((with_reducible first | refine execL_step (fun K' hK' => ?_)); (first | with_reducible refine s_none rfl ?_ | refine s_some2 rfl ?_); simp only [go_sem, List.getElem?_map, hx, Option.map_some, datI]) | (with_reducible refine hK' _ ?_; clear hK' K') | (with_reducible refine hK _ ?_; clear hK K; try simp only [go_sem, List.getElem?_map, hx, Option.map_some, datI]) | with_reducible (first | refine stp ?_ | refine pw_seq_opsK kl75 G_ok (fun K hK => ?_) | refine pw_ops G_ok (fun K hK => ?_)) | ((with_reducible first | apply CallK.eq); (focus (with_reducible first | exact within_ok _ _ _)); (focus (first | exact rfl | (simp [RV.flat, D.sc, datI]; done))); try simp only [go_sem, List.getElem?_map, hx, Option.map_some, datI]) | refine inBlockA_other (by decide) ?_ | (with_reducible refine pK_mk (fun hc => ?_) (fun hc => ?_) <;> (try simp only [go_sem, List.getElem?_map, hx, Option.map_some, datI]) <;> (try simp at hc) <;> (try (exfalso; omega))) | ((first | refine pw_seq (pw_cond rfl (fun hc => ?_) (fun hc => ?_)) | refine pw_cond rfl (fun hc => ?_) (fun hc => ?_)) <;> (try simp at hc) <;> (try (exfalso; omega))) | with_reducible refine And.intro (by first | omega | (unfold inI; omega) | exact andI_inI _) ?_)
      all_goals first
        | (refine retQ_ret rfl rfl (by simp [rowsOf, lk]) ?_; rw [bP_false (ResOk.not_at hx (by rintro ⟨h1, h2, h3⟩; omega))])
        | exact ⟨k + 1, ⟨by omega, hJ.succ hx ⟨by omega, by omega, fun h1 _ => absurd h1 (by omega)⟩⟩, by omega, (fits_mk [] (by simp [renL_d, bdL_d, sg, over, wipe, wl, memN, ins, rm, lk, fitFr, fit1, ren, renL, bd, bdL, app, fitHp, hget, renB, bdB] <;> omega))⟩
    · have hpl : k - 1 < r.scores.length := by omega
      have hp := List.getElem?_eq_getElem hpl
      generalize r.scores[k - 1] = y at hp
      have hpk : ((k : Int) - 1).toNat = k - 1 := by omega
      have hgd : r.scores.getD (k - 1) 0 = y := by rw [List.getD_eq_getElem?_getD, hp]; rfl
      repeat' (first | ((with_reducible first | refine execL_step (fun K' hK' => ?_)); (first | with_reducible refine s_none rfl ?_ | refine s_some2 rfl ?_); simp only [go_sem, List.getElem?_map, hx, hp, hpk, Option.map_some, datI]) | (with_reducible refine hK' _ ?_; clear hK' K') | (with_reducible refine hK _ ?_; clear hK K; try simp only [go_sem, List.getElem?_map, hx, hp, hpk, Option.map_some, datI]) | with_reducible (first | refine stp ?_ | refine pw_seq_opsK kl75 G_ok (fun K hK => ?_) | refine pw_ops G_ok (fun K hK => ?_)) | ((with_reducible first | apply CallK.eq); (focus (with_reducible first | exact within_ok _ _ _)); (focus (first | exact rfl | (simp [RV.flat, D.sc, datI]; done))); try simp only [go_sem, List.getElem?_map, hx, hp, hpk, Option.map_some, datI]) | refine inBlockA_other (by decide) ?_ | (with_reducible refine pK_mk (fun hc => ?_) (fun hc => ?_) <;> (try simp only [go_sem, List.getElem?_map, hx, hp, hpk, Option.map_some, datI]) <;> (try simp at hc) <;> (try (exfalso; omega))) | ((first | refine pw_seq (pw_cond rfl (fun hc => ?_) (fun hc => ?_)) | refine pw_cond rfl (fun hc => ?_) (fun hc => ?_)) <;> (try simp at hc) <;> (try (exfalso; omega))) | with_reducible refine And.intro (by first | omega | (unfold inI; omega) | exact andI_inI _) ?_)
      all_goals first
        | (refine retQ_ret rfl rfl (by simp [rowsOf, lk]) ?_; rw [bP_false (ResOk.not_at hx (by rintro ⟨h1, h2, h3⟩; first | omega | (have := h3 h0 (by rw [hgd]; omega); omega)))])
        | exact ⟨k + 1, ⟨by omega, hJ.succ hx ⟨by omega, by omega, fun _ h2 => by rw [hgd] at h2; omega⟩⟩, by omega, (fits_mk [] (by simp [renL_d, bdL_d, sg, over, wipe, wl, memN, ins, rm, lk, fitFr, fit1, ren, renL, bd, bdL, app, fitHp, hget, renB, bdB] <;> omega))⟩
  · repeat' (first | ((with_reducible first | refine execL_step (fun K' hK' => ?_)); (first | with_reducible refine s_none rfl ?_ | refine s_some2 rfl ?_); simp only [go_sem]) | (with_reducible refine hK' _ ?_; clear hK' K') | (with_reducible refine hK _ ?_; clear hK K; try simp only [go_sem]) | with_reducible (first | refine stp ?_ | refine pw_seq_opsK kl75 G_ok (fun K hK => ?_) | refine pw_ops G_ok (fun K hK => ?_)) | ((with_reducible first | apply CallK.eq); (focus (with_reducible first | exact isSkater_ok _ | exact within_ok _ _ _)); (focus (first | exact rfl | (simp [RV.flat, D.sc, datI]; done))); try simp only [go_sem]) | refine inBlockA_other (by decide) ?_ | (with_reducible refine pK_mk (fun hc => ?_) (fun hc => ?_) <;> (try simp only [go_sem]) <;> (try simp at hc) <;> (try (exfalso; omega))) | ((first | refine pw_seq (pw_cond rfl (fun hc => ?_) (fun hc => ?_)) | refine pw_cond rfl (fun hc => ?_) (fun hc => ?_)) <;> (try simp at hc) <;> (try (exfalso; omega))) | with_reducible refine And.intro (by first | omega | (unfold inI; omega) | exact andI_inI _) ?_)
    · refine retQ_ret rfl rfl (by simp [rowsOf, lk]) ?_; rw [res_end hJ (by omega)]; simp [hc]
    · refine retQ_ret rfl rfl (by simp [rowsOf, lk]) ?_; rw [res_no (by omega)]
theorem rkResult_ok (r : ResultD) (hn : r.scores.length ≤ 1048576) : FnEq Try.prog 77 [.agg [.d (.int .i64 r.skater), .d (.lst 1 (r.scores.map datI))]] [.d (.bool (bP (ResOk r)))] := by
  refine fn_ok G_ok Try.func77 rfl rfl ?_; simp only [Try.ntmps77, List.length_cons, List.length_nil, Nat.reduceAdd, Nat.reduceSub, enm]
  repeat' (first | ((with_reducible first | refine execL_step (fun K' hK' => ?_)); (first | with_reducible refine s_none rfl ?_ | refine s_some2 rfl ?_); simp only [go_sem]) | (with_reducible refine hK' _ ?_; clear hK' K') | (with_reducible refine hK _ ?_; clear hK K; try simp only [go_sem]) | with_reducible (first | refine stp ?_ | refine pw_seq_opsK kl77 G_ok (fun K hK => ?_) | refine pw_ops G_ok (fun K hK => ?_)) | refine inBlockA_other (by decide) ?_ | (with_reducible refine pK_mk (fun hc => ?_) (fun hc => ?_) <;> (try simp only [go_sem]) <;> (try simp at hc) <;> (try (exfalso; omega))) | ((first | refine pw_seq (pw_cond rfl (fun hc => ?_) (fun hc => ?_)) | refine pw_cond rfl (fun hc => ?_) (fun hc => ?_)) <;> (try simp at hc) <;> (try (exfalso; omega))) | with_reducible refine And.intro (by first | omega | (unfold inI; omega) | exact andI_inI _) ?_)
  refine pw_loop_over [2, 3, 5, 9, 10, 11, 12, 13, 14, 15, 16, 17, 18, 19, 20, 21, 22, 23, 24, 25] (fun k : Nat => [(9, .d (.int .i64 (k : Int))), (3, .d (.bool (negB r.scores k)))]) (fun k : Nat => [(0, .box 29 [.d (.int .i64 r.skater), .d (.lst 1 (r.scores.map datI))])]) 1 (fun k : Nat => k ≤ r.scores.length ∧ Upto (ScAt r.scores) r.scores k) (fun k : Nat => r.scores.length - k) 0 ⟨Nat.zero_le _, Upto.zero _ _⟩ (fits_mk [] (by simp [renL_d, bdL_d, sg, over, wipe, wl, memN, ins, rm, lk, fitFr, fit1, ren, renL, bd, bdL, app, fitHp, hget, renB, bdB, negB_zero] <;> omega)) ?_
  rintro k ⟨hk, hJ⟩
  simp only [over, wipe, wl, memN, ins, rm, if_true, if_false, Nat.reduceEqDiff, Bool.false_eq_true, reduceCtorEq]
  by_cases hlt : k < r.scores.length
  · have hx := List.getElem?_eq_getElem hlt
    generalize r.scores[k] = x at hx
    repeat' (first | ((with_reducible first | refine execL_step (fun K' hK' => ?_)); (first | with_reducible refine s_none rfl ?_ | refine s_some2 rfl ?_); simp only [go_sem, List.getElem?_map, hx, Option.map_some, datI]) | (with_reducible refine hK' _ ?_; clear hK' K') | (with_reducible refine hK _ ?_; clear hK K; try simp only [go_sem, List.getElem?_map, hx, Option.map_some, datI]) | with_reducible (first | refine stp ?_ | refine pw_seq_opsK kl77 G_ok (fun K hK => ?_) | refine pw_ops G_ok (fun K hK => ?_)) | ((with_reducible first | apply CallK.eq); (focus (with_reducible first | exact l1In_ok _ _ _)); (focus (first | exact rfl | (simp [RV.flat, D.sc, datI]; done))); try simp only [go_sem, List.getElem?_map, hx, Option.map_some, datI]) | refine inBlockA_other (by decide) ?_ | (with_reducible refine pK_mk (fun hc => ?_) (fun hc => ?_) <;> (try simp only [go_sem, List.getElem?_map, hx, Option.map_some, datI]) <;> (try simp at hc) <;> (try (exfalso; omega))) | ((first | refine pw_seq (pw_cond rfl (fun hc => ?_) (fun hc => ?_)) | refine pw_cond rfl (fun hc => ?_) (fun hc => ?_)) <;> (try simp at hc) <;> (try (exfalso; omega))) | with_reducible refine And.intro (by first | omega | (unfold inI; omega) | exact andI_inI _) ?_)
    all_goals first
      | (refine retQ_ret rfl rfl (by simp [rowsOf, lk]) ?_; rw [bP_false (ResOk.not_at hx (by
          rintro ⟨h1, h2, h3⟩
          first
            | omega
            | (have hn := negB_iff.1 (show negB r.scores k = true by assumption)
               have := h3 hn.1 hn.2
               omega)))])
      | exact ⟨k + 1, ⟨by omega, hJ.succ hx ⟨by omega, by omega, fun h1 h2 => by
          first
            | omega
            | exact absurd (negB_iff.2 ⟨h1, h2⟩) (by rw [show negB r.scores k = false by assumption]; simp)⟩⟩, by omega, (fits_mk [] (by simp [renL_d, bdL_d, sg, over, wipe, wl, memN, ins, rm, lk, fitFr, fit1, ren, renL, bd, bdL, app, fitHp, hget, renB, bdB, negB_succ hx] <;> omega))⟩
  · repeat' (first | ((with_reducible first | refine execL_step (fun K' hK' => ?_)); (first | with_reducible refine s_none rfl ?_ | refine s_some2 rfl ?_); simp only [go_sem]) | (with_reducible refine hK' _ ?_; clear hK' K') | (with_reducible refine hK _ ?_; clear hK K; try simp only [go_sem]) | with_reducible (first | refine stp ?_ | refine pw_seq_opsK kl77 G_ok (fun K hK => ?_) | refine pw_ops G_ok (fun K hK => ?_)) | ((with_reducible first | apply CallK.eq); (focus (with_reducible first | exact l1In_ok _ _ _)); (focus (first | exact rfl | (simp [RV.flat, D.sc, datI]; done))); try simp only [go_sem]) | refine inBlockA_other (by decide) ?_ | (with_reducible refine pK_mk (fun hc => ?_) (fun hc => ?_) <;> (try simp only [go_sem]) <;> (try simp at hc) <;> (try (exfalso; omega))) | ((first | refine pw_seq (pw_cond rfl (fun hc => ?_) (fun hc => ?_)) | refine pw_cond rfl (fun hc => ?_) (fun hc => ?_)) <;> (try simp at hc) <;> (try (exfalso; omega))) | with_reducible refine And.intro (by first | omega | (unfold inI; omega) | exact andI_inI _) ?_)
    · refine retQ_ret rfl rfl (by simp [rowsOf, lk]) ?_; rw [res_end hJ (by omega)]; simp [hc]
    · refine retQ_ret rfl rfl (by simp [rowsOf, lk]) ?_; rw [res_no (by omega)]
end Go.Proofs.Ythkkpiodligmiaa
namespace Go.Proofs.Ythkkpiodligmiaa
open Go.RowKit

theorem totalOf_ok (r : ResultD) (hv : ResOk r) : FnEq Try.prog 83 [.agg [.d (.int .i64 r.skater), .d (.lst 1 (r.scores.map datI))]] [.d (.int .i64 (scSum r.scores)), .d (.int .i64 (scCnt r.scores : Int))] := by
  refine fn_ok G_ok Try.func83 rfl rfl ?_; simp only [Try.ntmps83, List.length_cons, List.length_nil, Nat.reduceAdd, Nat.reduceSub, enm]
  have hl3 := hv.2.2.2.2
  repeat' (first | ((with_reducible first | refine execL_step (fun K' hK' => ?_)); (first | with_reducible refine s_none rfl ?_ | refine s_some2 rfl ?_); simp only [go_sem]) | (with_reducible refine hK' _ ?_; clear hK' K') | (with_reducible refine hK _ ?_; clear hK K; try simp only [go_sem]) | with_reducible (first | refine stp ?_ | refine pw_seq_opsK kl83 G_ok (fun K hK => ?_) | refine pw_ops G_ok (fun K hK => ?_)) | refine inBlockA_other (by decide) ?_ | (with_reducible refine pK_mk (fun hc => ?_) (fun hc => ?_) <;> (try simp only [go_sem]) <;> (try simp at hc) <;> (try (exfalso; omega))) | ((first | refine pw_seq (pw_cond rfl (fun hc => ?_) (fun hc => ?_)) | refine pw_cond rfl (fun hc => ?_) (fun hc => ?_)) <;> (try simp at hc) <;> (try (exfalso; omega))) | with_reducible refine And.intro (by first | omega | (unfold inI; omega) | exact andI_inI _) ?_)
  refine pw_loop_over [2, 3, 4, 5, 7, 11, 12, 13, 14, 15, 16, 17, 18, 19, 20, 21, 22] (fun k : Nat => [(11, .d (.int .i64 (k : Int))), (4, .d (.int .i64 (scSum (r.scores.take k)))), (5, .d (.int .i64 (scCnt (r.scores.take k) : Int)))]) (fun k : Nat => [(0, .box 29 [.d (.int .i64 r.skater), .d (.lst 1 (r.scores.map datI))])]) 1 (fun k : Nat => k ≤ r.scores.length) (fun k : Nat => r.scores.length - k) 0 (Nat.zero_le _) (fits_mk [] (by simp [renL_d, bdL_d, sg, over, wipe, wl, memN, ins, rm, lk, fitFr, fit1, ren, renL, bd, bdL, app, fitHp, hget, renB, bdB, scSum, scCnt, cn] <;> omega)) ?_
  intro k hk
  have hS := scSum_le hv.1 k hk
  have hC := cn_take_le (fun x => decide (0 ≤ x)) r.scores k
  have hC' : scCnt (r.scores.take k) ≤ k := hC
  simp only [over, wipe, wl, memN, ins, rm, if_true, if_false, Nat.reduceEqDiff, Bool.false_eq_true, reduceCtorEq]
  by_cases hlt : k < r.scores.length
  · have hx := List.getElem?_eq_getElem hlt
    generalize r.scores[k] = x at hx
    have hs := hv.1 k x hx
    have hs1 := hs.1
    have hs2 := hs.2.1
    repeat' (first | ((with_reducible first | refine execL_step (fun K' hK' => ?_)); (first | with_reducible refine s_none rfl ?_ | refine s_some2 rfl ?_); simp only [go_sem, List.getElem?_map, hx, Option.map_some, datI]) | (with_reducible refine hK' _ ?_; clear hK' K') | (with_reducible refine hK _ ?_; clear hK K; try simp only [go_sem, List.getElem?_map, hx, Option.map_some, datI]) | with_reducible (first | refine stp ?_ | refine pw_seq_opsK kl83 G_ok (fun K hK => ?_) | refine pw_ops G_ok (fun K hK => ?_)) | refine inBlockA_other (by decide) ?_ | (with_reducible refine pK_mk (fun hc => ?_) (fun hc => ?_) <;> (try simp only [go_sem, List.getElem?_map, hx, Option.map_some, datI]) <;> (try simp at hc) <;> (try (exfalso; omega))) | ((first | refine pw_seq (pw_cond rfl (fun hc => ?_) (fun hc => ?_)) | refine pw_cond rfl (fun hc => ?_) (fun hc => ?_)) <;> (try simp at hc) <;> (try (exfalso; omega))) | with_reducible refine And.intro (by first | omega | (unfold inI; omega) | exact andI_inI _) ?_)
    · have c1 : scCnt (r.scores.take (k + 1)) = scCnt (r.scores.take k) + 1 := cn_yes hx (by simpa using hc)
      exact ⟨k + 1, by omega, by omega, (fits_mk [] (by simp [renL_d, bdL_d, sg, over, wipe, wl, memN, ins, rm, lk, fitFr, fit1, ren, renL, bd, bdL, app, fitHp, hget, renB, bdB, scSum_yes hx hc, c1] <;> omega))⟩
    · have c1 : scCnt (r.scores.take (k + 1)) = scCnt (r.scores.take k) := cn_no hx (by simpa using hc)
      exact ⟨k + 1, by omega, by omega, (fits_mk [] (by simp [renL_d, bdL_d, sg, over, wipe, wl, memN, ins, rm, lk, fitFr, fit1, ren, renL, bd, bdL, app, fitHp, hget, renB, bdB, scSum_no hx hc, c1] <;> omega))⟩
  · have e : r.scores.take k = r.scores := List.take_of_length_le (by omega)
    repeat' (first | ((with_reducible first | refine execL_step (fun K' hK' => ?_)); (first | with_reducible refine s_none rfl ?_ | refine s_some2 rfl ?_); simp only [go_sem, e]) | (with_reducible refine hK' _ ?_; clear hK' K') | (with_reducible refine hK _ ?_; clear hK K; try simp only [go_sem, e]) | with_reducible (first | refine stp ?_ | refine pw_seq_opsK kl83 G_ok (fun K hK => ?_) | refine pw_ops G_ok (fun K hK => ?_)) | refine inBlockA_other (by decide) ?_ | (with_reducible refine pK_mk (fun hc => ?_) (fun hc => ?_) <;> (try simp only [go_sem, e]) <;> (try simp at hc) <;> (try (exfalso; omega))) | ((first | refine pw_seq (pw_cond rfl (fun hc => ?_) (fun hc => ?_)) | refine pw_cond rfl (fun hc => ?_) (fun hc => ?_)) <;> (try simp at hc) <;> (try (exfalso; omega))) | with_reducible refine And.intro (by first | omega | (unfold inI; omega) | exact andI_inI _) ?_)
    refine retQ_ret rfl rfl (by simp [rowsOf, lk]) ?_; rfl
theorem rkTotal_ok (r : ResultD) (hv : ResOk r) : FnEq Try.prog 84 [.agg [.d (.int .i64 r.skater), .d (.lst 1 (r.scores.map datI))]] [.d (.int .i64 (scSum r.scores)), .d (.int .i64 (scCnt r.scores : Int))] := by
  refine fn_ok G_ok Try.func84 rfl rfl ?_; simp only [Try.ntmps84, List.length_cons, List.length_nil, Nat.reduceAdd, Nat.reduceSub, enm]
  have hl3 := hv.2.2.2.2
  repeat' (first | ((with_reducible first | refine execL_step (fun K' hK' => ?_)); (first | with_reducible refine s_none rfl ?_ | refine s_some2 rfl ?_); simp only [go_sem]) | (with_reducible refine hK' _ ?_; clear hK' K') | (with_reducible refine hK _ ?_; clear hK K; try simp only [go_sem]) | with_reducible (first | refine stp ?_ | refine pw_seq_opsK kl84 G_ok (fun K hK => ?_) | refine pw_ops G_ok (fun K hK => ?_)) | refine inBlockA_other (by decide) ?_ | (with_reducible refine pK_mk (fun hc => ?_) (fun hc => ?_) <;> (try simp only [go_sem]) <;> (try simp at hc) <;> (try (exfalso; omega))) | ((first | refine pw_seq (pw_cond rfl (fun hc => ?_) (fun hc => ?_)) | refine pw_cond rfl (fun hc => ?_) (fun hc => ?_)) <;> (try simp at hc) <;> (try (exfalso; omega))) | with_reducible refine And.intro (by first | omega | (unfold inI; omega) | exact andI_inI _) ?_)
  refine pw_loop_over [2, 3, 4, 5, 7, 11, 12, 13, 14, 15, 16, 17, 18, 19, 20, 21, 22] (fun k : Nat => [(11, .d (.int .i64 (k : Int))), (4, .d (.int .i64 (scSum (r.scores.take k)))), (5, .d (.int .i64 (scCnt (r.scores.take k) : Int)))]) (fun k : Nat => [(0, .box 29 [.d (.int .i64 r.skater), .d (.lst 1 (r.scores.map datI))])]) 1 (fun k : Nat => k ≤ r.scores.length) (fun k : Nat => r.scores.length - k) 0 (Nat.zero_le _) (fits_mk [] (by simp [renL_d, bdL_d, sg, over, wipe, wl, memN, ins, rm, lk, fitFr, fit1, ren, renL, bd, bdL, app, fitHp, hget, renB, bdB, scSum, scCnt, cn] <;> omega)) ?_
  intro k hk
  have hS := scSum_le hv.1 k hk
  have hC := cn_take_le (fun x => decide (0 ≤ x)) r.scores k
  have hC' : scCnt (r.scores.take k) ≤ k := hC
  simp only [over, wipe, wl, memN, ins, rm, if_true, if_false, Nat.reduceEqDiff, Bool.false_eq_true, reduceCtorEq]
  by_cases hlt : k < r.scores.length
  · have hx := List.getElem?_eq_getElem hlt
    generalize r.scores[k] = x at hx
    have hs := hv.1 k x hx
    have hs1 := hs.1
    have hs2 := hs.2.1
    repeat' (first | ((with_reducible first | refine execL_step (fun K' hK' => ?_)); (first | with_reducible refine s_none rfl ?_ | refine s_some2 rfl ?_); simp only [go_sem, List.getElem?_map, hx, Option.map_some, datI]) | (with_reducible refine hK' _ ?_; clear hK' K') | (with_reducible refine hK _ ?_; clear hK K; try simp only [go_sem, List.getElem?_map, hx, Option.map_some, datI]) | with_reducible (first | refine stp ?_ | refine pw_seq_opsK kl84 G_ok (fun K hK => ?_) | refine pw_ops G_ok (fun K hK => ?_)) | refine inBlockA_other (by decide) ?_ | (with_reducible refine pK_mk (fun hc => ?_) (fun hc => ?_) <;> (try simp only [go_sem, List.getElem?_map, hx, Option.map_some, datI]) <;> (try simp at hc) <;> (try (exfalso; omega))) | ((first | refine pw_seq (pw_cond rfl (fun hc => ?_) (fun hc => ?_)) | refine pw_cond rfl (fun hc => ?_) (fun hc => ?_)) <;> (try simp at hc) <;> (try (exfalso; omega))) | with_reducible refine And.intro (by first | omega | (unfold inI; omega) | exact andI_inI _) ?_)
    · have c1 : scCnt (r.scores.take (k + 1)) = scCnt (r.scores.take k) + 1 := cn_yes hx (by simpa using hc)
      exact ⟨k + 1, by omega, by omega, (fits_mk [] (by simp [renL_d, bdL_d, sg, over, wipe, wl, memN, ins, rm, lk, fitFr, fit1, ren, renL, bd, bdL, app, fitHp, hget, renB, bdB, scSum_yes hx hc, c1] <;> omega))⟩
    · have c1 : scCnt (r.scores.take (k + 1)) = scCnt (r.scores.take k) := cn_no hx (by simpa using hc)
      exact ⟨k + 1, by omega, by omega, (fits_mk [] (by simp [renL_d, bdL_d, sg, over, wipe, wl, memN, ins, rm, lk, fitFr, fit1, ren, renL, bd, bdL, app, fitHp, hget, renB, bdB, scSum_no hx hc, c1] <;> omega))⟩
  · have e : r.scores.take k = r.scores := List.take_of_length_le (by omega)
    repeat' (first | ((with_reducible first | refine execL_step (fun K' hK' => ?_)); (first | with_reducible refine s_none rfl ?_ | refine s_some2 rfl ?_); simp only [go_sem, e]) | (with_reducible refine hK' _ ?_; clear hK' K') | (with_reducible refine hK _ ?_; clear hK K; try simp only [go_sem, e]) | with_reducible (first | refine stp ?_ | refine pw_seq_opsK kl84 G_ok (fun K hK => ?_) | refine pw_ops G_ok (fun K hK => ?_)) | refine inBlockA_other (by decide) ?_ | (with_reducible refine pK_mk (fun hc => ?_) (fun hc => ?_) <;> (try simp only [go_sem, e]) <;> (try simp at hc) <;> (try (exfalso; omega))) | ((first | refine pw_seq (pw_cond rfl (fun hc => ?_) (fun hc => ?_)) | refine pw_cond rfl (fun hc => ?_) (fun hc => ?_)) <;> (try simp at hc) <;> (try (exfalso; omega))) | with_reducible refine And.intro (by first | omega | (unfold inI; omega) | exact andI_inI _) ?_)
    refine retQ_ret rfl rfl (by simp [rowsOf, lk]) ?_; rfl

/-- the later scores decide -/
def cmpS (la lb : List Int) : Nat → Int
  | 0 => 0
  | k + 1 => if la.getD k 0 = lb.getD k 0 then cmpS la lb k else sgn (la.getD k 0 - lb.getD k 0)
def cmpR (a b : ResultD) : Int := if scCnt a.scores = scCnt b.scores then (if scSum a.scores = scSum b.scores then cmpS a.scores b.scores a.scores.length else sgn (scSum a.scores - scSum b.scores)) else sgn ((scCnt a.scores : Int) - (scCnt b.scores : Int))
theorem compareResults_ok (a b : ResultD) (ha : ResOk a) (hb : ResOk b) (hl : a.scores.length = b.scores.length) : FnEq Try.prog 76 [.agg [.d (.int .i64 a.skater), .d (.lst 1 (a.scores.map datI))], .agg [.d (.int .i64 b.skater), .d (.lst 1 (b.scores.map datI))]] [.d (.int .i64 (cmpR a b))] := by
  refine fn_ok G_ok Try.func76 rfl rfl ?_; simp only [Try.ntmps76, List.length_cons, List.length_nil, Nat.reduceAdd, Nat.reduceSub, enm]
  have hSa := scSum_le ha.1 a.scores.length (Nat.le_refl _)
  have hSb := scSum_le hb.1 b.scores.length (Nat.le_refl _)
  rw [List.take_length] at hSa hSb
  have hCa : scCnt a.scores ≤ a.scores.length := cn_le _ _
  have hCb : scCnt b.scores ≤ b.scores.length := cn_le _ _
  have hla := ha.2.2.2.2
  have hlb := hb.2.2.2.2
  repeat' (first | ((with_reducible first | refine execL_step (fun K' hK' => ?_) | refine quietL_step (fun K' hK' => ?_)); (first | with_reducible refine s_none rfl ?_ | refine s_some2 rfl ?_); simp only [go_sem]) | (with_reducible refine hK' _ ?_; clear hK' K') | (with_reducible refine hK _ ?_; clear hK K; try simp only [go_sem]) | with_reducible (first | refine stp ?_ | refine pw_seq_opsK kl76 G_ok (fun K hK => ?_) | refine pw_ops G_ok (fun K hK => ?_)) | ((with_reducible first | apply CallK.eq | apply CallQ.eqs); (focus (with_reducible first | exact totalOf_ok a ha | exact totalOf_ok b hb | exact signOf_ok _)); (focus (first | exact rfl | (simp [RV.flat, D.sc, datI]; done))); try simp only [go_sem]) | refine inBlockA_other (by decide) ?_ | (with_reducible refine pw_seq_drawK kl76 G_ok mixed (by kernel_rfl) (fun K hK => ?_)) | (with_reducible refine pw_draw G_ok mixed (by kernel_rfl) ?_) | (with_reducible refine pK_mk (fun hc => ?_) (fun hc => ?_) <;> (try simp only [go_sem]) <;> (try simp at hc) <;> (try (exfalso; omega))) | ((first | refine pw_seq (pw_cond rfl (fun hc => ?_) (fun hc => ?_)) | refine pw_cond rfl (fun hc => ?_) (fun hc => ?_)) <;> (try simp at hc) <;> (try (exfalso; omega))) | with_reducible refine And.intro (by first | omega | (unfold inI; omega) | exact andI_inI _) ?_)
  · refine retQ_ret rfl rfl (by simp [rowsOf, lk]) ?_; unfold cmpR; rw [if_neg (by omega)]
  · refine retQ_ret rfl rfl (by simp [rowsOf, lk]) ?_; unfold cmpR; rw [if_pos (by omega), if_neg (by omega)]
  · have hcmp : cmpR a b = cmpS a.scores b.scores a.scores.length := by unfold cmpR; rw [if_pos (by omega), if_pos (by omega)]
    refine pw_loop_over [4, 9, 38, 39, 40, 41, 42, 43, 44, 45, 46, 47, 48, 49, 50, 51, 52, 53, 54, 55, 56, 57, 58, 59, 60, 61, 62, 63, 64] (fun k : Nat => [(9, .d (.int .i64 ((k : Int) - 1)))]) (fun _ => [(1, .box 29 [.d (.int .i64 b.skater), .d (.lst 1 (b.scores.map datI))]), (0, .box 29 [.d (.int .i64 a.skater), .d (.lst 1 (a.scores.map datI))])]) 2 (fun k => k ≤ a.scores.length ∧ cmpR a b = cmpS a.scores b.scores k) (fun k => k) a.scores.length ⟨Nat.le_refl _, hcmp⟩ (fits_mk [] (by simp [renL_d, bdL_d, sg, over, wipe, wl, memN, ins, rm, lk, fitFr, fit1, ren, renL, bd, bdL, app, fitHp, hget, renB, bdB] <;> omega)) ?_
    rintro k ⟨hk, hJ⟩
    simp only [over, wipe, wl, memN, ins, rm, if_true, if_false, Nat.reduceEqDiff, Bool.false_eq_true, reduceCtorEq]
    by_cases h0 : 0 < k
    · have hx := List.getElem?_eq_getElem (show k - 1 < a.scores.length by omega)
      have hy := List.getElem?_eq_getElem (show k - 1 < b.scores.length by omega)
      generalize a.scores[k - 1] = x at hx
      generalize b.scores[k - 1] = y at hy
      have hpk : ((k : Int) - 1).toNat = k - 1 := by omega
      have hxa := (ha.1 _ _ hx).1
      have hxb := (ha.1 _ _ hx).2.1
      have hya := (hb.1 _ _ hy).1
      have hyb := (hb.1 _ _ hy).2.1
      have hstep : cmpS a.scores b.scores k = if x = y then cmpS a.scores b.scores (k - 1) else sgn (x - y) := by
        obtain ⟨m, rfl⟩ : ∃ m, k = m + 1 := ⟨k - 1, by omega⟩
        rw [show m + 1 - 1 = m by omega] at hx hy
        simp only [cmpS, List.getD_eq_getElem?_getD, hx, hy, Option.getD_some]
        rfl
      repeat' (first | ((with_reducible first | refine execL_step (fun K' hK' => ?_) | refine quietL_step (fun K' hK' => ?_)); (first | with_reducible refine s_none rfl ?_ | refine s_some2 rfl ?_); simp only [go_sem, List.getElem?_map, hx, hy, hpk, Option.map_some, datI]) | (with_reducible refine hK' _ ?_; clear hK' K') | (with_reducible refine hK _ ?_; clear hK K; try simp only [go_sem, List.getElem?_map, hx, hy, hpk, Option.map_some, datI]) | with_reducible (first | refine stp ?_ | refine pw_seq_opsK kl76 G_ok (fun K hK => ?_) | refine pw_ops G_ok (fun K hK => ?_)) | ((with_reducible first | apply CallK.eq | apply CallQ.eqs); (focus (with_reducible first | exact signOf_ok _)); (focus (first | exact rfl | (simp [RV.flat, D.sc, datI]; done))); try simp only [go_sem, List.getElem?_map, hx, hy, hpk, Option.map_some, datI]) | refine inBlockA_other (by decide) ?_ | (with_reducible refine pw_seq_drawK kl76 G_ok mixed (by kernel_rfl) (fun K hK => ?_)) | (with_reducible refine pw_draw G_ok mixed (by kernel_rfl) ?_) | (with_reducible refine pK_mk (fun hc => ?_) (fun hc => ?_) <;> (try simp only [go_sem, List.getElem?_map, hx, hy, hpk, Option.map_some, datI]) <;> (try simp at hc) <;> (try (exfalso; omega))) | ((first | refine pw_seq (pw_cond rfl (fun hc => ?_) (fun hc => ?_)) | refine pw_cond rfl (fun hc => ?_) (fun hc => ?_)) <;> (try simp at hc) <;> (try (exfalso; omega))) | with_reducible refine And.intro (by first | omega | (unfold inI; omega) | exact andI_inI _) ?_)
      all_goals first
        | (refine retQ_ret rfl rfl (by simp [rowsOf, lk]) ?_; rw [hJ, hstep, if_neg (by omega)])
        | exact ⟨k - 1, ⟨by omega, by rw [hJ, hstep, if_pos (by omega)]⟩, by omega, (fits_mk [] (by simp [renL_d, bdL_d, sg, over, wipe, wl, memN, ins, rm, lk, fitFr, fit1, ren, renL, bd, bdL, app, fitHp, hget, renB, bdB] <;> omega))⟩
    · repeat' (first | ((with_reducible first | refine execL_step (fun K' hK' => ?_) | refine quietL_step (fun K' hK' => ?_)); (first | with_reducible refine s_none rfl ?_ | refine s_some2 rfl ?_); simp only [go_sem]) | (with_reducible refine hK' _ ?_; clear hK' K') | (with_reducible refine hK _ ?_; clear hK K; try simp only [go_sem]) | with_reducible (first | refine stp ?_ | refine pw_seq_opsK kl76 G_ok (fun K hK => ?_) | refine pw_ops G_ok (fun K hK => ?_)) | refine inBlockA_other (by decide) ?_ | (with_reducible refine pw_seq_drawK kl76 G_ok mixed (by kernel_rfl) (fun K hK => ?_)) | (with_reducible refine pw_draw G_ok mixed (by kernel_rfl) ?_) | (with_reducible refine pK_mk (fun hc => ?_) (fun hc => ?_) <;> (try simp only [go_sem]) <;> (try simp at hc) <;> (try (exfalso; omega))) | ((first | refine pw_seq (pw_cond rfl (fun hc => ?_) (fun hc => ?_)) | refine pw_cond rfl (fun hc => ?_) (fun hc => ?_)) <;> (try simp at hc) <;> (try (exfalso; omega))) | with_reducible refine And.intro (by first | omega | (unfold inI; omega) | exact andI_inI _) ?_)
      refine retQ_ret rfl rfl (by simp [rowsOf, lk]) ?_; rw [hJ, show k = 0 by omega]; rfl
theorem rkCompare_ok (a b : ResultD) (ha : ResOk a) (hb : ResOk b) (hl : a.scores.length = b.scores.length) : FnEq Try.prog 78 [.agg [.d (.int .i64 a.skater), .d (.lst 1 (a.scores.map datI))], .agg [.d (.int .i64 b.skater), .d (.lst 1 (b.scores.map datI))]] [.d (.int .i64 (cmpR a b))] := by
  refine fn_ok G_ok Try.func78 rfl rfl ?_; simp only [Try.ntmps78, List.length_cons, List.length_nil, Nat.reduceAdd, Nat.reduceSub, enm]
  have hSa := scSum_le ha.1 a.scores.length (Nat.le_refl _)
  have hSb := scSum_le hb.1 b.scores.length (Nat.le_refl _)
  rw [List.take_length] at hSa hSb
  have hCa : scCnt a.scores ≤ a.scores.length := cn_le _ _
  have hCb : scCnt b.scores ≤ b.scores.length := cn_le _ _
  have hla := ha.2.2.2.2
  have hlb := hb.2.2.2.2
  repeat' (first | ((with_reducible first | refine execL_step (fun K' hK' => ?_) | refine quietL_step (fun K' hK' => ?_)); (first | with_reducible refine s_none rfl ?_ | refine s_some2 rfl ?_); simp only [go_sem]) | (with_reducible refine hK' _ ?_; clear hK' K') | (with_reducible refine hK _ ?_; clear hK K; try simp only [go_sem]) | with_reducible (first | refine stp ?_ | refine pw_seq_opsK kl78 G_ok (fun K hK => ?_) | refine pw_ops G_ok (fun K hK => ?_)) | ((with_reducible first | apply CallK.eq | apply CallQ.eqs); (focus (with_reducible first | exact rkTotal_ok a ha | exact rkTotal_ok b hb | exact l1Sign_ok _)); (focus (first | exact rfl | (simp [RV.flat, D.sc, datI]; done))); try simp only [go_sem]) | refine inBlockA_other (by decide) ?_ | (with_reducible refine pw_seq_drawK kl78 G_ok mixed (by kernel_rfl) (fun K hK => ?_)) | (with_reducible refine pw_draw G_ok mixed (by kernel_rfl) ?_) | (with_reducible refine pK_mk (fun hc => ?_) (fun hc => ?_) <;> (try simp only [go_sem]) <;> (try simp at hc) <;> (try (exfalso; omega))) | ((first | refine pw_seq (pw_cond rfl (fun hc => ?_) (fun hc => ?_)) | refine pw_cond rfl (fun hc => ?_) (fun hc => ?_)) <;> (try simp at hc) <;> (try (exfalso; omega))) | with_reducible refine And.intro (by first | omega | (unfold inI; omega) | exact andI_inI _) ?_)
  · refine retQ_ret rfl rfl (by simp [rowsOf, lk]) ?_; unfold cmpR; rw [if_neg (by omega)]
  · refine retQ_ret rfl rfl (by simp [rowsOf, lk]) ?_; unfold cmpR; rw [if_pos (by omega), if_neg (by omega)]
  · have hcmp : cmpR a b = cmpS a.scores b.scores a.scores.length := by unfold cmpR; rw [if_pos (by omega), if_pos (by omega)]
    refine pw_loop_over [4, 9, 38, 39, 40, 41, 42, 43, 44, 45, 46, 47, 48, 49, 50, 51, 52, 53, 54, 55, 56, 57, 58, 59, 60, 61, 62, 63, 64] (fun k : Nat => [(9, .d (.int .i64 ((k : Int) - 1)))]) (fun _ => [(1, .box 29 [.d (.int .i64 b.skater), .d (.lst 1 (b.scores.map datI))]), (0, .box 29 [.d (.int .i64 a.skater), .d (.lst 1 (a.scores.map datI))])]) 2 (fun k => k ≤ a.scores.length ∧ cmpR a b = cmpS a.scores b.scores k) (fun k => k) a.scores.length ⟨Nat.le_refl _, hcmp⟩ (fits_mk [] (by simp [renL_d, bdL_d, sg, over, wipe, wl, memN, ins, rm, lk, fitFr, fit1, ren, renL, bd, bdL, app, fitHp, hget, renB, bdB] <;> omega)) ?_
    rintro k ⟨hk, hJ⟩
    simp only [over, wipe, wl, memN, ins, rm, if_true, if_false, Nat.reduceEqDiff, Bool.false_eq_true, reduceCtorEq]
    by_cases h0 : 0 < k
    · have hx := List.getElem?_eq_getElem (show k - 1 < a.scores.length by omega)
      have hy := List.getElem?_eq_getElem (show k - 1 < b.scores.length by omega)
      generalize a.scores[k - 1] = x at hx
      generalize b.scores[k - 1] = y at hy
      have hpk : ((k : Int) - 1).toNat = k - 1 := by omega
      have hxa := (ha.1 _ _ hx).1
      have hxb := (ha.1 _ _ hx).2.1
      have hya := (hb.1 _ _ hy).1
      have hyb := (hb.1 _ _ hy).2.1
      have hstep : cmpS a.scores b.scores k = if x = y then cmpS a.scores b.scores (k - 1) else sgn (x - y) := by
        obtain ⟨m, rfl⟩ : ∃ m, k = m + 1 := ⟨k - 1, by omega⟩
        rw [show m + 1 - 1 = m by omega] at hx hy
        simp only [cmpS, List.getD_eq_getElem?_getD, hx, hy, Option.getD_some]
        rfl
      repeat' (first | ((with_reducible first | refine execL_step (fun K' hK' => ?_) | refine quietL_step (fun K' hK' => ?_)); (first | with_reducible refine s_none rfl ?_ | refine s_some2 rfl ?_); simp only [go_sem, List.getElem?_map, hx, hy, hpk, Option.map_some, datI]) | (with_reducible refine hK' _ ?_; clear hK' K') | (with_reducible refine hK _ ?_; clear hK K; try simp only [go_sem, List.getElem?_map, hx, hy, hpk, Option.map_some, datI]) | with_reducible (first | refine stp ?_ | refine pw_seq_opsK kl78 G_ok (fun K hK => ?_) | refine pw_ops G_ok (fun K hK => ?_)) | ((with_reducible first | apply CallK.eq | apply CallQ.eqs); (focus (with_reducible first | exact l1Sign_ok _)); (focus (first | exact rfl | (simp [RV.flat, D.sc, datI]; done))); try simp only [go_sem, List.getElem?_map, hx, hy, hpk, Option.map_some, datI]) | refine inBlockA_other (by decide) ?_ | (with_reducible refine pw_seq_drawK kl78 G_ok mixed (by kernel_rfl) (fun K hK => ?_)) | (with_reducible refine pw_draw G_ok mixed (by kernel_rfl) ?_) | (with_reducible refine pK_mk (fun hc => ?_) (fun hc => ?_) <;> (try simp only [go_sem, List.getElem?_map, hx, hy, hpk, Option.map_some, datI]) <;> (try simp at hc) <;> (try (exfalso; omega))) | ((first | refine pw_seq (pw_cond rfl (fun hc => ?_) (fun hc => ?_)) | refine pw_cond rfl (fun hc => ?_) (fun hc => ?_)) <;> (try simp at hc) <;> (try (exfalso; omega))) | with_reducible refine And.intro (by first | omega | (unfold inI; omega) | exact andI_inI _) ?_)
      all_goals first
        | (refine retQ_ret rfl rfl (by simp [rowsOf, lk]) ?_; rw [hJ, hstep, if_neg (by omega)])
        | exact ⟨k - 1, ⟨by omega, by rw [hJ, hstep, if_pos (by omega)]⟩, by omega, (fits_mk [] (by simp [renL_d, bdL_d, sg, over, wipe, wl, memN, ins, rm, lk, fitFr, fit1, ren, renL, bd, bdL, app, fitHp, hget, renB, bdB] <;> omega))⟩
    · repeat' (first | ((with_reducible first | refine execL_step (fun K' hK' => ?_) | refine quietL_step (fun K' hK' => ?_)); (first | with_reducible refine s_none rfl ?_ | refine s_some2 rfl ?_); simp only [go_sem]) | (with_reducible refine hK' _ ?_; clear hK' K') | (with_reducible refine hK _ ?_; clear hK K; try simp only [go_sem]) | with_reducible (first | refine stp ?_ | refine pw_seq_opsK kl78 G_ok (fun K hK => ?_) | refine pw_ops G_ok (fun K hK => ?_)) | refine inBlockA_other (by decide) ?_ | (with_reducible refine pw_seq_drawK kl78 G_ok mixed (by kernel_rfl) (fun K hK => ?_)) | (with_reducible refine pw_draw G_ok mixed (by kernel_rfl) ?_) | (with_reducible refine pK_mk (fun hc => ?_) (fun hc => ?_) <;> (try simp only [go_sem]) <;> (try simp at hc) <;> (try (exfalso; omega))) | ((first | refine pw_seq (pw_cond rfl (fun hc => ?_) (fun hc => ?_)) | refine pw_cond rfl (fun hc => ?_) (fun hc => ?_)) <;> (try simp at hc) <;> (try (exfalso; omega))) | with_reducible refine And.intro (by first | omega | (unfold inI; omega) | exact andI_inI _) ?_)
      refine retQ_ret rfl rfl (by simp [rowsOf, lk]) ?_; rw [hJ, show k = 0 by omega]; rfl

noncomputable abbrev ansCompareResults (a b : ResultD) : Option Int := optP (ResOk a ∧ ResOk b ∧ a.scores.length = b.scores.length) (cmpR a b)
noncomputable abbrev ansTotalOfResult (r : ResultD) : Option (Int × Int) := optP (ResOk r) (scSum r.scores, (scCnt r.scores : Int))
end Go.Proofs.Ythkkpiodligmiaa
namespace Go.Proofs.Ythkkpiodligmiaa
open Go.RowKit

def len0 : List ResultD → Nat
  | [] => 0
  | z :: _ => z.scores.length
theorem len0_of {l : List ResultD} {z : ResultD} (h : l[0]? = some z) : len0 l = z.scores.length := by
  cases l with
  | nil => simp at h
  | cons y r => simp at h; subst h; rfl
def rsB (l : List ResultD) (n : Int) : Bool := l.any fun x => x.skater == n
theorem rsB_iff {l : List ResultD} {n : Int} : rsB l n = true ↔ n ∈ l.map ResultD.skater := by unfold rsB; rw [List.any_eq_true, List.mem_map]; simp
theorem rsB_not {l : List ResultD} {n : Int} (h : rsB l n = false) : n ∉ l.map ResultD.skater := fun h' => Bool.noConfusion ((rsB_iff.2 h').symm.trans h)
def ResAt (l : List ResultD) (k : Nat) (r : ResultD) : Prop := ResOk r ∧ r.scores.length = len0 l ∧ r.skater ∉ (l.take k).map ResultD.skater
def ResultsOk (l : List ResultD) : Prop := l.length ≤ 40 ∧ All (ResAt l) l
theorem ResultsOk.not_at {l : List ResultD} {k : Nat} {x : ResultD} (hx : l[k]? = some x) (hf : ¬ ResAt l k x) : ¬ ResultsOk l := fun h => hf (h.2 k x hx)
theorem results_end {l : List ResultD} {k : Nat} (h1 : Upto (ResAt l) l k) (hk : l.length ≤ k) : bP (ResultsOk l) = decide ((l.length : Int) ≤ 40) := by
  by_cases h : l.length ≤ 40
  · rw [bP_true ⟨h, h1.all hk⟩]; exact (decide_eq_true (by omega)).symm
  · rw [bP_false fun h' => h h'.1]; exact (decide_eq_false (by omega)).symm
theorem rsB_bP (l : List ResultD) (n : Int) : bP (n ∈ l.map ResultD.skater) = rsB l n := by rw [Bool.eq_iff_iff, bP_iff, rsB_iff]
theorem l1HasRs_ok (l : List ResultD) (n : Int) (hn : (l.map ResultD.skater).length ≤ 16777216) : FnEq Try.prog 122 [.d (.lst 1 ((l.map ResultD.skater).map datI)), .d (.int .i64 n)] [.d (.bool (rsB l n))] := by
  rw [← rsB_bP]; exact l1Has_ok _ n hn

theorem AreResults_ok (l : List ResultD) (hn : l.length ≤ 1048576) (hs : ∀ r ∈ l, r.scores.length ≤ 1048576) : FnEq Try.prog 22 [.d (.lst 2 (l.map ResultD.dat))] [.d (.bool (bP (ResultsOk l)))] := by
  refine fn_ok G_ok Try.func22 rfl rfl ?_; simp only [Try.ntmps22, List.length_cons, List.length_nil, Nat.reduceAdd, Nat.reduceSub, enm]
  repeat' (first | ((with_reducible first | refine execL_step (fun K' hK' => ?_) | refine quietL_step (fun K' hK' => ?_)); (first | with_reducible refine s_none rfl ?_ | refine s_some2 rfl ?_); simp only [go_sem]) | (with_reducible refine hK' _ ?_; clear hK' K') | (with_reducible refine hK _ ?_; clear hK K; try simp only [go_sem]) | with_reducible (first | refine stp ?_ | refine pw_seq_opsK kl22 G_ok (fun K hK => ?_) | refine pw_ops G_ok (fun K hK => ?_)) | refine inBlockA_other (by decide) ?_ | (with_reducible refine pw_seq_drawK kl22 G_ok mixed (by kernel_rfl) (fun K hK => ?_)) | (with_reducible refine pw_draw G_ok mixed (by kernel_rfl) ?_) | (with_reducible refine pK_mk (fun hc => ?_) (fun hc => ?_) <;> (try simp only [go_sem]) <;> (try simp at hc) <;> (try (exfalso; omega))) | ((first | refine pw_seq (pw_cond rfl (fun hc => ?_) (fun hc => ?_)) | refine pw_cond rfl (fun hc => ?_) (fun hc => ?_)) <;> (try simp at hc) <;> (try (exfalso; omega))) | with_reducible refine And.intro (by first | omega | (unfold inI; omega) | exact andI_inI _) ?_)
  refine pw_loop_over [2, 3, 4, 6, 9, 10, 11, 12, 13, 14, 15, 16, 17, 18, 19, 20, 21, 22, 23, 24, 25, 26, 27, 28, 29, 30, 31, 32, 33, 34, 35, 36, 37, 38, 39, 40, 41, 42] (fun k : Nat => [(9, .d (.int .i64 (k : Int)))]) (fun k : Nat => []) 0 (fun k : Nat => k ≤ l.length ∧ Upto (ResAt l) l k) (fun k : Nat => l.length - k) 0 ⟨Nat.zero_le _, Upto.zero _ _⟩ (fits_mk [] (by simp [renL_d, bdL_d, sg, over, wipe, wl, memN, ins, rm, lk, fitFr, fit1, ren, renL, bd, bdL, app, fitHp, hget, renB, bdB] <;> omega)) ?_
  rintro k ⟨hk, hJ⟩
  simp only [over, wipe, wl, memN, ins, rm, if_true, if_false, Nat.reduceEqDiff, Bool.false_eq_true, reduceCtorEq]
  by_cases hlt : k < l.length
  · have hx := List.getElem?_eq_getElem hlt
    generalize l[k] = x at hx
    have hz := List.getElem?_eq_getElem (show 0 < l.length by omega)
    generalize l[0] = z at hz
    have hlz := len0_of hz
    have hxs := hs x (List.mem_of_getElem? hx)
    have hzs := hs z (List.mem_of_getElem? hz)
    repeat' (first | ((with_reducible first | refine execL_step (fun K' hK' => ?_) | refine quietL_step (fun K' hK' => ?_)); (first | with_reducible refine s_none rfl ?_ | refine s_some2 rfl ?_); simp only [go_sem, List.getElem?_map, hx, hz, Option.map_some, ResultD.dat, ← List.map_take]) | (with_reducible refine hK' _ ?_; clear hK' K') | (with_reducible refine hK _ ?_; clear hK K; try simp only [go_sem, List.getElem?_map, hx, hz, Option.map_some, ResultD.dat, ← List.map_take]) | with_reducible (first | refine stp ?_ | refine pw_seq_opsK kl22 G_ok (fun K hK => ?_) | refine pw_ops G_ok (fun K hK => ?_)) | ((with_reducible first | apply CallK.eq | apply CallQ.eqs); (focus (with_reducible first | exact isResult_ok x hxs)); (focus (first | exact rfl | (simp [RV.flat, D.sc, datI]; done))); try simp only [go_sem, List.getElem?_map, hx, hz, Option.map_some, ResultD.dat, ← List.map_take]) | refine inBlockA_other (by decide) ?_ | (with_reducible refine pw_seq_drawK kl22 G_ok mixed (by kernel_rfl) (fun K hK => ?_)) | (with_reducible refine pw_draw G_ok mixed (by kernel_rfl) ?_) | (with_reducible refine pK_mk (fun hc => ?_) (fun hc => ?_) <;> (try simp only [go_sem, List.getElem?_map, hx, hz, Option.map_some, ResultD.dat, ← List.map_take]) <;> (try simp at hc) <;> (try (exfalso; omega))) | ((first | refine pw_seq (pw_cond rfl (fun hc => ?_) (fun hc => ?_)) | refine pw_cond rfl (fun hc => ?_) (fun hc => ?_)) <;> (try simp at hc) <;> (try (exfalso; omega))) | with_reducible refine And.intro (by first | omega | (unfold inI; omega) | exact andI_inI _) ?_)
    · refine retQ_ret rfl rfl (by simp [rowsOf, lk]) ?_; rw [bP_false (ResultsOk.not_at hx fun h => by have := h.2.1; omega)]
    · have hT : (l.take k).length = k := by simp; omega
      refine pw_loop_over [2, 6, 32, 33, 34, 35, 36, 37, 38, 39, 40, 41] (fun j : Nat => [(32, .d (.int .i64 (j : Int)))]) (fun _ => [(0, .box 29 [.d (.int .i64 x.skater), .d (.lst 1 (x.scores.map datI))])]) 1 (fun j => j ≤ k ∧ rsB (l.take j) x.skater = false) (fun j => k - j) 0 ⟨Nat.zero_le _, rfl⟩ (fits_mk [] (by simp [renL_d, bdL_d, sg, over, wipe, wl, memN, ins, rm, lk, fitFr, fit1, ren, renL, bd, bdL, app, fitHp, hget, renB, bdB] <;> omega)) ?_
      rintro j ⟨hj, hJ2⟩
      simp only [over, wipe, wl, memN, ins, rm, if_true, if_false, Nat.reduceEqDiff, Bool.false_eq_true, reduceCtorEq]
      by_cases hlt2 : j < k
      · have hjl : j < l.length := by omega
        have hy := List.getElem?_eq_getElem hjl
        generalize l[j] = y at hy
        have hyt : (l.take k)[j]? = some y := by rw [List.getElem?_take_of_lt hlt2]; exact hy
        repeat' (first | ((with_reducible first | refine execL_step (fun K' hK' => ?_) | refine quietL_step (fun K' hK' => ?_)); (first | with_reducible refine s_none rfl ?_ | refine s_some2 rfl ?_); simp only [go_sem, List.getElem?_map, hyt, Option.map_some, ResultD.dat]) | (with_reducible refine hK' _ ?_; clear hK' K') | (with_reducible refine hK _ ?_; clear hK K; try simp only [go_sem, List.getElem?_map, hyt, Option.map_some, ResultD.dat]) | with_reducible (first | refine stp ?_ | refine pw_seq_opsK kl22 G_ok (fun K hK => ?_) | refine pw_ops G_ok (fun K hK => ?_)) | refine inBlockA_other (by decide) ?_ | (with_reducible refine pw_seq_drawK kl22 G_ok mixed (by kernel_rfl) (fun K hK => ?_)) | (with_reducible refine pw_draw G_ok mixed (by kernel_rfl) ?_) | (with_reducible refine pK_mk (fun hc => ?_) (fun hc => ?_) <;> (try simp only [go_sem, List.getElem?_map, hyt, Option.map_some, ResultD.dat]) <;> (try simp at hc) <;> (try (exfalso; omega))) | ((first | refine pw_seq (pw_cond rfl (fun hc => ?_) (fun hc => ?_)) | refine pw_cond rfl (fun hc => ?_) (fun hc => ?_)) <;> (try simp at hc) <;> (try (exfalso; omega))) | with_reducible refine And.intro (by first | omega | (unfold inI; omega) | exact andI_inI _) ?_)
        · refine retQ_ret rfl rfl (by simp [rowsOf, lk]) ?_; rw [bP_false (ResultsOk.not_at hx fun h => h.2.2 (by rw [← hc]; exact List.mem_map.2 ⟨y, List.mem_of_getElem? hyt, rfl⟩))]
        · exact ⟨j + 1, ⟨by omega, by unfold rsB at *; rw [take_snoc hy, List.any_append, hJ2]; simpa using hc⟩, by omega, (fits_mk [] (by simp [renL_d, bdL_d, sg, over, wipe, wl, memN, ins, rm, lk, fitFr, fit1, ren, renL, bd, bdL, app, fitHp, hget, renB, bdB] <;> omega))⟩
      · have hje : j = k := by omega
        subst hje
        repeat' (first | ((with_reducible first | refine execL_step (fun K' hK' => ?_) | refine quietL_step (fun K' hK' => ?_)); (first | with_reducible refine s_none rfl ?_ | refine s_some2 rfl ?_); simp only [go_sem]) | (with_reducible refine hK' _ ?_; clear hK' K') | (with_reducible refine hK _ ?_; clear hK K; try simp only [go_sem]) | with_reducible (first | refine stp ?_ | refine pw_seq_opsK kl22 G_ok (fun K hK => ?_) | refine pw_ops G_ok (fun K hK => ?_)) | refine inBlockA_other (by decide) ?_ | (with_reducible refine pw_seq_drawK kl22 G_ok mixed (by kernel_rfl) (fun K hK => ?_)) | (with_reducible refine pw_draw G_ok mixed (by kernel_rfl) ?_) | (with_reducible refine pK_mk (fun hc => ?_) (fun hc => ?_) <;> (try simp only [go_sem]) <;> (try simp at hc) <;> (try (exfalso; omega))) | ((first | refine pw_seq (pw_cond rfl (fun hc => ?_) (fun hc => ?_)) | refine pw_cond rfl (fun hc => ?_) (fun hc => ?_)) <;> (try simp at hc) <;> (try (exfalso; omega))) | with_reducible refine And.intro (by first | omega | (unfold inI; omega) | exact andI_inI _) ?_)
        exact ⟨j + 1, ⟨by omega, hJ.succ hx ⟨of_bP (by assumption), by omega, rsB_not hJ2⟩⟩, by omega, (fits_mk [] (by simp [renL_d, bdL_d, sg, over, wipe, wl, memN, ins, rm, lk, fitFr, fit1, ren, renL, bd, bdL, app, fitHp, hget, renB, bdB] <;> omega))⟩
    · refine retQ_ret rfl rfl (by simp [rowsOf, lk]) ?_; rw [bP_false (ResultsOk.not_at hx fun h => not_bP (by assumption) h.1)]
  · repeat' (first | ((with_reducible first | refine execL_step (fun K' hK' => ?_) | refine quietL_step (fun K' hK' => ?_)); (first | with_reducible refine s_none rfl ?_ | refine s_some2 rfl ?_); simp only [go_sem]) | (with_reducible refine hK' _ ?_; clear hK' K') | (with_reducible refine hK _ ?_; clear hK K; try simp only [go_sem]) | with_reducible (first | refine stp ?_ | refine pw_seq_opsK kl22 G_ok (fun K hK => ?_) | refine pw_ops G_ok (fun K hK => ?_)) | refine inBlockA_other (by decide) ?_ | (with_reducible refine pw_seq_drawK kl22 G_ok mixed (by kernel_rfl) (fun K hK => ?_)) | (with_reducible refine pw_draw G_ok mixed (by kernel_rfl) ?_) | (with_reducible refine pK_mk (fun hc => ?_) (fun hc => ?_) <;> (try simp only [go_sem]) <;> (try simp at hc) <;> (try (exfalso; omega))) | ((first | refine pw_seq (pw_cond rfl (fun hc => ?_) (fun hc => ?_)) | refine pw_cond rfl (fun hc => ?_) (fun hc => ?_)) <;> (try simp at hc) <;> (try (exfalso; omega))) | with_reducible refine And.intro (by first | omega | (unfold inI; omega) | exact andI_inI _) ?_)
    refine retQ_ret rfl rfl (by simp [rowsOf, lk]) ?_; rw [results_end hJ (by omega)]
theorem rkGood_ok (l : List ResultD) (hn : l.length ≤ 1048576) (hs : ∀ r ∈ l, r.scores.length ≤ 1048576) : FnEq Try.prog 68 [.d (.lst 2 (l.map ResultD.dat))] [.d (.bool (bP (ResultsOk l)))] := by
  refine fn_ok G_ok Try.func68 rfl rfl ?_; simp only [Try.ntmps68, List.length_cons, List.length_nil, Nat.reduceAdd, Nat.reduceSub, enm]
  repeat' (first | ((with_reducible first | refine execL_step (fun K' hK' => ?_) | refine quietL_step (fun K' hK' => ?_)); (first | with_reducible refine s_none rfl ?_ | refine s_some2 rfl ?_); simp only [go_sem]) | (with_reducible refine hK' _ ?_; clear hK' K') | (with_reducible refine hK _ ?_; clear hK K; try simp only [go_sem]) | with_reducible (first | refine stp ?_ | refine pw_seq_opsK kl68 G_ok (fun K hK => ?_) | refine pw_ops G_ok (fun K hK => ?_)) | refine inBlockA_other (by decide) ?_ | (with_reducible refine pw_seq_drawK kl68 G_ok mixed (by kernel_rfl) (fun K hK => ?_)) | (with_reducible refine pw_draw G_ok mixed (by kernel_rfl) ?_) | (with_reducible refine pK_mk (fun hc => ?_) (fun hc => ?_) <;> (try simp only [go_sem]) <;> (try simp at hc) <;> (try (exfalso; omega))) | ((first | refine pw_seq (pw_cond rfl (fun hc => ?_) (fun hc => ?_)) | refine pw_cond rfl (fun hc => ?_) (fun hc => ?_)) <;> (try simp at hc) <;> (try (exfalso; omega))) | with_reducible refine And.intro (by first | omega | (unfold inI; omega) | exact andI_inI _) ?_)
  refine pw_loop_over [2, 3, 5, 8, 9, 10, 11, 12, 13, 14, 15, 16, 17, 18, 19, 20, 21, 22, 23, 24, 25, 26, 27, 28, 29, 30, 31, 32, 33, 34, 35, 36, 37] (fun k : Nat => [(8, .d (.int .i64 (k : Int))), (3, .row 0 (l.take k).length)]) (fun k : Nat => [(0, .row 3 1 (((l.take k).map ResultD.skater).map datI))]) 1 (fun k : Nat => k ≤ l.length ∧ Upto (ResAt l) l k) (fun k : Nat => l.length - k) 0 ⟨Nat.zero_le _, Upto.zero _ _⟩ (fits_mk [] (by simp [renL_d, bdL_d, sg, over, wipe, wl, memN, ins, rm, lk, fitFr, fit1, ren, renL, bd, bdL, app, fitHp, hget, renB, bdB] <;> omega)) ?_
  rintro k ⟨hk, hJ⟩
  have hT : (l.take k).length ≤ k := List.length_take_le _ _
  simp only [over, wipe, wl, memN, ins, rm, if_true, if_false, Nat.reduceEqDiff, Bool.false_eq_true, reduceCtorEq]
  by_cases hlt : k < l.length
  · have hx := List.getElem?_eq_getElem hlt
    generalize l[k] = x at hx
    have hz := List.getElem?_eq_getElem (show 0 < l.length by omega)
    generalize l[0] = z at hz
    have hlz := len0_of hz
    have hxs := hs x (List.mem_of_getElem? hx)
    have hzs := hs z (List.mem_of_getElem? hz)
    repeat' (first | ((with_reducible first | refine execL_step (fun K' hK' => ?_) | refine quietL_step (fun K' hK' => ?_)); (first | with_reducible refine s_none rfl ?_ | refine s_some2 rfl ?_); simp only [go_sem, List.getElem?_map, hx, hz, Option.map_some, ResultD.dat]) | (with_reducible refine hK' _ ?_; clear hK' K') | (with_reducible refine hK _ ?_; clear hK K; try simp only [go_sem, List.getElem?_map, hx, hz, Option.map_some, ResultD.dat]) | with_reducible (first | refine stp ?_ | refine pw_seq_opsK kl68 G_ok (fun K hK => ?_) | refine pw_ops G_ok (fun K hK => ?_)) | ((with_reducible first | apply CallK.eq | apply CallQ.eqs); (focus (with_reducible first | exact rkResult_ok x hxs | exact l1HasRs_ok (l.take k) _ (by simp; omega))); (focus (first | exact rfl | (simp [RV.flat, D.sc, datI]; done))); try simp only [go_sem, List.getElem?_map, hx, hz, Option.map_some, ResultD.dat]) | refine inBlockA_other (by decide) ?_ | (with_reducible refine pw_seq_drawK kl68 G_ok mixed (by kernel_rfl) (fun K hK => ?_)) | (with_reducible refine pw_draw G_ok mixed (by kernel_rfl) ?_) | (with_reducible refine pK_mk (fun hc => ?_) (fun hc => ?_) <;> (try simp only [go_sem, List.getElem?_map, hx, hz, Option.map_some, ResultD.dat]) <;> (try simp at hc) <;> (try (exfalso; omega))) | ((first | refine pw_seq (pw_cond rfl (fun hc => ?_) (fun hc => ?_)) | refine pw_cond rfl (fun hc => ?_) (fun hc => ?_)) <;> (try simp at hc) <;> (try (exfalso; omega))) | with_reducible refine And.intro (by first | omega | (unfold inI; omega) | exact andI_inI _) ?_)
    · refine retQ_ret rfl rfl (by simp [rowsOf, lk]) ?_; rw [bP_false (ResultsOk.not_at hx fun h => by have := h.2.1; omega)]
    · exact ⟨k + 1, ⟨by omega, hJ.succ hx ⟨of_bP (by assumption), by omega, rsB_not (by assumption)⟩⟩, by omega, (fits_mk [] (by simp [renL_d, bdL_d, sg, over, wipe, wl, memN, ins, rm, lk, fitFr, fit1, ren, renL, bd, bdL, app, fitHp, hget, renB, bdB, map_snoc hx, datI] <;> omega))⟩
    · refine retQ_ret rfl rfl (by simp [rowsOf, lk]) ?_; rw [bP_false (ResultsOk.not_at hx fun h => h.2.2 (rsB_iff.1 (by assumption)))]
    · refine retQ_ret rfl rfl (by simp [rowsOf, lk]) ?_; rw [bP_false (ResultsOk.not_at hx fun h => not_bP (by assumption) h.1)]
  · repeat' (first | ((with_reducible first | refine execL_step (fun K' hK' => ?_) | refine quietL_step (fun K' hK' => ?_)); (first | with_reducible refine s_none rfl ?_ | refine s_some2 rfl ?_); simp only [go_sem]) | (with_reducible refine hK' _ ?_; clear hK' K') | (with_reducible refine hK _ ?_; clear hK K; try simp only [go_sem]) | with_reducible (first | refine stp ?_ | refine pw_seq_opsK kl68 G_ok (fun K hK => ?_) | refine pw_ops G_ok (fun K hK => ?_)) | refine inBlockA_other (by decide) ?_ | (with_reducible refine pw_seq_drawK kl68 G_ok mixed (by kernel_rfl) (fun K hK => ?_)) | (with_reducible refine pw_draw G_ok mixed (by kernel_rfl) ?_) | (with_reducible refine pK_mk (fun hc => ?_) (fun hc => ?_) <;> (try simp only [go_sem]) <;> (try simp at hc) <;> (try (exfalso; omega))) | ((first | refine pw_seq (pw_cond rfl (fun hc => ?_) (fun hc => ?_)) | refine pw_cond rfl (fun hc => ?_) (fun hc => ?_)) <;> (try simp at hc) <;> (try (exfalso; omega))) | with_reducible refine And.intro (by first | omega | (unfold inI; omega) | exact andI_inI _) ?_)
    refine retQ_ret rfl rfl (by simp [rowsOf, lk]) ?_; rw [results_end hJ (by omega)]
end Go.Proofs.Ythkkpiodligmiaa
