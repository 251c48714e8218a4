/-
  Who goes on: starters, skaters of places, those whose place is good enough; the program's functions and the reference's, in the abstract machine.
-/
import Derived.Test.YthkkpiodligmiaaOp
import Derived.Test.YthkkpiodligmiaaOq
set_option linter.unusedSimpArgs false
set_option linter.unusedVariables false
set_option maxHeartbeats 2000000
set_option maxRecDepth 100000
namespace Go.Proofs.Ythkkpiodligmiaa
open Go.RowKit

def stB (l : List ResultD) (i : Int) : Bool := decide (0 ≤ (resAt l i).scores.getD 0 0)
def skZ (l : List ResultD) (i : Int) : Int := (resAt l i).skater
def plZ (l : List ResultD) (n i : Int) : Bool := decide (plcR l (resAt l i) ≤ n)
def eqZ (l : List ResultD) (n i : Int) : Bool := decide (plcR l (resAt l i) = n)
def stR (l : List ResultD) : List Int := fm (stB l) id (ordZ l l.length)
def quR (l : List ResultD) (n : Int) : List Int := fm (plZ l n) id (stR l)
theorem fm_in {l : List ResultD} {p : Int → Bool} {xs : List Int} (h : ∀ y ∈ xs, inL l y) : ∀ y ∈ fm p id xs, inL l y := by
  intro y hy
  obtain ⟨x, hx, _, rfl⟩ := fm_mem.1 hy
  exact h x hx
theorem stR_in (l : List ResultD) : ∀ y ∈ stR l, inL l y := fm_in (ordZ_in (Nat.le_refl _))
theorem quR_in (l : List ResultD) (n : Int) : ∀ y ∈ quR l n, inL l y := fm_in (stR_in l)
theorem stR_len (l : List ResultD) : (stR l).length ≤ l.length := Nat.le_trans (fm_len _ _ _) (by rw [ordZ_len]; exact Nat.le_refl _)
theorem quR_len (l : List ResultD) (n : Int) : (quR l n).length ≤ l.length := Nat.le_trans (fm_len _ _ _) (stR_len l)
theorem stB_of {l : List ResultD} {y s : Int} {x : ResultD} (hy : inL l y) (hx : l[y.toNat]? = some x) (hs : x.scores[0]? = some s) : stB l y = decide (0 ≤ s) := by
  have := hy.at_
  rw [hx] at this
  unfold stB
  rw [← Option.some.inj this, List.getD_eq_getElem?_getD, hs]
  rfl
theorem inL.res {l : List ResultD} {y : Int} {x : ResultD} (hy : inL l y) (hx : l[y.toNat]? = some x) : resAt l y = x := by have := hy.at_; rw [hx] at this; exact (Option.some.inj this).symm

theorem startersOf_ok (l : List ResultD) (hv : ResultsOk l) : FnEq Try.prog 104 [.d (.lst 2 (l.map ResultD.dat))] [.row 3 1 ((stR l).map datI)] := by
  refine fn_ok G_ok Try.func104 rfl rfl ?_; simp only [Try.ntmps104, List.length_cons, List.length_nil, Nat.reduceAdd, Nat.reduceSub, enm]
  have h40 := hv.1
  have hoc := orderOf_ok l hv
  have hol := ordZ_len l l.length
  have hin := ordZ_in (l := l) (m := l.length) (Nat.le_refl _)
  have hst : stR l = fm (stB l) id (ordZ l l.length) := rfl
  rw [hst]
  generalize ordZ l l.length = os at hoc hol hin
  repeat' (first | ((with_reducible first | refine execL_step (fun K' hK' => ?_)); (first | with_reducible refine s_none rfl ?_ | refine s_some2 rfl ?_); simp only [go_sem, hol]) | (with_reducible refine hK' _ ?_; clear hK' K') | (with_reducible refine hK _ ?_; clear hK K; try simp only [go_sem, hol]) | with_reducible (first | refine stp ?_ | refine pw_seq_opsK kl104 G_ok (fun K hK => ?_) | refine pw_ops G_ok (fun K hK => ?_)) | ((with_reducible first | apply CallK.eq); (focus (with_reducible first | exact hoc)); (focus (first | exact rfl | (simp [RV.flat, D.sc, datI]; done))); try simp only [go_sem, hol]) | refine inBlockA_other (by decide) ?_ | (with_reducible refine pK_mk (fun hc => ?_) (fun hc => ?_) <;> (try simp only [go_sem, hol]) <;> (try simp at hc) <;> (try (exfalso; omega))) | ((first | refine pw_seq (pw_cond rfl (fun hc => ?_) (fun hc => ?_)) | refine pw_cond rfl (fun hc => ?_) (fun hc => ?_)) <;> (try simp at hc) <;> (try (exfalso; omega))) | with_reducible refine And.intro (by first | omega | (unfold inI; omega) | exact andI_inI _) ?_)
  refine pw_loop_over [2, 3, 5, 10, 11, 12, 13, 14, 15, 16, 17, 18, 19, 20, 21, 22, 23, 24, 25, 26] (fun k : Nat => [(10, .d (.int .i64 (k : Int))), (3, .row 0 (fm (stB l) id (os.take k)).length), (8, .row 1 l.length)]) (fun k : Nat => [(0, .row 3 1 ((fm (stB l) id (os.take k)).map datI)), (1, .row 3 1 (os.map datI))]) 2 (fun k : Nat => k ≤ l.length) (fun k : Nat => l.length - k) 0 (Nat.zero_le _) (fits_mk [] (by simp [renL_d, bdL_d, sg, over, wipe, wl, memN, ins, rm, lk, fitFr, fit1, ren, renL, bd, bdL, app, fitHp, hget, renB, bdB, fm_nil, hol] <;> omega)) ?_
  intro k hk
  have hL := fm_take_len (stB l) id os k
  simp only [over, wipe, wl, memN, ins, rm, if_true, if_false, Nat.reduceEqDiff, Bool.false_eq_true, reduceCtorEq]
  by_cases hlt : k < l.length
  · have hlt' : k < os.length := by omega
    have hx := List.getElem?_eq_getElem hlt'
    generalize os[k] = y at hx
    have hy := hin y (List.mem_of_getElem? hx)
    have hy0 := hy.1
    have hy1 := hy.2
    have hyn : y.toNat < l.length := by omega
    have hr := List.getElem?_eq_getElem hyn
    generalize l[y.toNat] = r at hr
    have hok := (hv.at_ hr).1
    have hs0 : 0 < r.scores.length := by have := hok.2.2.2.1; omega
    have hs := List.getElem?_eq_getElem hs0
    generalize r.scores[0] = s0 at hs
    have hsb := stB_of hy hr hs
    repeat' (first | ((with_reducible first | refine execL_step (fun K' hK' => ?_)); (first | with_reducible refine s_none rfl ?_ | refine s_some2 rfl ?_); simp only [go_sem, hol, hlt, List.getElem?_map, hx, hr, hs, hs0, hyn, Option.map_some, datI, ResultD.dat]) | (with_reducible refine hK' _ ?_; clear hK' K') | (with_reducible refine hK _ ?_; clear hK K; try simp only [go_sem, hol, hlt, List.getElem?_map, hx, hr, hs, hs0, hyn, Option.map_some, datI, ResultD.dat]) | with_reducible (first | refine stp ?_ | refine pw_seq_opsK kl104 G_ok (fun K hK => ?_) | refine pw_ops G_ok (fun K hK => ?_)) | refine inBlockA_other (by decide) ?_ | (with_reducible refine pK_mk (fun hc => ?_) (fun hc => ?_) <;> (try simp only [go_sem, hol, hlt, List.getElem?_map, hx, hr, hs, hs0, hyn, Option.map_some, datI, ResultD.dat]) <;> (try simp at hc) <;> (try (exfalso; omega))) | ((first | refine pw_seq (pw_cond rfl (fun hc => ?_) (fun hc => ?_)) | refine pw_cond rfl (fun hc => ?_) (fun hc => ?_)) <;> (try simp at hc) <;> (try (exfalso; omega))) | with_reducible refine And.intro (by first | omega | (unfold inI; omega) | exact andI_inI _) ?_)
    · have e1 := fm_yes (p := stB l) (f := id) hx (by rw [hsb]; simpa using hc)
      exact ⟨k + 1, by omega, by omega, (fits_mk [] (by simp [renL_d, bdL_d, sg, over, wipe, wl, memN, ins, rm, lk, fitFr, fit1, ren, renL, bd, bdL, app, fitHp, hget, renB, bdB, e1, id_eq, datI] <;> omega))⟩
    · have e1 := fm_no (p := stB l) (f := id) hx (by rw [hsb]; simpa using hc)
      exact ⟨k + 1, by omega, by omega, (fits_mk [] (by simp [renL_d, bdL_d, sg, over, wipe, wl, memN, ins, rm, lk, fitFr, fit1, ren, renL, bd, bdL, app, fitHp, hget, renB, bdB, e1] <;> omega))⟩
  · have e : os.take k = os := List.take_of_length_le (by omega)
    repeat' (first | ((with_reducible first | refine execL_step (fun K' hK' => ?_)); (first | with_reducible refine s_none rfl ?_ | refine s_some2 rfl ?_); simp only [go_sem, e]) | (with_reducible refine hK' _ ?_; clear hK' K') | (with_reducible refine hK _ ?_; clear hK K; try simp only [go_sem, e]) | with_reducible (first | refine stp ?_ | refine pw_seq_opsK kl104 G_ok (fun K hK => ?_) | refine pw_ops G_ok (fun K hK => ?_)) | refine inBlockA_other (by decide) ?_ | (with_reducible refine pK_mk (fun hc => ?_) (fun hc => ?_) <;> (try simp only [go_sem, e]) <;> (try simp at hc) <;> (try (exfalso; omega))) | ((first | refine pw_seq (pw_cond rfl (fun hc => ?_) (fun hc => ?_)) | refine pw_cond rfl (fun hc => ?_) (fun hc => ?_)) <;> (try simp at hc) <;> (try (exfalso; omega))) | with_reducible refine And.intro (by first | omega | (unfold inI; omega) | exact andI_inI _) ?_)
    refine retQ_ret rfl (by simp only [e, retL, ret1, hget, lk, List.length_map, List.length_nil, List.length_append, List.length_take, if_true, if_false, Nat.reduceEqDiff, Nat.reduceBEq, Bool.false_eq_true, Option.some.injEq]; rfl) (by simp [rowsOf, lk]) ?_; rfl
theorem quOrder_ok (l : List ResultD) (hv : ResultsOk l) : FnEq Try.prog 106 [.d (.lst 2 (l.map ResultD.dat))] [.row 3 1 ((stR l).map datI)] := by
  refine fn_ok G_ok Try.func106 rfl rfl ?_; simp only [Try.ntmps106, List.length_cons, List.length_nil, Nat.reduceAdd, Nat.reduceSub, enm]
  have h40 := hv.1
  have hoc := rkOrder_ok l hv
  have hol := ordZ_len l l.length
  have hin := ordZ_in (l := l) (m := l.length) (Nat.le_refl _)
  have hst : stR l = fm (stB l) id (ordZ l l.length) := rfl
  rw [hst]
  generalize ordZ l l.length = os at hoc hol hin
  repeat' (first | ((with_reducible first | refine execL_step (fun K' hK' => ?_)); (first | with_reducible refine s_none rfl ?_ | refine s_some2 rfl ?_); simp only [go_sem, hol]) | (with_reducible refine hK' _ ?_; clear hK' K') | (with_reducible refine hK _ ?_; clear hK K; try simp only [go_sem, hol]) | with_reducible (first | refine stp ?_ | refine pw_seq_opsK kl106 G_ok (fun K hK => ?_) | refine pw_ops G_ok (fun K hK => ?_)) | ((with_reducible first | apply CallK.eq); (focus (with_reducible first | exact hoc)); (focus (first | exact rfl | (simp [RV.flat, D.sc, datI]; done))); try simp only [go_sem, hol]) | refine inBlockA_other (by decide) ?_ | (with_reducible refine pK_mk (fun hc => ?_) (fun hc => ?_) <;> (try simp only [go_sem, hol]) <;> (try simp at hc) <;> (try (exfalso; omega))) | ((first | refine pw_seq (pw_cond rfl (fun hc => ?_) (fun hc => ?_)) | refine pw_cond rfl (fun hc => ?_) (fun hc => ?_)) <;> (try simp at hc) <;> (try (exfalso; omega))) | with_reducible refine And.intro (by first | omega | (unfold inI; omega) | exact andI_inI _) ?_)
  refine pw_loop_over [2, 3, 5, 9, 10, 11, 12, 13, 14, 15, 16, 17, 18, 19, 20, 21, 22, 23, 24, 25] (fun k : Nat => [(9, .d (.int .i64 (k : Int))), (3, .row 0 (fm (stB l) id (os.take k)).length), (7, .row 1 l.length)]) (fun k : Nat => [(0, .row 3 1 ((fm (stB l) id (os.take k)).map datI)), (1, .row 3 1 (os.map datI))]) 2 (fun k : Nat => k ≤ l.length) (fun k : Nat => l.length - k) 0 (Nat.zero_le _) (fits_mk [] (by simp [renL_d, bdL_d, sg, over, wipe, wl, memN, ins, rm, lk, fitFr, fit1, ren, renL, bd, bdL, app, fitHp, hget, renB, bdB, fm_nil, hol] <;> omega)) ?_
  intro k hk
  have hL := fm_take_len (stB l) id os k
  simp only [over, wipe, wl, memN, ins, rm, if_true, if_false, Nat.reduceEqDiff, Bool.false_eq_true, reduceCtorEq]
  by_cases hlt : k < l.length
  · have hlt' : k < os.length := by omega
    have hx := List.getElem?_eq_getElem hlt'
    generalize os[k] = y at hx
    have hy := hin y (List.mem_of_getElem? hx)
    have hy0 := hy.1
    have hy1 := hy.2
    have hyn : y.toNat < l.length := by omega
    have hr := List.getElem?_eq_getElem hyn
    generalize l[y.toNat] = r at hr
    have hok := (hv.at_ hr).1
    have hs0 : 0 < r.scores.length := by have := hok.2.2.2.1; omega
    have hs := List.getElem?_eq_getElem hs0
    generalize r.scores[0] = s0 at hs
    have hsb := stB_of hy hr hs
    repeat' (first | ((with_reducible first | refine execL_step (fun K' hK' => ?_)); (first | with_reducible refine s_none rfl ?_ | refine s_some2 rfl ?_); simp only [go_sem, hol, hlt, List.getElem?_map, hx, hr, hs, hs0, hyn, Option.map_some, datI, ResultD.dat]) | (with_reducible refine hK' _ ?_; clear hK' K') | (with_reducible refine hK _ ?_; clear hK K; try simp only [go_sem, hol, hlt, List.getElem?_map, hx, hr, hs, hs0, hyn, Option.map_some, datI, ResultD.dat]) | with_reducible (first | refine stp ?_ | refine pw_seq_opsK kl106 G_ok (fun K hK => ?_) | refine pw_ops G_ok (fun K hK => ?_)) | refine inBlockA_other (by decide) ?_ | (with_reducible refine pK_mk (fun hc => ?_) (fun hc => ?_) <;> (try simp only [go_sem, hol, hlt, List.getElem?_map, hx, hr, hs, hs0, hyn, Option.map_some, datI, ResultD.dat]) <;> (try simp at hc) <;> (try (exfalso; omega))) | ((first | refine pw_seq (pw_cond rfl (fun hc => ?_) (fun hc => ?_)) | refine pw_cond rfl (fun hc => ?_) (fun hc => ?_)) <;> (try simp at hc) <;> (try (exfalso; omega))) | with_reducible refine And.intro (by first | omega | (unfold inI; omega) | exact andI_inI _) ?_)
    · have e1 := fm_yes (p := stB l) (f := id) hx (by rw [hsb]; simpa using hc)
      exact ⟨k + 1, by omega, by omega, (fits_mk [] (by simp [renL_d, bdL_d, sg, over, wipe, wl, memN, ins, rm, lk, fitFr, fit1, ren, renL, bd, bdL, app, fitHp, hget, renB, bdB, e1, id_eq, datI] <;> omega))⟩
    · have e1 := fm_no (p := stB l) (f := id) hx (by rw [hsb]; simpa using hc)
      exact ⟨k + 1, by omega, by omega, (fits_mk [] (by simp [renL_d, bdL_d, sg, over, wipe, wl, memN, ins, rm, lk, fitFr, fit1, ren, renL, bd, bdL, app, fitHp, hget, renB, bdB, e1] <;> omega))⟩
  · have e : os.take k = os := List.take_of_length_le (by omega)
    repeat' (first | ((with_reducible first | refine execL_step (fun K' hK' => ?_)); (first | with_reducible refine s_none rfl ?_ | refine s_some2 rfl ?_); simp only [go_sem, e]) | (with_reducible refine hK' _ ?_; clear hK' K') | (with_reducible refine hK _ ?_; clear hK K; try simp only [go_sem, e]) | with_reducible (first | refine stp ?_ | refine pw_seq_opsK kl106 G_ok (fun K hK => ?_) | refine pw_ops G_ok (fun K hK => ?_)) | refine inBlockA_other (by decide) ?_ | (with_reducible refine pK_mk (fun hc => ?_) (fun hc => ?_) <;> (try simp only [go_sem, e]) <;> (try simp at hc) <;> (try (exfalso; omega))) | ((first | refine pw_seq (pw_cond rfl (fun hc => ?_) (fun hc => ?_)) | refine pw_cond rfl (fun hc => ?_) (fun hc => ?_)) <;> (try simp at hc) <;> (try (exfalso; omega))) | with_reducible refine And.intro (by first | omega | (unfold inI; omega) | exact andI_inI _) ?_)
    refine retQ_ret rfl (by simp only [e, retL, ret1, hget, lk, List.length_map, List.length_nil, List.length_append, List.length_take, if_true, if_false, Nat.reduceEqDiff, Nat.reduceBEq, Bool.false_eq_true, Option.some.injEq]; rfl) (by simp [rowsOf, lk]) ?_; rfl
theorem skatersOf_ok (l : List ResultD) (xs : List Int) (h40 : l.length ≤ 1048576) (hxs : xs.length ≤ 1048576) (hin : ∀ y ∈ xs, inL l y) : FnEq Try.prog 99 [.d (.lst 2 (l.map ResultD.dat)), .d (.lst 1 (xs.map datI))] [.row 3 1 ((xs.map (skZ l)).map datI)] := by
  refine fn_ok G_ok Try.func99 rfl rfl ?_; simp only [Try.ntmps99, List.length_cons, List.length_nil, Nat.reduceAdd, Nat.reduceSub, enm]
  repeat' (first | ((with_reducible first | refine execL_step (fun K' hK' => ?_)); (first | with_reducible refine s_none rfl ?_ | refine s_some2 rfl ?_); simp only [go_sem]) | (with_reducible refine hK' _ ?_; clear hK' K') | (with_reducible refine hK _ ?_; clear hK K; try simp only [go_sem]) | with_reducible (first | refine stp ?_ | refine pw_seq_opsK kl99 G_ok (fun K hK => ?_) | refine pw_ops G_ok (fun K hK => ?_)) | refine inBlockA_other (by decide) ?_ | (with_reducible refine pK_mk (fun hc => ?_) (fun hc => ?_) <;> (try simp only [go_sem]) <;> (try simp at hc) <;> (try (exfalso; omega))) | ((first | refine pw_seq (pw_cond rfl (fun hc => ?_) (fun hc => ?_)) | refine pw_cond rfl (fun hc => ?_) (fun hc => ?_)) <;> (try simp at hc) <;> (try (exfalso; omega))) | with_reducible refine And.intro (by first | omega | (unfold inI; omega) | exact andI_inI _) ?_)
  refine pw_loop_over [4, 5, 7, 11, 12, 13, 14, 15, 16, 17, 18, 19, 20, 21, 22, 23] (fun k : Nat => [(11, .d (.int .i64 (k : Int))), (5, .row 0 k)]) (fun k : Nat => [(0, .row 3 1 (((xs.take k).map (skZ l)).map datI))]) 1 (fun k : Nat => k ≤ xs.length) (fun k : Nat => xs.length - k) 0 (Nat.zero_le _) (fits_mk [] (by simp [renL_d, bdL_d, sg, over, wipe, wl, memN, ins, rm, lk, fitFr, fit1, ren, renL, bd, bdL, app, fitHp, hget, renB, bdB] <;> omega)) ?_
  intro k hk
  have hT : (xs.take k).length = k := by simp; omega
  simp only [over, wipe, wl, memN, ins, rm, if_true, if_false, Nat.reduceEqDiff, Bool.false_eq_true, reduceCtorEq]
  by_cases hlt : k < xs.length
  · have hx := List.getElem?_eq_getElem hlt
    generalize xs[k] = y at hx
    have hy := hin y (List.mem_of_getElem? hx)
    have hy0 := hy.1
    have hy1 := hy.2
    have hyn : y.toNat < l.length := by omega
    have hr := List.getElem?_eq_getElem hyn
    generalize l[y.toNat] = r at hr
    have e0 : skZ l y = r.skater := by unfold skZ; rw [hy.res hr]
    have e1 := map_snoc (f := skZ l) hx
    rw [e0] at e1
    repeat' (first | ((with_reducible first | refine execL_step (fun K' hK' => ?_)); (first | with_reducible refine s_none rfl ?_ | refine s_some2 rfl ?_); simp only [go_sem, hT, hlt, List.getElem?_map, hx, hr, hyn, Option.map_some, datI, ResultD.dat]) | (with_reducible refine hK' _ ?_; clear hK' K') | (with_reducible refine hK _ ?_; clear hK K; try simp only [go_sem, hT, hlt, List.getElem?_map, hx, hr, hyn, Option.map_some, datI, ResultD.dat]) | with_reducible (first | refine stp ?_ | refine pw_seq_opsK kl99 G_ok (fun K hK => ?_) | refine pw_ops G_ok (fun K hK => ?_)) | refine inBlockA_other (by decide) ?_ | (with_reducible refine pK_mk (fun hc => ?_) (fun hc => ?_) <;> (try simp only [go_sem, hT, hlt, List.getElem?_map, hx, hr, hyn, Option.map_some, datI, ResultD.dat]) <;> (try simp at hc) <;> (try (exfalso; omega))) | ((first | refine pw_seq (pw_cond rfl (fun hc => ?_) (fun hc => ?_)) | refine pw_cond rfl (fun hc => ?_) (fun hc => ?_)) <;> (try simp at hc) <;> (try (exfalso; omega))) | with_reducible refine And.intro (by first | omega | (unfold inI; omega) | exact andI_inI _) ?_)
    exact ⟨k + 1, by omega, by omega, (fits_mk [] (by simp [renL_d, bdL_d, sg, over, wipe, wl, memN, ins, rm, lk, fitFr, fit1, ren, renL, bd, bdL, app, fitHp, hget, renB, bdB, e1, datI, -List.map_take] <;> omega))⟩
  · obtain rfl : k = xs.length := by omega
    rw [List.take_of_length_le (Nat.le_refl _)]
    repeat' (first | ((with_reducible first | refine execL_step (fun K' hK' => ?_)); (first | with_reducible refine s_none rfl ?_ | refine s_some2 rfl ?_); simp only [go_sem]) | (with_reducible refine hK' _ ?_; clear hK' K') | (with_reducible refine hK _ ?_; clear hK K; try simp only [go_sem]) | with_reducible (first | refine stp ?_ | refine pw_seq_opsK kl99 G_ok (fun K hK => ?_) | refine pw_ops G_ok (fun K hK => ?_)) | refine inBlockA_other (by decide) ?_ | (with_reducible refine pK_mk (fun hc => ?_) (fun hc => ?_) <;> (try simp only [go_sem]) <;> (try simp at hc) <;> (try (exfalso; omega))) | ((first | refine pw_seq (pw_cond rfl (fun hc => ?_) (fun hc => ?_)) | refine pw_cond rfl (fun hc => ?_) (fun hc => ?_)) <;> (try simp at hc) <;> (try (exfalso; omega))) | with_reducible refine And.intro (by first | omega | (unfold inI; omega) | exact andI_inI _) ?_)
    refine retQ_ret rfl (by simp only [hT, retL, ret1, hget, lk, List.length_map, List.length_nil, List.length_append, List.length_take, if_true, if_false, Nat.reduceEqDiff, Nat.reduceBEq, Bool.false_eq_true, Option.some.injEq]; rfl) (by simp [rowsOf, lk]) ?_; rfl
theorem quSkaters_ok (l : List ResultD) (xs : List Int) (h40 : l.length ≤ 1048576) (hxs : xs.length ≤ 1048576) (hin : ∀ y ∈ xs, inL l y) : FnEq Try.prog 102 [.d (.lst 2 (l.map ResultD.dat)), .d (.lst 1 (xs.map datI))] [.row 3 1 ((xs.map (skZ l)).map datI)] := by
  refine fn_ok G_ok Try.func102 rfl rfl ?_; simp only [Try.ntmps102, List.length_cons, List.length_nil, Nat.reduceAdd, Nat.reduceSub, enm]
  repeat' (first | ((with_reducible first | refine execL_step (fun K' hK' => ?_)); (first | with_reducible refine s_none rfl ?_ | refine s_some2 rfl ?_); simp only [go_sem]) | (with_reducible refine hK' _ ?_; clear hK' K') | (with_reducible refine hK _ ?_; clear hK K; try simp only [go_sem]) | with_reducible (first | refine stp ?_ | refine pw_seq_opsK kl102 G_ok (fun K hK => ?_) | refine pw_ops G_ok (fun K hK => ?_)) | refine inBlockA_other (by decide) ?_ | (with_reducible refine pK_mk (fun hc => ?_) (fun hc => ?_) <;> (try simp only [go_sem]) <;> (try simp at hc) <;> (try (exfalso; omega))) | ((first | refine pw_seq (pw_cond rfl (fun hc => ?_) (fun hc => ?_)) | refine pw_cond rfl (fun hc => ?_) (fun hc => ?_)) <;> (try simp at hc) <;> (try (exfalso; omega))) | with_reducible refine And.intro (by first | omega | (unfold inI; omega) | exact andI_inI _) ?_)
  refine pw_loop_over [4, 5, 7, 10, 11, 12, 13, 14, 15, 16, 17, 18, 19, 20, 21, 22] (fun k : Nat => [(10, .d (.int .i64 (k : Int))), (5, .row 0 k)]) (fun k : Nat => [(0, .row 3 1 (((xs.take k).map (skZ l)).map datI))]) 1 (fun k : Nat => k ≤ xs.length) (fun k : Nat => xs.length - k) 0 (Nat.zero_le _) (fits_mk [] (by simp [renL_d, bdL_d, sg, over, wipe, wl, memN, ins, rm, lk, fitFr, fit1, ren, renL, bd, bdL, app, fitHp, hget, renB, bdB] <;> omega)) ?_
  intro k hk
  have hT : (xs.take k).length = k := by simp; omega
  simp only [over, wipe, wl, memN, ins, rm, if_true, if_false, Nat.reduceEqDiff, Bool.false_eq_true, reduceCtorEq]
  by_cases hlt : k < xs.length
  · have hx := List.getElem?_eq_getElem hlt
    generalize xs[k] = y at hx
    have hy := hin y (List.mem_of_getElem? hx)
    have hy0 := hy.1
    have hy1 := hy.2
    have hyn : y.toNat < l.length := by omega
    have hr := List.getElem?_eq_getElem hyn
    generalize l[y.toNat] = r at hr
    have e0 : skZ l y = r.skater := by unfold skZ; rw [hy.res hr]
    have e1 := map_snoc (f := skZ l) hx
    rw [e0] at e1
    repeat' (first | ((with_reducible first | refine execL_step (fun K' hK' => ?_)); (first | with_reducible refine s_none rfl ?_ | refine s_some2 rfl ?_); simp only [go_sem, hT, hlt, List.getElem?_map, hx, hr, hyn, Option.map_some, datI, ResultD.dat]) | (with_reducible refine hK' _ ?_; clear hK' K') | (with_reducible refine hK _ ?_; clear hK K; try simp only [go_sem, hT, hlt, List.getElem?_map, hx, hr, hyn, Option.map_some, datI, ResultD.dat]) | with_reducible (first | refine stp ?_ | refine pw_seq_opsK kl102 G_ok (fun K hK => ?_) | refine pw_ops G_ok (fun K hK => ?_)) | refine inBlockA_other (by decide) ?_ | (with_reducible refine pK_mk (fun hc => ?_) (fun hc => ?_) <;> (try simp only [go_sem, hT, hlt, List.getElem?_map, hx, hr, hyn, Option.map_some, datI, ResultD.dat]) <;> (try simp at hc) <;> (try (exfalso; omega))) | ((first | refine pw_seq (pw_cond rfl (fun hc => ?_) (fun hc => ?_)) | refine pw_cond rfl (fun hc => ?_) (fun hc => ?_)) <;> (try simp at hc) <;> (try (exfalso; omega))) | with_reducible refine And.intro (by first | omega | (unfold inI; omega) | exact andI_inI _) ?_)
    exact ⟨k + 1, by omega, by omega, (fits_mk [] (by simp [renL_d, bdL_d, sg, over, wipe, wl, memN, ins, rm, lk, fitFr, fit1, ren, renL, bd, bdL, app, fitHp, hget, renB, bdB, e1, datI, -List.map_take] <;> omega))⟩
  · obtain rfl : k = xs.length := by omega
    rw [List.take_of_length_le (Nat.le_refl _)]
    repeat' (first | ((with_reducible first | refine execL_step (fun K' hK' => ?_)); (first | with_reducible refine s_none rfl ?_ | refine s_some2 rfl ?_); simp only [go_sem]) | (with_reducible refine hK' _ ?_; clear hK' K') | (with_reducible refine hK _ ?_; clear hK K; try simp only [go_sem]) | with_reducible (first | refine stp ?_ | refine pw_seq_opsK kl102 G_ok (fun K hK => ?_) | refine pw_ops G_ok (fun K hK => ?_)) | refine inBlockA_other (by decide) ?_ | (with_reducible refine pK_mk (fun hc => ?_) (fun hc => ?_) <;> (try simp only [go_sem]) <;> (try simp at hc) <;> (try (exfalso; omega))) | ((first | refine pw_seq (pw_cond rfl (fun hc => ?_) (fun hc => ?_)) | refine pw_cond rfl (fun hc => ?_) (fun hc => ?_)) <;> (try simp at hc) <;> (try (exfalso; omega))) | with_reducible refine And.intro (by first | omega | (unfold inI; omega) | exact andI_inI _) ?_)
    refine retQ_ret rfl (by simp only [hT, retL, ret1, hget, lk, List.length_map, List.length_nil, List.length_append, List.length_take, if_true, if_false, Nat.reduceEqDiff, Nat.reduceBEq, Bool.false_eq_true, Option.some.injEq]; rfl) (by simp [rowsOf, lk]) ?_; rfl
theorem qualified_ok (l : List ResultD) (n : Int) (hv : ResultsOk l) : FnEq Try.prog 100 [.d (.lst 2 (l.map ResultD.dat)), .d (.int .i64 n)] [.row 3 1 ((quR l n).map datI)] := by
  refine fn_ok G_ok Try.func100 rfl rfl ?_; simp only [Try.ntmps100, List.length_cons, List.length_nil, Nat.reduceAdd, Nat.reduceSub, enm]
  have h40 := hv.1
  have hoc := startersOf_ok l hv
  have hol := stR_len l
  have hin := stR_in l
  have hst : quR l n = fm (plZ l n) id (stR l) := rfl
  rw [hst]
  generalize stR l = os at hoc hol hin
  repeat' (first | ((with_reducible first | refine execL_step (fun K' hK' => ?_)); (first | with_reducible refine s_none rfl ?_ | refine s_some2 rfl ?_); simp only [go_sem, List.length_map]) | (with_reducible refine hK' _ ?_; clear hK' K') | (with_reducible refine hK _ ?_; clear hK K; try simp only [go_sem, List.length_map]) | with_reducible (first | refine stp ?_ | refine pw_seq_opsK kl100 G_ok (fun K hK => ?_) | refine pw_ops G_ok (fun K hK => ?_)) | ((with_reducible first | apply CallK.eq); (focus (with_reducible first | exact hoc)); (focus (first | exact rfl | (simp [RV.flat, D.sc, datI]; done))); try simp only [go_sem, List.length_map]) | refine inBlockA_other (by decide) ?_ | (with_reducible refine pK_mk (fun hc => ?_) (fun hc => ?_) <;> (try simp only [go_sem, List.length_map]) <;> (try simp at hc) <;> (try (exfalso; omega))) | ((first | refine pw_seq (pw_cond rfl (fun hc => ?_) (fun hc => ?_)) | refine pw_cond rfl (fun hc => ?_) (fun hc => ?_)) <;> (try simp at hc) <;> (try (exfalso; omega))) | with_reducible refine And.intro (by first | omega | (unfold inI; omega) | exact andI_inI _) ?_)
  refine pw_loop_over [4, 5, 7, 12, 13, 14, 15, 16, 17, 18, 19, 20, 21, 22, 23, 24, 25] (fun k : Nat => [(12, .d (.int .i64 (k : Int))), (5, .row 0 (fm (plZ l n) id (os.take k)).length), (10, .row 1 os.length)]) (fun k : Nat => [(0, .row 3 1 ((fm (plZ l n) id (os.take k)).map datI)), (1, .row 3 1 (os.map datI))]) 2 (fun k : Nat => k ≤ os.length) (fun k : Nat => os.length - k) 0 (Nat.zero_le _) (fits_mk [] (by simp [renL_d, bdL_d, sg, over, wipe, wl, memN, ins, rm, lk, fitFr, fit1, ren, renL, bd, bdL, app, fitHp, hget, renB, bdB, fm_nil] <;> omega)) ?_
  intro k hk
  have hL := fm_take_len (plZ l n) id os k
  simp only [over, wipe, wl, memN, ins, rm, if_true, if_false, Nat.reduceEqDiff, Bool.false_eq_true, reduceCtorEq]
  by_cases hlt : k < os.length
  · have hx := List.getElem?_eq_getElem hlt
    generalize os[k] = y at hx
    have hy := hin y (List.mem_of_getElem? hx)
    have hy0 := hy.1
    have hy1 := hy.2
    have hyn : y.toNat < l.length := by omega
    have hr := List.getElem?_eq_getElem hyn
    generalize l[y.toNat] = r at hr
    have hpl := placeOf_ok l y.toNat r hr hv
    rw [Int.toNat_of_nonneg hy0] at hpl
    have hsb : plZ l n y = decide (plcR l r ≤ n) := by unfold plZ; rw [hy.res hr]
    repeat' (first | ((with_reducible first | refine execL_step (fun K' hK' => ?_)); (first | with_reducible refine s_none rfl ?_ | refine s_some2 rfl ?_); simp only [go_sem, hlt, List.getElem?_map, hx, Option.map_some, datI]) | (with_reducible refine hK' _ ?_; clear hK' K') | (with_reducible refine hK _ ?_; clear hK K; try simp only [go_sem, hlt, List.getElem?_map, hx, Option.map_some, datI]) | with_reducible (first | refine stp ?_ | refine pw_seq_opsK kl100 G_ok (fun K hK => ?_) | refine pw_ops G_ok (fun K hK => ?_)) | ((with_reducible first | apply CallK.eq); (focus (with_reducible first | exact hpl)); (focus (first | exact rfl | (simp [RV.flat, D.sc, datI]; done))); try simp only [go_sem, hlt, List.getElem?_map, hx, Option.map_some, datI]) | refine inBlockA_other (by decide) ?_ | (with_reducible refine pK_mk (fun hc => ?_) (fun hc => ?_) <;> (try simp only [go_sem, hlt, List.getElem?_map, hx, Option.map_some, datI]) <;> (try simp at hc) <;> (try (exfalso; omega))) | ((first | refine pw_seq (pw_cond rfl (fun hc => ?_) (fun hc => ?_)) | refine pw_cond rfl (fun hc => ?_) (fun hc => ?_)) <;> (try simp at hc) <;> (try (exfalso; omega))) | with_reducible refine And.intro (by first | omega | (unfold inI; omega) | exact andI_inI _) ?_)
    · have e1 := fm_yes (p := plZ l n) (f := id) hx (by rw [hsb]; simpa using hc)
      exact ⟨k + 1, by omega, by omega, (fits_mk [] (by simp [renL_d, bdL_d, sg, over, wipe, wl, memN, ins, rm, lk, fitFr, fit1, ren, renL, bd, bdL, app, fitHp, hget, renB, bdB, e1, id_eq, datI] <;> omega))⟩
    · have e1 := fm_no (p := plZ l n) (f := id) hx (by rw [hsb]; simpa using hc)
      exact ⟨k + 1, by omega, by omega, (fits_mk [] (by simp [renL_d, bdL_d, sg, over, wipe, wl, memN, ins, rm, lk, fitFr, fit1, ren, renL, bd, bdL, app, fitHp, hget, renB, bdB, e1] <;> omega))⟩
  · have e : os.take k = os := List.take_of_length_le (by omega)
    repeat' (first | ((with_reducible first | refine execL_step (fun K' hK' => ?_)); (first | with_reducible refine s_none rfl ?_ | refine s_some2 rfl ?_); simp only [go_sem, e]) | (with_reducible refine hK' _ ?_; clear hK' K') | (with_reducible refine hK _ ?_; clear hK K; try simp only [go_sem, e]) | with_reducible (first | refine stp ?_ | refine pw_seq_opsK kl100 G_ok (fun K hK => ?_) | refine pw_ops G_ok (fun K hK => ?_)) | refine inBlockA_other (by decide) ?_ | (with_reducible refine pK_mk (fun hc => ?_) (fun hc => ?_) <;> (try simp only [go_sem, e]) <;> (try simp at hc) <;> (try (exfalso; omega))) | ((first | refine pw_seq (pw_cond rfl (fun hc => ?_) (fun hc => ?_)) | refine pw_cond rfl (fun hc => ?_) (fun hc => ?_)) <;> (try simp at hc) <;> (try (exfalso; omega))) | with_reducible refine And.intro (by first | omega | (unfold inI; omega) | exact andI_inI _) ?_)
    refine retQ_ret rfl (by simp only [e, retL, ret1, hget, lk, List.length_map, List.length_nil, List.length_append, List.length_take, if_true, if_false, Nat.reduceEqDiff, Nat.reduceBEq, Bool.false_eq_true, Option.some.injEq]; rfl) (by simp [rowsOf, lk]) ?_; rfl
theorem quFor_ok (l : List ResultD) (n : Int) (hv : ResultsOk l) : FnEq Try.prog 103 [.d (.lst 2 (l.map ResultD.dat)), .d (.int .i64 n)] [.row 3 1 ((quR l n).map datI)] := by
  refine fn_ok G_ok Try.func103 rfl rfl ?_; simp only [Try.ntmps103, List.length_cons, List.length_nil, Nat.reduceAdd, Nat.reduceSub, enm]
  have h40 := hv.1
  have hoc := quOrder_ok l hv
  have hol := stR_len l
  have hin := stR_in l
  have hst : quR l n = fm (plZ l n) id (stR l) := rfl
  rw [hst]
  generalize stR l = os at hoc hol hin
  repeat' (first | ((with_reducible first | refine execL_step (fun K' hK' => ?_)); (first | with_reducible refine s_none rfl ?_ | refine s_some2 rfl ?_); simp only [go_sem, List.length_map]) | (with_reducible refine hK' _ ?_; clear hK' K') | (with_reducible refine hK _ ?_; clear hK K; try simp only [go_sem, List.length_map]) | with_reducible (first | refine stp ?_ | refine pw_seq_opsK kl103 G_ok (fun K hK => ?_) | refine pw_ops G_ok (fun K hK => ?_)) | ((with_reducible first | apply CallK.eq); (focus (with_reducible first | exact hoc)); (focus (first | exact rfl | (simp [RV.flat, D.sc, datI]; done))); try simp only [go_sem, List.length_map]) | refine inBlockA_other (by decide) ?_ | (with_reducible refine pK_mk (fun hc => ?_) (fun hc => ?_) <;> (try simp only [go_sem, List.length_map]) <;> (try simp at hc) <;> (try (exfalso; omega))) | ((first | refine pw_seq (pw_cond rfl (fun hc => ?_) (fun hc => ?_)) | refine pw_cond rfl (fun hc => ?_) (fun hc => ?_)) <;> (try simp at hc) <;> (try (exfalso; omega))) | with_reducible refine And.intro (by first | omega | (unfold inI; omega) | exact andI_inI _) ?_)
  refine pw_loop_over [4, 5, 7, 11, 12, 13, 14, 15, 16, 17, 18, 19, 20, 21, 22, 23, 24] (fun k : Nat => [(11, .d (.int .i64 (k : Int))), (5, .row 0 (fm (plZ l n) id (os.take k)).length), (9, .row 1 os.length)]) (fun k : Nat => [(0, .row 3 1 ((fm (plZ l n) id (os.take k)).map datI)), (1, .row 3 1 (os.map datI))]) 2 (fun k : Nat => k ≤ os.length) (fun k : Nat => os.length - k) 0 (Nat.zero_le _) (fits_mk [] (by simp [renL_d, bdL_d, sg, over, wipe, wl, memN, ins, rm, lk, fitFr, fit1, ren, renL, bd, bdL, app, fitHp, hget, renB, bdB, fm_nil] <;> omega)) ?_
  intro k hk
  have hL := fm_take_len (plZ l n) id os k
  simp only [over, wipe, wl, memN, ins, rm, if_true, if_false, Nat.reduceEqDiff, Bool.false_eq_true, reduceCtorEq]
  by_cases hlt : k < os.length
  · have hx := List.getElem?_eq_getElem hlt
    generalize os[k] = y at hx
    have hy := hin y (List.mem_of_getElem? hx)
    have hy0 := hy.1
    have hy1 := hy.2
    have hyn : y.toNat < l.length := by omega
    have hr := List.getElem?_eq_getElem hyn
    generalize l[y.toNat] = r at hr
    have hpl := rkPlace_ok l y.toNat r hr hv
    rw [Int.toNat_of_nonneg hy0] at hpl
    have hsb : plZ l n y = decide (plcR l r ≤ n) := by unfold plZ; rw [hy.res hr]
    repeat' (first | ((with_reducible first | refine execL_step (fun K' hK' => ?_)); (first | with_reducible refine s_none rfl ?_ | refine s_some2 rfl ?_); simp only [go_sem, hlt, List.getElem?_map, hx, Option.map_some, datI]) | (with_reducible refine hK' _ ?_; clear hK' K') | (with_reducible refine hK _ ?_; clear hK K; try simp only [go_sem, hlt, List.getElem?_map, hx, Option.map_some, datI]) | with_reducible (first | refine stp ?_ | refine pw_seq_opsK kl103 G_ok (fun K hK => ?_) | refine pw_ops G_ok (fun K hK => ?_)) | ((with_reducible first | apply CallK.eq); (focus (with_reducible first | exact hpl)); (focus (first | exact rfl | (simp [RV.flat, D.sc, datI]; done))); try simp only [go_sem, hlt, List.getElem?_map, hx, Option.map_some, datI]) | refine inBlockA_other (by decide) ?_ | (with_reducible refine pK_mk (fun hc => ?_) (fun hc => ?_) <;> (try simp only [go_sem, hlt, List.getElem?_map, hx, Option.map_some, datI]) <;> (try simp at hc) <;> (try (exfalso; omega))) | ((first | refine pw_seq (pw_cond rfl (fun hc => ?_) (fun hc => ?_)) | refine pw_cond rfl (fun hc => ?_) (fun hc => ?_)) <;> (try simp at hc) <;> (try (exfalso; omega))) | with_reducible refine And.intro (by first | omega | (unfold inI; omega) | exact andI_inI _) ?_)
    · have e1 := fm_yes (p := plZ l n) (f := id) hx (by rw [hsb]; simpa using hc)
      exact ⟨k + 1, by omega, by omega, (fits_mk [] (by simp [renL_d, bdL_d, sg, over, wipe, wl, memN, ins, rm, lk, fitFr, fit1, ren, renL, bd, bdL, app, fitHp, hget, renB, bdB, e1, id_eq, datI] <;> omega))⟩
    · have e1 := fm_no (p := plZ l n) (f := id) hx (by rw [hsb]; simpa using hc)
      exact ⟨k + 1, by omega, by omega, (fits_mk [] (by simp [renL_d, bdL_d, sg, over, wipe, wl, memN, ins, rm, lk, fitFr, fit1, ren, renL, bd, bdL, app, fitHp, hget, renB, bdB, e1] <;> omega))⟩
  · have e : os.take k = os := List.take_of_length_le (by omega)
    repeat' (first | ((with_reducible first | refine execL_step (fun K' hK' => ?_)); (first | with_reducible refine s_none rfl ?_ | refine s_some2 rfl ?_); simp only [go_sem, e]) | (with_reducible refine hK' _ ?_; clear hK' K') | (with_reducible refine hK _ ?_; clear hK K; try simp only [go_sem, e]) | with_reducible (first | refine stp ?_ | refine pw_seq_opsK kl103 G_ok (fun K hK => ?_) | refine pw_ops G_ok (fun K hK => ?_)) | refine inBlockA_other (by decide) ?_ | (with_reducible refine pK_mk (fun hc => ?_) (fun hc => ?_) <;> (try simp only [go_sem, e]) <;> (try simp at hc) <;> (try (exfalso; omega))) | ((first | refine pw_seq (pw_cond rfl (fun hc => ?_) (fun hc => ?_)) | refine pw_cond rfl (fun hc => ?_) (fun hc => ?_)) <;> (try simp at hc) <;> (try (exfalso; omega))) | with_reducible refine And.intro (by first | omega | (unfold inI; omega) | exact andI_inI _) ?_)
    refine retQ_ret rfl (by simp only [e, retL, ret1, hget, lk, List.length_map, List.length_nil, List.length_append, List.length_take, if_true, if_false, Nat.reduceEqDiff, Nat.reduceBEq, Bool.false_eq_true, Option.some.injEq]; rfl) (by simp [rowsOf, lk]) ?_; rfl
theorem isField2_ok (n : Int) : FnEq Try.prog 98 [.d (.int .i64 n)] [.d (.bool (decide (1 ≤ n) && decide (n ≤ 40)))] := by
  refine fn_ok G_ok Try.func98 rfl rfl ?_; simp only [Try.ntmps98, List.length_cons, List.length_nil, Nat.reduceAdd, Nat.reduceSub, enm]
  repeat' (first | ((with_reducible first | refine execL_step (fun K' hK' => ?_)); (first | with_reducible refine s_none rfl ?_ | refine s_some2 rfl ?_); simp only [go_sem]) | (with_reducible refine hK' _ ?_; clear hK' K') | (with_reducible refine hK _ ?_; clear hK K; try simp only [go_sem]) | with_reducible (first | refine stp ?_ | refine pw_seq_opsK kl98 G_ok (fun K hK => ?_) | refine pw_ops G_ok (fun K hK => ?_)) | ((with_reducible first | apply CallK.eq); (focus (with_reducible first | exact within_ok _ _ _)); (focus (first | exact rfl | (simp [RV.flat, D.sc, datI]; done))); try simp only [go_sem]) | refine inBlockA_other (by decide) ?_ | (with_reducible refine pK_mk (fun hc => ?_) (fun hc => ?_) <;> (try simp only [go_sem]) <;> (try simp at hc) <;> (try (exfalso; omega))) | ((first | refine pw_seq (pw_cond rfl (fun hc => ?_) (fun hc => ?_)) | refine pw_cond rfl (fun hc => ?_) (fun hc => ?_)) <;> (try simp at hc) <;> (try (exfalso; omega))) | with_reducible refine And.intro (by first | omega | (unfold inI; omega) | exact andI_inI _) ?_)
  refine retQ_ret rfl rfl (by simp [rowsOf, lk]) ?_; rfl
theorem quNumber_ok (n : Int) : FnEq Try.prog 101 [.d (.int .i64 n)] [.d (.bool (decide (1 ≤ n) && decide (n ≤ 40)))] := by
  refine fn_ok G_ok Try.func101 rfl rfl ?_; simp only [Try.ntmps101, List.length_cons, List.length_nil, Nat.reduceAdd, Nat.reduceSub, enm]
  repeat' (first | ((with_reducible first | refine execL_step (fun K' hK' => ?_)); (first | with_reducible refine s_none rfl ?_ | refine s_some2 rfl ?_); simp only [go_sem]) | (with_reducible refine hK' _ ?_; clear hK' K') | (with_reducible refine hK _ ?_; clear hK K; try simp only [go_sem]) | with_reducible (first | refine stp ?_ | refine pw_seq_opsK kl101 G_ok (fun K hK => ?_) | refine pw_ops G_ok (fun K hK => ?_)) | ((with_reducible first | apply CallK.eq); (focus (with_reducible first | exact l1In_ok _ _ _)); (focus (first | exact rfl | (simp [RV.flat, D.sc, datI]; done))); try simp only [go_sem]) | refine inBlockA_other (by decide) ?_ | (with_reducible refine pK_mk (fun hc => ?_) (fun hc => ?_) <;> (try simp only [go_sem]) <;> (try simp at hc) <;> (try (exfalso; omega))) | ((first | refine pw_seq (pw_cond rfl (fun hc => ?_) (fun hc => ?_)) | refine pw_cond rfl (fun hc => ?_) (fun hc => ?_)) <;> (try simp at hc) <;> (try (exfalso; omega))) | with_reducible refine And.intro (by first | omega | (unfold inI; omega) | exact andI_inI _) ?_)
  refine retQ_ret rfl rfl (by simp [rowsOf, lk]) ?_; rfl
def FldOk (n : Int) : Prop := 1 ≤ n ∧ n ≤ 40
noncomputable abbrev ansQualifiedFor (l : List ResultD) (n : Int) : Option (List Int) := optP (ResultsOk l ∧ FldOk n) ((quR l n).map (skZ l))
theorem impl_QualifiedFor_ok (xs0 : List ResultD) (a1 : Int) (hl0 : xs0.length ≤ 1048576) (hk0 : ∀ r ∈ xs0, r.scores.length ≤ 1048576) : FnEq Try.prog 39 [.d (.lst 2 (xs0.map ResultD.dat)), .d (.int .i64 a1)] [.row 3 1 (((ansQualifiedFor xs0 a1).getD []).map datI), .d (.bool (ansQualifiedFor xs0 a1).isSome)] := by
  refine fn_ok G_ok Try.func39 rfl rfl ?_; simp only [Try.ntmps39, List.length_cons, List.length_nil, Nat.reduceAdd, Nat.reduceSub, enm]
  by_cases hv : ResultsOk xs0
  · have hb := bP_true hv
    have h40 := hv.1
    by_cases hf : FldOk a1
    · have hf1 := hf.1
      have hf2 := hf.2
      have hqc := qualified_ok xs0 a1 hv
      have hql := quR_len xs0 a1
      have hqi := quR_in xs0 a1
      have hans : ansQualifiedFor xs0 a1 = some ((quR xs0 a1).map (skZ xs0)) := optP_pos ⟨hv, hf⟩
      generalize quR xs0 a1 = q at hqc hql hqi hans
      have hsl : (q.map (skZ xs0)).length = q.length := by simp
      repeat' (first | ((with_reducible first | refine execL_step (fun K' hK' => ?_)); (first | with_reducible refine s_none rfl ?_ | refine s_some2 rfl ?_); simp only [go_sem, hb, List.length_map]) | (with_reducible refine hK' _ ?_; clear hK' K') | (with_reducible refine hK _ ?_; clear hK K; try simp only [go_sem, hb, List.length_map]) | with_reducible (first | refine stp ?_ | refine pw_seq_opsK kl39 G_ok (fun K hK => ?_) | refine pw_ops G_ok (fun K hK => ?_)) | ((with_reducible first | apply CallK.eq); (focus (with_reducible first | exact AreResults_ok xs0 hl0 hk0 | exact isField2_ok _ | exact hqc | exact skatersOf_ok xs0 q hl0 (by omega) hqi)); (focus (first | exact rfl | (simp [RV.flat, D.sc, datI]; done))); try simp only [go_sem, hb, List.length_map]) | refine inBlockA_other (by decide) ?_ | (with_reducible refine pK_mk (fun hc => ?_) (fun hc => ?_) <;> (try simp only [go_sem, hb, List.length_map]) <;> (try simp at hc) <;> (try (exfalso; omega))) | ((first | refine pw_seq (pw_cond rfl (fun hc => ?_) (fun hc => ?_)) | refine pw_cond rfl (fun hc => ?_) (fun hc => ?_)) <;> (try simp at hc) <;> (try (exfalso; omega))) | with_reducible refine And.intro (by first | omega | (unfold inI; omega) | exact andI_inI _) ?_)
      all_goals first
        | (exfalso; omega)
        | (refine retQ_ret rfl (by simp only [hsl, retL, ret1, hget, lk, List.length_map, List.length_nil, List.length_append, List.length_take, if_true, if_false, Nat.reduceEqDiff, Nat.reduceBEq, Bool.false_eq_true, Option.some.injEq]; rfl) (by simp [rowsOf, lk]) ?_; rw [hans]; rfl)
    · have hans : ansQualifiedFor xs0 a1 = none := optP_neg fun h => hf h.2
      have hf' : ¬ (1 ≤ a1 ∧ a1 ≤ 40) := hf
      repeat' (first | ((with_reducible first | refine execL_step (fun K' hK' => ?_)); (first | with_reducible refine s_none rfl ?_ | refine s_some2 rfl ?_); simp only [go_sem, hb]) | (with_reducible refine hK' _ ?_; clear hK' K') | (with_reducible refine hK _ ?_; clear hK K; try simp only [go_sem, hb]) | with_reducible (first | refine stp ?_ | refine pw_seq_opsK kl39 G_ok (fun K hK => ?_) | refine pw_ops G_ok (fun K hK => ?_)) | ((with_reducible first | apply CallK.eq); (focus (with_reducible first | exact AreResults_ok xs0 hl0 hk0 | exact isField2_ok _)); (focus (first | exact rfl | (simp [RV.flat, D.sc, datI]; done))); try simp only [go_sem, hb]) | refine inBlockA_other (by decide) ?_ | (with_reducible refine pK_mk (fun hc => ?_) (fun hc => ?_) <;> (try simp only [go_sem, hb]) <;> (try simp at hc) <;> (try (exfalso; omega))) | ((first | refine pw_seq (pw_cond rfl (fun hc => ?_) (fun hc => ?_)) | refine pw_cond rfl (fun hc => ?_) (fun hc => ?_)) <;> (try simp at hc) <;> (try (exfalso; omega))) | with_reducible refine And.intro (by first | omega | (unfold inI; omega) | exact andI_inI _) ?_)
      all_goals first
        | (exfalso; omega)
        | (refine retQ_ret rfl (by simp only [retL, ret1, hget, lk, List.length_map, List.length_nil, List.length_append, List.length_take, if_true, if_false, Nat.reduceEqDiff, Nat.reduceBEq, Bool.false_eq_true, Option.some.injEq]; rfl) (by simp [rowsOf, lk]) ?_; rw [hans]; rfl)
  · have hb := bP_false hv
    have hans : ansQualifiedFor xs0 a1 = none := optP_neg fun h => hv h.1
    repeat' (first | ((with_reducible first | refine execL_step (fun K' hK' => ?_)); (first | with_reducible refine s_none rfl ?_ | refine s_some2 rfl ?_); simp only [go_sem, hb]) | (with_reducible refine hK' _ ?_; clear hK' K') | (with_reducible refine hK _ ?_; clear hK K; try simp only [go_sem, hb]) | with_reducible (first | refine stp ?_ | refine pw_seq_opsK kl39 G_ok (fun K hK => ?_) | refine pw_ops G_ok (fun K hK => ?_)) | ((with_reducible first | apply CallK.eq); (focus (with_reducible first | exact AreResults_ok xs0 hl0 hk0)); (focus (first | exact rfl | (simp [RV.flat, D.sc, datI]; done))); try simp only [go_sem, hb]) | refine inBlockA_other (by decide) ?_ | (with_reducible refine pK_mk (fun hc => ?_) (fun hc => ?_) <;> (try simp only [go_sem, hb]) <;> (try simp at hc) <;> (try (exfalso; omega))) | ((first | refine pw_seq (pw_cond rfl (fun hc => ?_) (fun hc => ?_)) | refine pw_cond rfl (fun hc => ?_) (fun hc => ?_)) <;> (try simp at hc) <;> (try (exfalso; omega))) | with_reducible refine And.intro (by first | omega | (unfold inI; omega) | exact andI_inI _) ?_)
    all_goals (refine retQ_ret rfl (by simp only [retL, ret1, hget, lk, List.length_map, List.length_nil, List.length_append, List.length_take, if_true, if_false, Nat.reduceEqDiff, Nat.reduceBEq, Bool.false_eq_true, Option.some.injEq]; rfl) (by simp [rowsOf, lk]) ?_; rw [hans]; rfl)
theorem spec_QualifiedFor_ok (xs0 : List ResultD) (a1 : Int) (hl0 : xs0.length ≤ 1048576) (hk0 : ∀ r ∈ xs0, r.scores.length ≤ 1048576) : FnEq Try.prog 40 [.d (.lst 2 (xs0.map ResultD.dat)), .d (.int .i64 a1)] [.row 3 1 (((ansQualifiedFor xs0 a1).getD []).map datI), .d (.bool (ansQualifiedFor xs0 a1).isSome)] := by
  refine fn_ok G_ok Try.func40 rfl rfl ?_; simp only [Try.ntmps40, List.length_cons, List.length_nil, Nat.reduceAdd, Nat.reduceSub, enm]
  by_cases hv : ResultsOk xs0
  · have hb := bP_true hv
    have h40 := hv.1
    by_cases hf : FldOk a1
    · have hf1 := hf.1
      have hf2 := hf.2
      have hqc := quFor_ok xs0 a1 hv
      have hql := quR_len xs0 a1
      have hqi := quR_in xs0 a1
      have hans : ansQualifiedFor xs0 a1 = some ((quR xs0 a1).map (skZ xs0)) := optP_pos ⟨hv, hf⟩
      generalize quR xs0 a1 = q at hqc hql hqi hans
      have hsl : (q.map (skZ xs0)).length = q.length := by simp
      repeat' (first | ((with_reducible first | refine execL_step (fun K' hK' => ?_)); (first | with_reducible refine s_none rfl ?_ | refine s_some2 rfl ?_); simp only [go_sem, hb, List.length_map]) | (with_reducible refine hK' _ ?_; clear hK' K') | (with_reducible refine hK _ ?_; clear hK K; try simp only [go_sem, hb, List.length_map]) | with_reducible (first | refine stp ?_ | refine pw_seq_opsK kl40 G_ok (fun K hK => ?_) | refine pw_ops G_ok (fun K hK => ?_)) | ((with_reducible first | apply CallK.eq); (focus (with_reducible first | exact rkGood_ok xs0 hl0 hk0 | exact quNumber_ok _ | exact hqc | exact quSkaters_ok xs0 q hl0 (by omega) hqi)); (focus (first | exact rfl | (simp [RV.flat, D.sc, datI]; done))); try simp only [go_sem, hb, List.length_map]) | refine inBlockA_other (by decide) ?_ | (with_reducible refine pK_mk (fun hc => ?_) (fun hc => ?_) <;> (try simp only [go_sem, hb, List.length_map]) <;> (try simp at hc) <;> (try (exfalso; omega))) | ((first | refine pw_seq (pw_cond rfl (fun hc => ?_) (fun hc => ?_)) | refine pw_cond rfl (fun hc => ?_) (fun hc => ?_)) <;> (try simp at hc) <;> (try (exfalso; omega))) | with_reducible refine And.intro (by first | omega | (unfold inI; omega) | exact andI_inI _) ?_)
      all_goals first
        | (exfalso; omega)
        | (refine retQ_ret rfl (by simp only [hsl, retL, ret1, hget, lk, List.length_map, List.length_nil, List.length_append, List.length_take, if_true, if_false, Nat.reduceEqDiff, Nat.reduceBEq, Bool.false_eq_true, Option.some.injEq]; rfl) (by simp [rowsOf, lk]) ?_; rw [hans]; rfl)
    · have hans : ansQualifiedFor xs0 a1 = none := optP_neg fun h => hf h.2
      have hf' : ¬ (1 ≤ a1 ∧ a1 ≤ 40) := hf
      repeat' (first | ((with_reducible first | refine execL_step (fun K' hK' => ?_)); (first | with_reducible refine s_none rfl ?_ | refine s_some2 rfl ?_); simp only [go_sem, hb]) | (with_reducible refine hK' _ ?_; clear hK' K') | (with_reducible refine hK _ ?_; clear hK K; try simp only [go_sem, hb]) | with_reducible (first | refine stp ?_ | refine pw_seq_opsK kl40 G_ok (fun K hK => ?_) | refine pw_ops G_ok (fun K hK => ?_)) | ((with_reducible first | apply CallK.eq); (focus (with_reducible first | exact rkGood_ok xs0 hl0 hk0 | exact quNumber_ok _)); (focus (first | exact rfl | (simp [RV.flat, D.sc, datI]; done))); try simp only [go_sem, hb]) | refine inBlockA_other (by decide) ?_ | (with_reducible refine pK_mk (fun hc => ?_) (fun hc => ?_) <;> (try simp only [go_sem, hb]) <;> (try simp at hc) <;> (try (exfalso; omega))) | ((first | refine pw_seq (pw_cond rfl (fun hc => ?_) (fun hc => ?_)) | refine pw_cond rfl (fun hc => ?_) (fun hc => ?_)) <;> (try simp at hc) <;> (try (exfalso; omega))) | with_reducible refine And.intro (by first | omega | (unfold inI; omega) | exact andI_inI _) ?_)
      all_goals first
        | (exfalso; omega)
        | (refine retQ_ret rfl (by simp only [retL, ret1, hget, lk, List.length_map, List.length_nil, List.length_append, List.length_take, if_true, if_false, Nat.reduceEqDiff, Nat.reduceBEq, Bool.false_eq_true, Option.some.injEq]; rfl) (by simp [rowsOf, lk]) ?_; rw [hans]; rfl)
  · have hb := bP_false hv
    have hans : ansQualifiedFor xs0 a1 = none := optP_neg fun h => hv h.1
    repeat' (first | ((with_reducible first | refine execL_step (fun K' hK' => ?_)); (first | with_reducible refine s_none rfl ?_ | refine s_some2 rfl ?_); simp only [go_sem, hb]) | (with_reducible refine hK' _ ?_; clear hK' K') | (with_reducible refine hK _ ?_; clear hK K; try simp only [go_sem, hb]) | with_reducible (first | refine stp ?_ | refine pw_seq_opsK kl40 G_ok (fun K hK => ?_) | refine pw_ops G_ok (fun K hK => ?_)) | ((with_reducible first | apply CallK.eq); (focus (with_reducible first | exact rkGood_ok xs0 hl0 hk0)); (focus (first | exact rfl | (simp [RV.flat, D.sc, datI]; done))); try simp only [go_sem, hb]) | refine inBlockA_other (by decide) ?_ | (with_reducible refine pK_mk (fun hc => ?_) (fun hc => ?_) <;> (try simp only [go_sem, hb]) <;> (try simp at hc) <;> (try (exfalso; omega))) | ((first | refine pw_seq (pw_cond rfl (fun hc => ?_) (fun hc => ?_)) | refine pw_cond rfl (fun hc => ?_) (fun hc => ?_)) <;> (try simp at hc) <;> (try (exfalso; omega))) | with_reducible refine And.intro (by first | omega | (unfold inI; omega) | exact andI_inI _) ?_)
    all_goals (refine retQ_ret rfl (by simp only [retL, ret1, hget, lk, List.length_map, List.length_nil, List.length_append, List.length_take, if_true, if_false, Nat.reduceEqDiff, Nat.reduceBEq, Bool.false_eq_true, Option.some.injEq]; rfl) (by simp [rowsOf, lk]) ?_; rw [hans]; rfl)
end Go.Proofs.Ythkkpiodligmiaa
