/-
  Rows of results that the call makes; marks held in results.
-/
import Derived.Test.YtnhkekjkniobpaaRsT
namespace Go.Proofs.Ytnhkekjkniobpaa
open Go.RowKit

/-- the row of the first k: it owns its parts once there is one -/
def ownB (l : List ResultD) (k : Nat) : Blk := if k = 0 then .row 28 2 [] else .deep 0 28 2 ((l.take k).map ResultD.dat)
theorem ownB_zero (l : List ResultD) : ownB l 0 = .row 28 2 [] := rfl
theorem ownB_pos {l : List ResultD} {k : Nat} (h : 0 < k) : ownB l k = .deep 0 28 2 ((l.take k).map ResultD.dat) := by unfold ownB; rw [if_neg (by omega)]
theorem ownB_ren (σ : List (Nat × Nat)) (l : List ResultD) (k : Nat) : renB σ (ownB l k) = ownB l k := by unfold ownB; split <;> rfl
theorem ownB_bd (nx : Nat) (l : List ResultD) (k : Nat) : bdB nx (ownB l k) = true := by unfold ownB; split <;> rfl
theorem ownB_z {l : List ResultD} {k : Nat} (h : k = 0) : ownB l k = .row 28 2 [] := by unfold ownB; rw [if_pos h]
theorem mkR_get {q : Int} {l : List ResultD} {k : Nat} {x : ResultD} (hx : l[k]? = some x) : (mkR q l)[k]? = some ⟨mkRAt q l k, mkI (mkRAt q l k + 1) x.scores.length⟩ := by
  have hk := (List.getElem?_eq_some_iff.1 hx).1
  have h1 : (mkR q l)[k]? = (mkR q (l.take (k + 1)))[k]? := by
    conv => lhs; rw [← List.take_append_drop (k + 1) l, mkR_append]
    rw [List.getElem?_append_left (by rw [mkR_len, List.length_take]; omega)]
  rw [h1, mkR_snoc hx, List.getElem?_append_right (by rw [mkR_len, List.length_take]; omega), mkR_len, List.length_take, Nat.min_eq_left (by omega), Nat.sub_self]
  rfl
set_option linter.unusedSimpArgs false in set_option linter.unusedVariables false in set_option maxHeartbeats 2000000 in set_option maxRecDepth 100000 in
theorem heldResultS_ok (q : Int) (l : List ResultD) (hk : 0 ≤ q) (hb : q + (l.length : Int) + (cntR l : Int) ≤ 1099511627776) : FnEq Try.prog 43 [.d (.lst 2 ((mkR q l).map ResultD.dat)), .d (.int .i64 q)] [.d (.int .i64 (q + (l.length : Int) + (cntR l : Int)))] := by
  refine fn_ok G_ok Try.func43 rfl rfl ?_; simp only [Try.ntmps43, List.length_cons, List.length_nil, Nat.reduceAdd, Nat.reduceSub, enm]
  have hl := mkR_len q l
  repeat' (first | (with_reducible refine execL_step (fun K' hK' => ?_); (first | with_reducible refine s_none rfl ?_ | refine s_some2 rfl ?_); simp only [go_sem, Nat.reduceEqDiff, Nat.reduceLT, Nat.reduceAdd, Nat.reduceSub, Nat.reduceMul, Nat.reduceLeDiff]) | (with_reducible refine hK' _ ?_; clear hK' K') | with_reducible refine execL_nil ?_ | (with_reducible refine hK _ ?_; clear hK K; try simp only [go_sem, Nat.reduceEqDiff, Nat.reduceLT, Nat.reduceAdd, Nat.reduceSub, Nat.reduceMul, Nat.reduceLeDiff]) | with_reducible refine pw_seq_opsK kl43 G_ok (fun K hK => ?_) | with_reducible refine pw_seq (x := .seq _ _) ?_ | with_reducible refine thenA_normal ?_ | with_reducible refine thenA_exit ?_ | with_reducible refine thenA_ret ?_ | with_reducible refine inBlockA_same ?_ | with_reducible refine inBlockA_ret ?_ | with_reducible refine inBlockA_normal ?_ | with_reducible refine pw_seq (pw_block ?_) | with_reducible refine pw_seq (pw_skip (thenA_normal ?_)) | with_reducible refine pw_skip ?_ | with_reducible refine pw_exit ?_ | with_reducible refine pw_ret ?_ | with_reducible refine pw_ops G_ok (fun K hK => ?_) | with_reducible refine pw_block ?_ | (with_reducible refine pK_mk (fun hc => ?_) (fun hc => ?_) <;> (try simp only [go_sem, Nat.reduceEqDiff, Nat.reduceLT, Nat.reduceAdd, Nat.reduceSub, Nat.reduceMul, Nat.reduceLeDiff]) <;> (try simp at hc) <;> (try (exfalso; omega))) | (refine pw_seq (pw_cond rfl (fun hc => ?_) (fun hc => ?_)) <;> (try simp at hc) <;> (try (exfalso; omega))) | (refine pw_cond rfl (fun hc => ?_) (fun hc => ?_) <;> (try simp at hc) <;> (try (exfalso; omega))) | with_reducible refine And.intro (by first | omega | (unfold inI; omega)) ?_)
  refine pw_loop_over [1, 4, 5, 6, 7, 8, 9, 10, 11, 12, 13, 14, 15, 16, 17, 18, 19, 20, 21, 22, 23, 24, 25, 26, 27, 28, 29] (fun k : Nat => [(5, .d (.int .i64 (k : Int))), (1, .d (.int .i64 (mkRAt q l k)))]) (fun k : Nat => []) 0 (fun k : Nat => k ≤ l.length) (fun k : Nat => l.length - k) 0 (Nat.zero_le _) (fits_mk [] (by simp [sg, over, wipe, wl, memN, ins, rm, lk, fitFr, fit1, ren, renL, bd, bdL, app, fitHp, hget, renB, bdB, hl, mkRAt_zero] <;> omega)) ?_
  intro k hkl
  have hct := cntR_take l k
  have hat : mkRAt q l k = q + (k : Int) + (cntR (l.take k) : Int) := rfl
  simp only [over, wipe, wl, memN, ins, rm, if_true, if_false, Nat.reduceEqDiff, Bool.false_eq_true, reduceCtorEq]
  by_cases hlt : k < l.length
  · have hx := List.getElem?_eq_getElem hlt
    generalize l[k] = x at hx
    have hct1 := cntR_take l (k + 1)
    rw [cntR_succ hx] at hct1
    have hg := mkR_get (q := q) hx
    have hm := mkI_len (mkRAt q l k + 1) x.scores.length
    have hsu := mkRAt_succ (q := q) hx
    repeat' (first | (with_reducible refine execL_step (fun K' hK' => ?_); (first | with_reducible refine s_none rfl ?_ | refine s_some2 rfl ?_); simp only [go_sem, Nat.reduceEqDiff, Nat.reduceLT, Nat.reduceAdd, Nat.reduceSub, Nat.reduceMul, Nat.reduceLeDiff, hl, List.getElem?_map, hg, Option.map_some, ResultD.dat]) | (with_reducible refine hK' _ ?_; clear hK' K') | with_reducible refine execL_nil ?_ | (with_reducible refine hK _ ?_; clear hK K; try simp only [go_sem, Nat.reduceEqDiff, Nat.reduceLT, Nat.reduceAdd, Nat.reduceSub, Nat.reduceMul, Nat.reduceLeDiff, hl, List.getElem?_map, hg, Option.map_some, ResultD.dat]) | with_reducible refine pw_seq_opsK kl43 G_ok (fun K hK => ?_) | (with_reducible refine CallK.eq (heldIntS_ok (mkRAt q l k + 1) x.scores.length (by omega) (by omega)) ?_ ?_; (focus (simp [RV.flat, D.sc, datI]; done)); try simp only [go_sem, Nat.reduceEqDiff, Nat.reduceLT, Nat.reduceAdd, Nat.reduceSub, Nat.reduceMul, Nat.reduceLeDiff, hl, List.getElem?_map, hg, Option.map_some, ResultD.dat]) | with_reducible refine pw_seq (x := .seq _ _) ?_ | with_reducible refine thenA_normal ?_ | with_reducible refine thenA_exit ?_ | with_reducible refine thenA_ret ?_ | with_reducible refine inBlockA_same ?_ | with_reducible refine inBlockA_ret ?_ | with_reducible refine inBlockA_normal ?_ | with_reducible refine pw_seq (pw_block ?_) | with_reducible refine pw_seq (pw_skip (thenA_normal ?_)) | with_reducible refine pw_skip ?_ | with_reducible refine pw_exit ?_ | with_reducible refine pw_ret ?_ | with_reducible refine pw_ops G_ok (fun K hK => ?_) | with_reducible refine pw_block ?_ | (with_reducible refine pK_mk (fun hc => ?_) (fun hc => ?_) <;> (try simp only [go_sem, Nat.reduceEqDiff, Nat.reduceLT, Nat.reduceAdd, Nat.reduceSub, Nat.reduceMul, Nat.reduceLeDiff, hl, List.getElem?_map, hg, Option.map_some, ResultD.dat]) <;> (try simp at hc) <;> (try (exfalso; omega))) | (refine pw_seq (pw_cond rfl (fun hc => ?_) (fun hc => ?_)) <;> (try simp at hc) <;> (try (exfalso; omega))) | (refine pw_cond rfl (fun hc => ?_) (fun hc => ?_) <;> (try simp at hc) <;> (try (exfalso; omega))) | with_reducible refine And.intro (by first | omega | (unfold inI; omega)) ?_)
    all_goals first
      | (exfalso; omega)
      | exact ⟨k + 1, by omega, by omega, (fits_mk [] (by simp [sg, over, wipe, wl, memN, ins, rm, lk, fitFr, fit1, ren, renL, bd, bdL, app, fitHp, hget, renB, bdB, hsu] <;> omega))⟩
  · obtain rfl : k = l.length := by omega
    repeat' (first | (with_reducible refine execL_step (fun K' hK' => ?_); (first | with_reducible refine s_none rfl ?_ | refine s_some2 rfl ?_); simp only [go_sem, Nat.reduceEqDiff, Nat.reduceLT, Nat.reduceAdd, Nat.reduceSub, Nat.reduceMul, Nat.reduceLeDiff, hl]) | (with_reducible refine hK' _ ?_; clear hK' K') | with_reducible refine execL_nil ?_ | (with_reducible refine hK _ ?_; clear hK K; try simp only [go_sem, Nat.reduceEqDiff, Nat.reduceLT, Nat.reduceAdd, Nat.reduceSub, Nat.reduceMul, Nat.reduceLeDiff, hl]) | with_reducible refine pw_seq_opsK kl43 G_ok (fun K hK => ?_) | with_reducible refine pw_seq (x := .seq _ _) ?_ | with_reducible refine thenA_normal ?_ | with_reducible refine thenA_exit ?_ | with_reducible refine thenA_ret ?_ | with_reducible refine inBlockA_same ?_ | with_reducible refine inBlockA_ret ?_ | with_reducible refine inBlockA_normal ?_ | with_reducible refine pw_seq (pw_block ?_) | with_reducible refine pw_seq (pw_skip (thenA_normal ?_)) | with_reducible refine pw_skip ?_ | with_reducible refine pw_exit ?_ | with_reducible refine pw_ret ?_ | with_reducible refine pw_ops G_ok (fun K hK => ?_) | with_reducible refine pw_block ?_ | (with_reducible refine pK_mk (fun hc => ?_) (fun hc => ?_) <;> (try simp only [go_sem, Nat.reduceEqDiff, Nat.reduceLT, Nat.reduceAdd, Nat.reduceSub, Nat.reduceMul, Nat.reduceLeDiff, hl]) <;> (try simp at hc) <;> (try (exfalso; omega))) | (refine pw_seq (pw_cond rfl (fun hc => ?_) (fun hc => ?_)) <;> (try simp at hc) <;> (try (exfalso; omega))) | (refine pw_cond rfl (fun hc => ?_) (fun hc => ?_) <;> (try simp at hc) <;> (try (exfalso; omega))) | with_reducible refine And.intro (by first | omega | (unfold inI; omega)) ?_)
    refine retQ_ret rfl rfl (by simp [rowsOf, lk]) ?_; simp only [mkRAt, List.take_length]
end Go.Proofs.Ytnhkekjkniobpaa
