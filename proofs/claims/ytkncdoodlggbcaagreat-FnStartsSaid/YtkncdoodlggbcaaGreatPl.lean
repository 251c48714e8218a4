/-
  The number of a skater in a starting order: the program's StartNumber and the reference's; further functions of the law FnStarts.
-/
import Derived.Test.YtkncdoodlggbcaaGreatOrd
import Derived.Test.YtkncdoodlggbcaaGreatEb
import Derived.Test.YtkncdoodlggbcaaGreatSt
import Derived.Test.YtkncdoodlggbcaaGreatGx
set_option linter.unusedSimpArgs false
set_option linter.unusedVariables false
set_option maxHeartbeats 2000000
set_option maxRecDepth 100000
namespace Go.Proofs.YtkncdoodlggbcaaGreat
open Go.RowKit

def NumOk (o : List Int) (n : Int) : Prop := OrdOk o ∧ n ∈ o
noncomputable abbrev ansStartNumber (o : List Int) (n : Int) : Option Int := optP (NumOk o n) (ixOf o n + 1)
theorem ixOf_in {o : List Int} {n : Int} (h : n ∈ o) : ixOf o n = (o.idxOf n : Int) := by unfold ixOf; rw [if_pos (bP_true h)]
theorem ixOf_out {o : List Int} {n : Int} (h : n ∉ o) : ixOf o n = -1 := by unfold ixOf; rw [bP_false h]; simp
theorem ixOf_le (o : List Int) (n : Int) : -1 ≤ ixOf o n ∧ ixOf o n ≤ o.length := by
  by_cases h : n ∈ o
  · rw [ixOf_in h]; have := List.idxOf_le_length (l := o) (a := n); omega
  · rw [ixOf_out h]; omega
theorem soPlace_ok (xs : List Int) (n : Int) (hn : xs.length ≤ 16777216) : FnEq Tryz.prog 51 [.d (.lst 1 (xs.map datI)), .d (.int .i64 n)] [.d (.int .i64 (ixOf xs n))] := by
  refine fn_ok G_ok Tryz.func51 rfl rfl ?_; simp only [Tryz.ntmps51, List.length_cons, List.length_nil, Nat.reduceAdd, Nat.reduceSub, enm]
  repeat' (first | (with_reducible refine execL_step (fun K' hK' => ?_); (first | with_reducible refine s_none rfl ?_ | refine s_some2 rfl ?_); simp only [go_sem]) | (with_reducible refine hK' _ ?_; clear hK' K') | with_reducible refine execL_nil ?_ | (with_reducible refine hK _ ?_; clear hK K; try simp only [go_sem]) | with_reducible refine pw_seq_opsK kl51 G_ok (fun K hK => ?_) | with_reducible (first | refine pw_seq (x := .seq _ _) ?_ | refine thenA_normal ?_ | refine thenA_exit ?_ | refine thenA_ret ?_ | refine inBlockA_same ?_ | refine inBlockA_ret ?_ | refine inBlockA_normal ?_) | refine inBlockA_other (by decide) ?_ | with_reducible (first | refine pw_seq (pw_block ?_) | refine pw_seq (pw_skip (thenA_normal ?_)) | refine pw_skip ?_ | refine pw_exit ?_ | refine pw_ret ?_ | refine pw_ops G_ok (fun K hK => ?_)) | with_reducible refine pw_block ?_ | (with_reducible refine pK_mk (fun hc => ?_) (fun hc => ?_) <;> (try simp only [go_sem]) <;> (try simp at hc) <;> (try (exfalso; omega))) | ((first | refine pw_seq (pw_cond rfl (fun hc => ?_) (fun hc => ?_)) | refine pw_cond rfl (fun hc => ?_) (fun hc => ?_)) <;> (try simp at hc) <;> (try (exfalso; omega))) | with_reducible refine And.intro (by first | omega | (unfold inI; omega) | exact andI_inI _) ?_)
  refine pw_loop_over [4, 5, 6, 9, 10, 11, 12, 13, 14, 15, 16, 17, 18] (fun k : Nat => [(9, .d (.int .i64 (k : Int)))]) (fun k : Nat => []) 0 (fun k : Nat => k ≤ xs.length ∧ n ∉ xs.take k) (fun k : Nat => xs.length - k) 0 ⟨Nat.zero_le _, by simp⟩ (fits_mk [] (by simp [renL_d, bdL_d, sg, over, wipe, wl, memN, ins, rm, lk, fitFr, fit1, ren, renL, bd, bdL, app, fitHp, hget, renB, bdB] <;> omega)) ?_
  rintro k ⟨hk, hJ⟩
  simp only [over, wipe, wl, memN, ins, rm, if_true, if_false, Nat.reduceEqDiff, Bool.false_eq_true, reduceCtorEq]
  by_cases hlt : k < xs.length
  · have hx := List.getElem?_eq_getElem hlt
    generalize xs[k] = x at hx
    repeat' (first | (with_reducible refine execL_step (fun K' hK' => ?_); (first | with_reducible refine s_none rfl ?_ | refine s_some2 rfl ?_); simp only [go_sem, List.getElem?_map, hx, Option.map_some, datI]) | (with_reducible refine hK' _ ?_; clear hK' K') | with_reducible refine execL_nil ?_ | (with_reducible refine hK _ ?_; clear hK K; try simp only [go_sem, List.getElem?_map, hx, Option.map_some, datI]) | with_reducible refine pw_seq_opsK kl51 G_ok (fun K hK => ?_) | with_reducible (first | refine pw_seq (x := .seq _ _) ?_ | refine thenA_normal ?_ | refine thenA_exit ?_ | refine thenA_ret ?_ | refine inBlockA_same ?_ | refine inBlockA_ret ?_ | refine inBlockA_normal ?_) | refine inBlockA_other (by decide) ?_ | with_reducible (first | refine pw_seq (pw_block ?_) | refine pw_seq (pw_skip (thenA_normal ?_)) | refine pw_skip ?_ | refine pw_exit ?_ | refine pw_ret ?_ | refine pw_ops G_ok (fun K hK => ?_)) | with_reducible refine pw_block ?_ | (with_reducible refine pK_mk (fun hc => ?_) (fun hc => ?_) <;> (try simp only [go_sem, List.getElem?_map, hx, Option.map_some, datI]) <;> (try simp at hc) <;> (try (exfalso; omega))) | ((first | refine pw_seq (pw_cond rfl (fun hc => ?_) (fun hc => ?_)) | refine pw_cond rfl (fun hc => ?_) (fun hc => ?_)) <;> (try simp at hc) <;> (try (exfalso; omega))) | with_reducible refine And.intro (by first | omega | (unfold inI; omega) | exact andI_inI _) ?_)
    · refine retQ_ret rfl rfl (by simp [rowsOf, lk]) ?_; subst hc; rw [show ixOf xs x = (k : Int) by unfold ixOf; rw [if_pos (bP_true (List.mem_of_getElem? hx)), idxOf_at hx hJ]]
    · exact ⟨k + 1, ⟨by omega, by rw [take_snoc hx]; simp [hJ]; exact fun h => hc h.symm⟩, by omega, (fits_mk [] (by simp [renL_d, bdL_d, sg, over, wipe, wl, memN, ins, rm, lk, fitFr, fit1, ren, renL, bd, bdL, app, fitHp, hget, renB, bdB] <;> omega))⟩
  · rw [List.take_of_length_le (by omega)] at hJ
    repeat' (first | (with_reducible refine execL_step (fun K' hK' => ?_); (first | with_reducible refine s_none rfl ?_ | refine s_some2 rfl ?_); simp only [go_sem]) | (with_reducible refine hK' _ ?_; clear hK' K') | with_reducible refine execL_nil ?_ | (with_reducible refine hK _ ?_; clear hK K; try simp only [go_sem]) | with_reducible refine pw_seq_opsK kl51 G_ok (fun K hK => ?_) | with_reducible (first | refine pw_seq (x := .seq _ _) ?_ | refine thenA_normal ?_ | refine thenA_exit ?_ | refine thenA_ret ?_ | refine inBlockA_same ?_ | refine inBlockA_ret ?_ | refine inBlockA_normal ?_) | refine inBlockA_other (by decide) ?_ | with_reducible (first | refine pw_seq (pw_block ?_) | refine pw_seq (pw_skip (thenA_normal ?_)) | refine pw_skip ?_ | refine pw_exit ?_ | refine pw_ret ?_ | refine pw_ops G_ok (fun K hK => ?_)) | with_reducible refine pw_block ?_ | (with_reducible refine pK_mk (fun hc => ?_) (fun hc => ?_) <;> (try simp only [go_sem]) <;> (try simp at hc) <;> (try (exfalso; omega))) | ((first | refine pw_seq (pw_cond rfl (fun hc => ?_) (fun hc => ?_)) | refine pw_cond rfl (fun hc => ?_) (fun hc => ?_)) <;> (try simp at hc) <;> (try (exfalso; omega))) | with_reducible refine And.intro (by first | omega | (unfold inI; omega) | exact andI_inI _) ?_)
    refine retQ_ret rfl rfl (by simp [rowsOf, lk]) ?_; rw [ixOf_out hJ]
theorem spec_StartNumber_ok (o : List Int) (n : Int) (ho : o.length ≤ 1048576) : FnEq Tryz.prog 22 [.d (.lst 1 (o.map datI)), .d (.int .i64 n)] [.d (.int .i64 ((ansStartNumber o n).getD 0)), .d (.bool (ansStartNumber o n).isSome)] := by
  refine fn_ok G_ok Tryz.func22 rfl rfl ?_; simp only [Tryz.ntmps22, List.length_cons, List.length_nil, Nat.reduceAdd, Nat.reduceSub, enm]
  have hb := ixOf_le o n
  by_cases hO : OrdOk o
  · have hO1 := bP_true hO
    by_cases hi : n ∈ o
    · have hx : ¬ ixOf o n < 0 := by rw [ixOf_in hi]; omega
      have hans : ansStartNumber o n = some (ixOf o n + 1) := optP_pos ⟨hO, hi⟩
      repeat' (first | (with_reducible refine execL_step (fun K' hK' => ?_); (first | with_reducible refine s_none rfl ?_ | refine s_some2 rfl ?_); simp only [go_sem, hO1, hx]) | (with_reducible refine hK' _ ?_; clear hK' K') | with_reducible refine execL_nil ?_ | (with_reducible refine hK _ ?_; clear hK K; try simp only [go_sem, hO1, hx]) | with_reducible refine pw_seq_opsK kl22 G_ok (fun K hK => ?_) | (with_reducible refine CallK.eq (soOrder_ok o ho) ?_ ?_; (focus (simp [RV.flat, D.sc, datI]; done)); try simp only [go_sem, hO1, hx]) | (with_reducible refine CallK.eq (soPlace_ok o n (by omega)) ?_ ?_; (focus (simp [RV.flat, D.sc, datI]; done)); try simp only [go_sem, hO1, hx]) | with_reducible (first | refine pw_seq (x := .seq _ _) ?_ | refine thenA_normal ?_ | refine thenA_exit ?_ | refine thenA_ret ?_ | refine inBlockA_same ?_ | refine inBlockA_ret ?_ | refine inBlockA_normal ?_) | refine inBlockA_other (by decide) ?_ | with_reducible (first | refine pw_seq (pw_block ?_) | refine pw_seq (pw_skip (thenA_normal ?_)) | refine pw_skip ?_ | refine pw_exit ?_ | refine pw_ret ?_ | refine pw_ops G_ok (fun K hK => ?_)) | with_reducible refine pw_block ?_ | (with_reducible refine pK_mk (fun hc => ?_) (fun hc => ?_) <;> (try simp only [go_sem, hO1, hx]) <;> (try simp at hc) <;> (try (exfalso; omega))) | ((first | refine pw_seq (pw_cond rfl (fun hc => ?_) (fun hc => ?_)) | refine pw_cond rfl (fun hc => ?_) (fun hc => ?_)) <;> (try simp at hc) <;> (try (exfalso; omega))) | with_reducible refine And.intro (by first | omega | (unfold inI; omega) | exact andI_inI _) ?_)
      refine retQ_ret rfl rfl (by simp [rowsOf, lk]) ?_; rw [hans]; rfl
    · have hx : ixOf o n < 0 := by rw [ixOf_out hi]; omega
      have hans : ansStartNumber o n = none := optP_neg fun h => hi h.2
      repeat' (first | (with_reducible refine execL_step (fun K' hK' => ?_); (first | with_reducible refine s_none rfl ?_ | refine s_some2 rfl ?_); simp only [go_sem, hO1, hx]) | (with_reducible refine hK' _ ?_; clear hK' K') | with_reducible refine execL_nil ?_ | (with_reducible refine hK _ ?_; clear hK K; try simp only [go_sem, hO1, hx]) | with_reducible refine pw_seq_opsK kl22 G_ok (fun K hK => ?_) | (with_reducible refine CallK.eq (soOrder_ok o ho) ?_ ?_; (focus (simp [RV.flat, D.sc, datI]; done)); try simp only [go_sem, hO1, hx]) | (with_reducible refine CallK.eq (soPlace_ok o n (by omega)) ?_ ?_; (focus (simp [RV.flat, D.sc, datI]; done)); try simp only [go_sem, hO1, hx]) | with_reducible (first | refine pw_seq (x := .seq _ _) ?_ | refine thenA_normal ?_ | refine thenA_exit ?_ | refine thenA_ret ?_ | refine inBlockA_same ?_ | refine inBlockA_ret ?_ | refine inBlockA_normal ?_) | refine inBlockA_other (by decide) ?_ | with_reducible (first | refine pw_seq (pw_block ?_) | refine pw_seq (pw_skip (thenA_normal ?_)) | refine pw_skip ?_ | refine pw_exit ?_ | refine pw_ret ?_ | refine pw_ops G_ok (fun K hK => ?_)) | with_reducible refine pw_block ?_ | (with_reducible refine pK_mk (fun hc => ?_) (fun hc => ?_) <;> (try simp only [go_sem, hO1, hx]) <;> (try simp at hc) <;> (try (exfalso; omega))) | ((first | refine pw_seq (pw_cond rfl (fun hc => ?_) (fun hc => ?_)) | refine pw_cond rfl (fun hc => ?_) (fun hc => ?_)) <;> (try simp at hc) <;> (try (exfalso; omega))) | with_reducible refine And.intro (by first | omega | (unfold inI; omega) | exact andI_inI _) ?_)
      refine retQ_ret rfl rfl (by simp [rowsOf, lk]) ?_; rw [hans]; rfl
  · have hO1 := bP_false hO
    have hans : ansStartNumber o n = none := optP_neg fun h => hO h.1
    repeat' (first | (with_reducible refine execL_step (fun K' hK' => ?_); (first | with_reducible refine s_none rfl ?_ | refine s_some2 rfl ?_); simp only [go_sem, hO1]) | (with_reducible refine hK' _ ?_; clear hK' K') | with_reducible refine execL_nil ?_ | (with_reducible refine hK _ ?_; clear hK K; try simp only [go_sem, hO1]) | with_reducible refine pw_seq_opsK kl22 G_ok (fun K hK => ?_) | (with_reducible refine CallK.eq (soOrder_ok o ho) ?_ ?_; (focus (simp [RV.flat, D.sc, datI]; done)); try simp only [go_sem, hO1]) | with_reducible (first | refine pw_seq (x := .seq _ _) ?_ | refine thenA_normal ?_ | refine thenA_exit ?_ | refine thenA_ret ?_ | refine inBlockA_same ?_ | refine inBlockA_ret ?_ | refine inBlockA_normal ?_) | refine inBlockA_other (by decide) ?_ | with_reducible (first | refine pw_seq (pw_block ?_) | refine pw_seq (pw_skip (thenA_normal ?_)) | refine pw_skip ?_ | refine pw_exit ?_ | refine pw_ret ?_ | refine pw_ops G_ok (fun K hK => ?_)) | with_reducible refine pw_block ?_ | (with_reducible refine pK_mk (fun hc => ?_) (fun hc => ?_) <;> (try simp only [go_sem, hO1]) <;> (try simp at hc) <;> (try (exfalso; omega))) | ((first | refine pw_seq (pw_cond rfl (fun hc => ?_) (fun hc => ?_)) | refine pw_cond rfl (fun hc => ?_) (fun hc => ?_)) <;> (try simp at hc) <;> (try (exfalso; omega))) | with_reducible refine And.intro (by first | omega | (unfold inI; omega) | exact andI_inI _) ?_)
    refine retQ_ret rfl rfl (by simp [rowsOf, lk]) ?_; rw [hans]; rfl
theorem impl_StartNumber_ok (o : List Int) (n : Int) (ho : o.length ≤ 1048576) : FnEq Tryz.prog 15 [.d (.lst 1 (o.map datI)), .d (.int .i64 n)] [.d (.int .i64 ((ansStartNumber o n).getD 0)), .d (.bool (ansStartNumber o n).isSome)] := by
  refine fn_ok G_ok Tryz.func15 rfl rfl ?_; simp only [Tryz.ntmps15, List.length_cons, List.length_nil, Nat.reduceAdd, Nat.reduceSub, enm]
  have hb := ixOf_le o n
  by_cases hO : OrdOk o
  · have hO1 := bP_true hO
    by_cases hi : n ∈ o
    · have hx := bP_true hi
      have hans : ansStartNumber o n = some (ixOf o n + 1) := optP_pos ⟨hO, hi⟩
      repeat' (first | (with_reducible refine execL_step (fun K' hK' => ?_); (first | with_reducible refine s_none rfl ?_ | refine s_some2 rfl ?_); simp only [go_sem, hO1, hx]) | (with_reducible refine hK' _ ?_; clear hK' K') | with_reducible refine execL_nil ?_ | (with_reducible refine hK _ ?_; clear hK K; try simp only [go_sem, hO1, hx]) | with_reducible refine pw_seq_opsK kl15 G_ok (fun K hK => ?_) | (with_reducible refine CallK.eq (isOrder_ok o ho) ?_ ?_; (focus (simp [RV.flat, D.sc, datI]; done)); try simp only [go_sem, hO1, hx]) | (with_reducible refine CallK.eq (contains_ok o n (by omega)) ?_ ?_; (focus (simp [RV.flat, D.sc, datI]; done)); try simp only [go_sem, hO1, hx]) | (with_reducible refine CallK.eq (index_ok o n (by omega)) ?_ ?_; (focus (simp [RV.flat, D.sc, datI]; done)); try simp only [go_sem, hO1, hx]) | with_reducible (first | refine pw_seq (x := .seq _ _) ?_ | refine thenA_normal ?_ | refine thenA_exit ?_ | refine thenA_ret ?_ | refine inBlockA_same ?_ | refine inBlockA_ret ?_ | refine inBlockA_normal ?_) | refine inBlockA_other (by decide) ?_ | with_reducible (first | refine pw_seq (pw_block ?_) | refine pw_seq (pw_skip (thenA_normal ?_)) | refine pw_skip ?_ | refine pw_exit ?_ | refine pw_ret ?_ | refine pw_ops G_ok (fun K hK => ?_)) | with_reducible refine pw_block ?_ | (with_reducible refine pK_mk (fun hc => ?_) (fun hc => ?_) <;> (try simp only [go_sem, hO1, hx]) <;> (try simp at hc) <;> (try (exfalso; omega))) | ((first | refine pw_seq (pw_cond rfl (fun hc => ?_) (fun hc => ?_)) | refine pw_cond rfl (fun hc => ?_) (fun hc => ?_)) <;> (try simp at hc) <;> (try (exfalso; omega))) | with_reducible refine And.intro (by first | omega | (unfold inI; omega) | exact andI_inI _) ?_)
      refine retQ_ret rfl rfl (by simp [rowsOf, lk]) ?_; rw [hans]; rfl
    · have hx := bP_false hi
      have hans : ansStartNumber o n = none := optP_neg fun h => hi h.2
      repeat' (first | (with_reducible refine execL_step (fun K' hK' => ?_); (first | with_reducible refine s_none rfl ?_ | refine s_some2 rfl ?_); simp only [go_sem, hO1, hx]) | (with_reducible refine hK' _ ?_; clear hK' K') | with_reducible refine execL_nil ?_ | (with_reducible refine hK _ ?_; clear hK K; try simp only [go_sem, hO1, hx]) | with_reducible refine pw_seq_opsK kl15 G_ok (fun K hK => ?_) | (with_reducible refine CallK.eq (isOrder_ok o ho) ?_ ?_; (focus (simp [RV.flat, D.sc, datI]; done)); try simp only [go_sem, hO1, hx]) | (with_reducible refine CallK.eq (contains_ok o n (by omega)) ?_ ?_; (focus (simp [RV.flat, D.sc, datI]; done)); try simp only [go_sem, hO1, hx]) | with_reducible (first | refine pw_seq (x := .seq _ _) ?_ | refine thenA_normal ?_ | refine thenA_exit ?_ | refine thenA_ret ?_ | refine inBlockA_same ?_ | refine inBlockA_ret ?_ | refine inBlockA_normal ?_) | refine inBlockA_other (by decide) ?_ | with_reducible (first | refine pw_seq (pw_block ?_) | refine pw_seq (pw_skip (thenA_normal ?_)) | refine pw_skip ?_ | refine pw_exit ?_ | refine pw_ret ?_ | refine pw_ops G_ok (fun K hK => ?_)) | with_reducible refine pw_block ?_ | (with_reducible refine pK_mk (fun hc => ?_) (fun hc => ?_) <;> (try simp only [go_sem, hO1, hx]) <;> (try simp at hc) <;> (try (exfalso; omega))) | ((first | refine pw_seq (pw_cond rfl (fun hc => ?_) (fun hc => ?_)) | refine pw_cond rfl (fun hc => ?_) (fun hc => ?_)) <;> (try simp at hc) <;> (try (exfalso; omega))) | with_reducible refine And.intro (by first | omega | (unfold inI; omega) | exact andI_inI _) ?_)
      refine retQ_ret rfl rfl (by simp [rowsOf, lk]) ?_; rw [hans]; rfl
  · have hO1 := bP_false hO
    have hans : ansStartNumber o n = none := optP_neg fun h => hO h.1
    repeat' (first | (with_reducible refine execL_step (fun K' hK' => ?_); (first | with_reducible refine s_none rfl ?_ | refine s_some2 rfl ?_); simp only [go_sem, hO1]) | (with_reducible refine hK' _ ?_; clear hK' K') | with_reducible refine execL_nil ?_ | (with_reducible refine hK _ ?_; clear hK K; try simp only [go_sem, hO1]) | with_reducible refine pw_seq_opsK kl15 G_ok (fun K hK => ?_) | (with_reducible refine CallK.eq (isOrder_ok o ho) ?_ ?_; (focus (simp [RV.flat, D.sc, datI]; done)); try simp only [go_sem, hO1]) | with_reducible (first | refine pw_seq (x := .seq _ _) ?_ | refine thenA_normal ?_ | refine thenA_exit ?_ | refine thenA_ret ?_ | refine inBlockA_same ?_ | refine inBlockA_ret ?_ | refine inBlockA_normal ?_) | refine inBlockA_other (by decide) ?_ | with_reducible (first | refine pw_seq (pw_block ?_) | refine pw_seq (pw_skip (thenA_normal ?_)) | refine pw_skip ?_ | refine pw_exit ?_ | refine pw_ret ?_ | refine pw_ops G_ok (fun K hK => ?_)) | with_reducible refine pw_block ?_ | (with_reducible refine pK_mk (fun hc => ?_) (fun hc => ?_) <;> (try simp only [go_sem, hO1]) <;> (try simp at hc) <;> (try (exfalso; omega))) | ((first | refine pw_seq (pw_cond rfl (fun hc => ?_) (fun hc => ?_)) | refine pw_cond rfl (fun hc => ?_) (fun hc => ?_)) <;> (try simp at hc) <;> (try (exfalso; omega))) | with_reducible refine And.intro (by first | omega | (unfold inI; omega) | exact andI_inI _) ?_)
    refine retQ_ret rfl rfl (by simp [rowsOf, lk]) ?_; rw [hans]; rfl
theorem spec_AreEntrants_ok (l : List EntrantD) (hn : l.length ≤ 1048576) : FnEq Tryz.prog 13 [.d (.lst 2 (l.map EntrantD.dat))] [.d (.bool (bP (EntsOk l)))] := by
  refine fn_ok G_ok Tryz.func13 rfl rfl ?_; simp only [Tryz.ntmps13, List.length_cons, List.length_nil, Nat.reduceAdd, Nat.reduceSub, enm]
  repeat' (first | (with_reducible refine execL_step (fun K' hK' => ?_); (first | with_reducible refine s_none rfl ?_ | refine s_some2 rfl ?_); simp only [go_sem]) | (with_reducible refine hK' _ ?_; clear hK' K') | with_reducible refine execL_nil ?_ | (with_reducible refine hK _ ?_; clear hK K; try simp only [go_sem]) | with_reducible refine pw_seq_opsK kl13 G_ok (fun K hK => ?_) | (with_reducible refine CallK.eq (soEntrants_ok l hn) ?_ ?_; (focus (simp [RV.flat, D.sc, datI]; done)); try simp only [go_sem]) | with_reducible (first | refine pw_seq (x := .seq _ _) ?_ | refine thenA_normal ?_ | refine thenA_exit ?_ | refine thenA_ret ?_ | refine inBlockA_same ?_ | refine inBlockA_ret ?_ | refine inBlockA_normal ?_) | refine inBlockA_other (by decide) ?_ | with_reducible (first | refine pw_seq (pw_block ?_) | refine pw_seq (pw_skip (thenA_normal ?_)) | refine pw_skip ?_ | refine pw_exit ?_ | refine pw_ret ?_ | refine pw_ops G_ok (fun K hK => ?_)) | with_reducible refine pw_block ?_ | (with_reducible refine pK_mk (fun hc => ?_) (fun hc => ?_) <;> (try simp only [go_sem]) <;> (try simp at hc) <;> (try (exfalso; omega))) | ((first | refine pw_seq (pw_cond rfl (fun hc => ?_) (fun hc => ?_)) | refine pw_cond rfl (fun hc => ?_) (fun hc => ?_)) <;> (try simp at hc) <;> (try (exfalso; omega))) | with_reducible refine And.intro (by first | omega | (unfold inI; omega) | exact andI_inI _) ?_)
  refine retQ_ret rfl rfl (by simp [rowsOf, lk]) ?_; rfl
theorem l1Most_ok (a b : Int) : FnEq Tryz.prog 45 [.d (.int .i64 a), .d (.int .i64 b)] [.d (.int .i64 (max a b))] := by
  refine fn_ok G_ok Tryz.func45 rfl rfl ?_; simp only [Tryz.ntmps45, List.length_cons, List.length_nil, Nat.reduceAdd, Nat.reduceSub, enm]
  repeat' (first | (with_reducible refine execL_step (fun K' hK' => ?_); (first | with_reducible refine s_none rfl ?_ | refine s_some2 rfl ?_); simp only [go_sem]) | (with_reducible refine hK' _ ?_; clear hK' K') | with_reducible refine execL_nil ?_ | (with_reducible refine hK _ ?_; clear hK K; try simp only [go_sem]) | with_reducible refine pw_seq_opsK kl45 G_ok (fun K hK => ?_) | with_reducible (first | refine pw_seq (x := .seq _ _) ?_ | refine thenA_normal ?_ | refine thenA_exit ?_ | refine thenA_ret ?_ | refine inBlockA_same ?_ | refine inBlockA_ret ?_ | refine inBlockA_normal ?_) | refine inBlockA_other (by decide) ?_ | with_reducible (first | refine pw_seq (pw_block ?_) | refine pw_seq (pw_skip (thenA_normal ?_)) | refine pw_skip ?_ | refine pw_exit ?_ | refine pw_ret ?_ | refine pw_ops G_ok (fun K hK => ?_)) | with_reducible refine pw_block ?_ | (with_reducible refine pK_mk (fun hc => ?_) (fun hc => ?_) <;> (try simp only [go_sem]) <;> (try simp at hc) <;> (try (exfalso; omega))) | ((first | refine pw_seq (pw_cond rfl (fun hc => ?_) (fun hc => ?_)) | refine pw_cond rfl (fun hc => ?_) (fun hc => ?_)) <;> (try simp at hc) <;> (try (exfalso; omega))) | with_reducible refine And.intro (by first | omega | (unfold inI; omega) | exact andI_inI _) ?_)
  · refine retQ_ret rfl rfl (by simp [rowsOf, lk]) ?_; rw [Int.max_eq_left (by omega)]
  · refine retQ_ret rfl rfl (by simp [rowsOf, lk]) ?_; rw [Int.max_eq_right (by omega)]
end Go.Proofs.YtkncdoodlggbcaaGreat
namespace Go.Proofs.YtkncdoodlggbcaaGreat
open Go.RowKit Go.Sort

theorem ordOk_of {o : List Int} (h1 : o.length ≤ 40) (h2 : ∀ x ∈ o, 1 ≤ x ∧ x ≤ 999) (h3 : o.Pairwise (· ≠ ·)) : OrdOk o := by
  refine ⟨h1, fun j x hj hx => ?_⟩
  have hm := h2 x (List.mem_of_getElem? hx)
  refine ⟨hm.1, hm.2, fun h => ?_⟩
  obtain ⟨i, hi⟩ := List.getElem?_of_mem h
  rw [List.getElem?_take] at hi
  split at hi
  · rename_i hij
    obtain ⟨h4, h5⟩ := List.getElem?_eq_some_iff.1 hi
    obtain ⟨h6, h7⟩ := List.getElem?_eq_some_iff.1 hx
    exact List.pairwise_iff_getElem.1 h3 i j h4 h6 hij (h5.trans h7.symm)
  · cases hi
theorem OrdOk.rng {o : List Int} (h : OrdOk o) : ∀ x ∈ o, 1 ≤ x ∧ x ≤ 999 := by
  intro x hx
  obtain ⟨i, hi⟩ := List.getElem?_of_mem hx
  have := h.2 i x (List.getElem?_eq_some_iff.1 hi).1 hi
  exact ⟨this.1, this.2.1⟩
theorem number_at {o : List Int} {i : Nat} {x : Int} (h : OrdOk o) (hx : o[i]? = some x) : ansStartNumber o x = some ((i : Int) + 1) := by
  have h1 := (h.2 i x (List.getElem?_eq_some_iff.1 hx).1 hx).2.2
  have hm := List.mem_of_getElem? hx
  rw [show ansStartNumber o x = some (ixOf o x + 1) from optP_pos ⟨h, hm⟩, ixOf_in hm, idxOf_at hx h1]
theorem exD_twice {o : List Int} {i j : Nat} (hi : i < o.length) (hj : j < o.length) : exD (exD o i j) i j = o := by
  have ei : o.getD i 0 = o[i] := by simp [List.getD, List.getElem?_eq_getElem hi]
  have ej : o.getD j 0 = o[j] := by simp [List.getD, List.getElem?_eq_getElem hj]
  have hl := exD_len o i j
  apply List.ext_getElem (by rw [exD_len, exD_len])
  intro k h1 h2
  have hx : ∀ (q : List Int) (k : Nat) (hk : k < q.length) (hi : i < q.length) (hj : j < q.length), (exD q i j)[k]'(by rw [exD_len]; exact hk) = if j = k then q[i] else if i = k then q[j] else q[k] := by
    intro q k hk hi hj
    have e1 : q.getD i 0 = q[i] := by simp [List.getD, List.getElem?_eq_getElem hi]
    have e2 : q.getD j 0 = q[j] := by simp [List.getD, List.getElem?_eq_getElem hj]
    simp only [exD, List.getElem_set, e1, e2]
  rw [hx (exD o i j) k (by omega) (by omega) (by omega)]
  split
  · rename_i e; subst e
    rw [hx o i hi hi hj]
    split
    · rename_i e; subst e; rfl
    · rw [if_pos rfl]
  · split
    · rename_i e; subst e
      rw [hx o j hj hi hj, if_pos rfl]
    · rename_i e1 e2
      rw [hx o k h2 hi hj, if_neg e1, if_neg e2]
theorem exchange_back {l : List EntrantD} {s : Int} {o : List Int} {a b : Int} (h : ExOk l s o a b) : ansExchangeStarts l s (exD o (a - 1).toNat (b - 1).toNat) a b = some o := by
  obtain ⟨⟨⟨h1, h2⟩, h3⟩, h4, h5⟩ := h
  obtain ⟨i, j, rfl, rfl, hi, hj, e1, e2⟩ := exat h4
  rw [e1, e2] at h5 ⊢
  have hb := exD_twice hi hj
  have hp := exD_perm hi hj
  have ho : OrdOk (exD o i j) := ordOk_of (by rw [exD_len]; exact h2.1) (fun x hx => h2.rng x (hp.mem_iff.1 hx)) (exD_ne hi hj (ord_ne h2))
  have hx : ExOk l s (exD o i j) ((i : Int) + 1) ((j : Int) + 1) := by
    refine ⟨⟨⟨h1, ho⟩, h5⟩, ?_, ?_⟩
    · unfold ExAt at h4 ⊢; rw [exD_len]; exact h4
    · rw [e1, e2, hb]; exact h3
  rw [show ansExchangeStarts l s (exD o i j) ((i : Int) + 1) ((j : Int) + 1) = some _ from optP_pos hx, e1, e2, hb]
theorem upI_pick (g : List Int) : (upI g.length).map (fun i => g.getD i.toNat 0) = g := by
  apply List.ext_getElem (by simp [upI])
  intro k h1 h2
  simp [upI, List.getD, List.getElem?_eq_getElem h2]
theorem numZ_perm {ks g : List Int} (hl : ks.length ≤ 800) (hk : KeyR ks) (hn : g.length ≤ 1000) : (numZ ks g).Perm g := by
  have h := (shufT_perm hl hk hn (g.length - 1) (Nat.le_refl _)).map (fun i => g.getD i.toNat 0)
  rw [upI_pick] at h
  exact h
theorem st_off {ks : List Int} {gs : List (List Int)} : ∀ k, k ≤ gs.length → (stTo ks gs k).length = offG gs k
  | 0, _ => by rw [offG_zero]; rfl
  | k + 1, hk => by
    have hx := List.getElem?_eq_getElem (show k < gs.length by omega)
    rw [stTo_succ hx, List.length_append, numZ_len, offG_succ hx, st_off k (by omega)]
theorem st_app {ks : List Int} {gs : List (List Int)} {j : Nat} : ∀ k, j ≤ k → k ≤ gs.length → ∃ r, stTo ks gs k = stTo ks gs j ++ r
  | 0, h, _ => by rw [show j = 0 by omega]; exact ⟨[], by simp⟩
  | k + 1, h, hk => by
    by_cases e : j = k + 1
    · subst e; exact ⟨[], by simp⟩
    · obtain ⟨r, hr⟩ := st_app (ks := ks) (gs := gs) (j := j) k (by omega) (by omega)
      have hx := List.getElem?_eq_getElem (show k < gs.length by omega)
      exact ⟨_, by rw [stTo_succ hx, hr, List.append_assoc]⟩
theorem st_perm {ks : List Int} {gs : List (List Int)} (hl : ks.length ≤ 4) (hk : KeyR ks) (hg : gs.length ≤ 8) (hb : ∀ c ∈ gs, c.length ≤ 40) : ∀ k, k ≤ gs.length → (stTo ks gs k).Perm (gs.take k).flatten
  | 0, _ => by simp [stTo]
  | k + 1, hkk => by
    have hx := List.getElem?_eq_getElem (show k < gs.length by omega)
    have hc := hb _ (List.mem_of_getElem? hx)
    rw [stTo_succ hx, take_snoc hx, List.flatten_append]
    refine (st_perm hl hk hg hb k (by omega)).append ?_
    rw [List.flatten_singleton]
    refine numZ_perm (by simp; omega) (fun x h => ?_) (by omega)
    rcases List.mem_append.1 h with h | h
    · exact hk x h
    · rw [List.mem_singleton.1 h]; omega
theorem sort_flat : ∀ cs : List (List Int), (cs.map sortUp).flatten.Perm cs.flatten
  | [] => List.Perm.refl _
  | c :: cs => by rw [List.map_cons, List.flatten_cons, List.flatten_cons]; exact (sortUp_perm c).append (sort_flat cs)
theorem cut_flat {ss xs : List Int} : ∀ k, k ≤ ss.length → (cutZ ss xs k).flatten = xs.take (offZ ss k)
  | 0, _ => by simp [cutZ, offZ]
  | k + 1, hk => by
    have hx := List.getElem?_eq_getElem (show k < ss.length by omega)
    rw [cutZ_succ hx, List.flatten_append, List.flatten_singleton, cut_flat k (by omega), offZ_succ hx, List.take_add]
theorem many_pos {l : List EntrantD} {s : Nat} (hs : 1 ≤ s) (h0 : 0 < l.length) : 0 < many l s := Nat.div_pos (by omega) hs
theorem gs_perm {l : List EntrantD} {s : Int} (h : RgOk l s) : (gsE l s).flatten.Perm (l.map EntrantD.skater) := by
  have h1 := ordE_aux h.1 l.length (Nat.le_refl _)
  rw [List.take_length] at h1
  refine (show (gsE l s).flatten.Perm (chE l (many l s.toNat)).flatten from sort_flat _).trans ?_
  rcases Nat.eq_zero_or_pos l.length with e | e
  · have hl := List.eq_nil_of_length_eq_zero e
    subst hl
    have : many ([] : List EntrantD) s.toNat = 0 := Nat.div_eq_of_lt (by have := h.2.1; simp; omega)
    rw [this]
    exact List.Perm.refl _
  · have hg := many_pos (l := l) (s := s.toNat) (by have := h.2.1; omega) e
    have hf : (chE l (many l s.toNat)).flatten = (ordE l).map EntrantD.skater := by
      have hlen : ((ordE l).map EntrantD.skater).length = l.length := by rw [List.length_map, h1.1.length_eq]
      unfold chE
      rw [cut_flat _ (by rw [szsZ_len]; exact Nat.le_refl _), offZ_all hg, List.take_of_length_le (by omega)]
    rw [hf]
    exact h1.1.map _
/-- a start order is an order of all entrants, group by group -/
theorem st_all {ks : List Int} {l : List EntrantD} {s : Int} (h : StOk ks l s) : IsFit l s (stTo ks (gsE l s) (gsE l s).length) ∧ (stTo ks (gsE l s) (gsE l s).length).length = l.length ∧ cntG (gsE l s) = l.length := by
  obtain ⟨hr, hk⟩ := h
  have hgl : (gsE l s).length ≤ 8 := by unfold gsE; rw [grpE_len]; exact hr.2.2.2
  have hgb : ∀ c ∈ gsE l s, c.length ≤ 40 := grpE_bd hr.1 _
  have hp := st_perm hk.1 hk.2 hgl hgb (gsE l s).length (Nat.le_refl _)
  rw [List.take_length] at hp
  have hp2 := hp.trans (gs_perm hr)
  have hlen : (stTo ks (gsE l s) (gsE l s).length).length = l.length := by rw [hp2.length_eq, List.length_map]
  have hoff := st_off (ks := ks) (gs := gsE l s) (gsE l s).length (Nat.le_refl _)
  refine ⟨⟨⟨hr, ordOk_of (by rw [hlen]; exact hr.1.1) (fun x hx => ?_) ?_⟩, fun j c hj hc => ?_, ?_⟩, hlen, ?_⟩
  · obtain ⟨e, he, rfl⟩ := List.mem_map.1 (hp2.mem_iff.1 hx)
    have := hr.1.rng he
    exact ⟨this.1, this.2.1⟩
  · have h1 := ordE_aux hr.1 l.length (Nat.le_refl _)
    rw [List.take_length] at h1
    exact (hp2.trans (h1.1.map EntrantD.skater).symm).symm.pairwise (ordE_ne hr.1) (fun h => Ne.symm h)
  · obtain ⟨r, hr2⟩ := st_app (ks := ks) (gs := gsE l s) (j := j + 1) (gsE l s).length (by omega) (Nat.le_refl _)
    have hoj := st_off (ks := ks) (gs := gsE l s) j (by omega)
    have hcb := hgb c (List.mem_of_getElem? hc)
    have hd : (stTo ks (gsE l s) (gsE l s).length).drop (offG (gsE l s) j) = numZ (ks ++ [(j : Int)]) c ++ r := by
      rw [hr2, stTo_succ hc, List.append_assoc, ← hoj, List.drop_left]
    unfold FitAt
    rw [hd]
    refine ⟨by rw [List.length_append, numZ_len]; omega, fun n hn => ?_⟩
    rw [show c.length = (numZ (ks ++ [(j : Int)]) c).length from (numZ_len _ _).symm, List.take_left] at hn
    refine (numZ_perm (by have := hk.1; simp; omega) (fun x h => ?_) (by omega)).mem_iff.1 hn
    rcases List.mem_append.1 h with h | h
    · exact hk.2 x h
    · rw [List.mem_singleton.1 h]; omega
  · rw [← hoff, List.drop_length]
  · have h1 := (gs_perm hr).length_eq
    rw [List.length_flatten, List.length_map] at h1
    exact h1
end Go.Proofs.YtkncdoodlggbcaaGreat
