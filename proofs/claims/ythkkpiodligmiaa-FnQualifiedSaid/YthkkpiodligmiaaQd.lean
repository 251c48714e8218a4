/-
  DirectAndRest: those who go on directly and the rest; the program's function and the reference's, in the abstract machine.
-/
import Derived.Test.YthkkpiodligmiaaQf
import Derived.Test.YthkkpiodligmiaaTk
set_option linter.unusedSimpArgs false
set_option linter.unusedVariables false
set_option maxHeartbeats 2000000
set_option maxRecDepth 100000
namespace Go.Proofs.Ythkkpiodligmiaa
open Go.RowKit

def drA (s : List Int) (d : Int) : List Int := s.take (min d (s.length : Int)).toNat
def drB (s : List Int) (d n : Int) : List Int := (s.drop (min d (s.length : Int)).toNat).take ((min n (s.length : Int)).toNat - (min d (s.length : Int)).toNat)
theorem drA_len (s : List Int) (d : Int) : (drA s d).length ≤ s.length := by unfold drA; rw [List.length_take]; omega
theorem drB_len (s : List Int) (d n : Int) : (drB s d n).length ≤ s.length := by unfold drB; rw [List.length_take, List.length_drop]; omega
noncomputable abbrev ansDirectAndRest (l : List ResultD) (d n : Int) : Option (List Int × List Int) := optP (ResultsOk l ∧ FldOk n ∧ 0 ≤ d ∧ d ≤ n) (drA ((stR l).map (skZ l)) d, drB ((stR l).map (skZ l)) d n)
theorem l1Least_ok (a b : Int) : FnEq Try.prog 107 [.d (.int .i64 a), .d (.int .i64 b)] [.d (.int .i64 (min a b))] := by
  refine fn_ok G_ok Try.func107 rfl rfl ?_; simp only [Try.ntmps107, List.length_cons, List.length_nil, Nat.reduceAdd, Nat.reduceSub, enm]
  repeat' (first | ((with_reducible first | refine execL_step (fun K' hK' => ?_)); (first | with_reducible refine s_none rfl ?_ | refine s_some2 rfl ?_); simp only [go_sem]) | (with_reducible refine hK' _ ?_; clear hK' K') | (with_reducible refine hK _ ?_; clear hK K; try simp only [go_sem]) | with_reducible (first | refine stp ?_ | refine pw_seq_opsK kl107 G_ok (fun K hK => ?_) | refine pw_ops G_ok (fun K hK => ?_)) | refine inBlockA_other (by decide) ?_ | (with_reducible refine pK_mk (fun hc => ?_) (fun hc => ?_) <;> (try simp only [go_sem]) <;> (try simp at hc) <;> (try (exfalso; omega))) | ((first | refine pw_seq (pw_cond rfl (fun hc => ?_) (fun hc => ?_)) | refine pw_cond rfl (fun hc => ?_) (fun hc => ?_)) <;> (try simp at hc) <;> (try (exfalso; omega))) | with_reducible refine And.intro (by first | omega | (unfold inI; omega) | exact andI_inI _) ?_)
  · refine retQ_ret rfl rfl (by simp [rowsOf, lk]) ?_; rw [Int.min_eq_left (by omega)]
  · refine retQ_ret rfl rfl (by simp [rowsOf, lk]) ?_; rw [Int.min_eq_right (by omega)]
theorem impl_DirectAndRest_ok (xs0 : List ResultD) (a1 : Int) (a2 : Int) (hl0 : xs0.length ≤ 1048576) (hk0 : ∀ r ∈ xs0, r.scores.length ≤ 1048576) : FnEq Try.prog 46 [.d (.lst 2 (xs0.map ResultD.dat)), .d (.int .i64 a1), .d (.int .i64 a2)] [.row 3 1 (((ansDirectAndRest xs0 a1 a2).getD ([], [])).1.map datI), .row 3 1 (((ansDirectAndRest xs0 a1 a2).getD ([], [])).2.map datI), .d (.bool (ansDirectAndRest xs0 a1 a2).isSome)] := by
  refine fn_ok G_ok Try.func46 rfl rfl ?_; simp only [Try.ntmps46, List.length_cons, List.length_nil, Nat.reduceAdd, Nat.reduceSub, enm]
  by_cases hv : ResultsOk xs0
  · have hb := bP_true hv
    have h40 := hv.1
    by_cases hf : FldOk a2 ∧ 0 ≤ a1 ∧ a1 ≤ a2
    · have hf1 := hf.1.1
      have hf2 := hf.1.2
      have hf3 := hf.2.1
      have hf4 := hf.2.2
      have hqc := startersOf_ok xs0 hv
      have hql := stR_len xs0
      have hqi := stR_in xs0
      have hsk := skatersOf_ok xs0 (stR xs0) hl0 (by omega) hqi
      have hans : ansDirectAndRest xs0 a1 a2 = some (drA ((stR xs0).map (skZ xs0)) a1, drB ((stR xs0).map (skZ xs0)) a1 a2) := optP_pos ⟨hv, hf.1, hf.2⟩
      have hsl : ((stR xs0).map (skZ xs0)).length = (stR xs0).length := by simp
      generalize (stR xs0).map (skZ xs0) = sk at hsk hans hsl
      have hskl : sk.length ≤ 40 := by omega
      have hm1 : 0 ≤ min a1 (sk.length : Int) ∧ min a1 (sk.length : Int) ≤ (sk.length : Int) ∧ min a1 (sk.length : Int) ≤ min a2 (sk.length : Int) ∧ min a2 (sk.length : Int) ≤ (sk.length : Int) := by omega
      repeat' (first | ((with_reducible first | refine execL_step (fun K' hK' => ?_)); (first | with_reducible refine s_none rfl ?_ | refine s_some2 rfl ?_); simp only [go_sem, hb, List.length_map]) | (with_reducible refine hK' _ ?_; clear hK' K') | (with_reducible refine hK _ ?_; clear hK K; try simp only [go_sem, hb, List.length_map]) | with_reducible (first | refine stp ?_ | refine pw_seq_opsK kl46 G_ok (fun K hK => ?_) | refine pw_ops G_ok (fun K hK => ?_)) | ((with_reducible first | apply CallK.eq); (focus (with_reducible first | exact AreResults_ok xs0 hl0 hk0 | exact isField2_ok _ | exact within_ok _ _ _ | exact hqc | exact hsk)); (focus (first | exact rfl | (simp [RV.flat, D.sc, datI]; done))); try simp only [go_sem, hb, List.length_map]) | refine inBlockA_other (by decide) ?_ | (with_reducible refine pK_mk (fun hc => ?_) (fun hc => ?_) <;> (try simp only [go_sem, hb, List.length_map]) <;> (try simp at hc) <;> (try (exfalso; omega))) | ((first | refine pw_seq (pw_cond rfl (fun hc => ?_) (fun hc => ?_)) | refine pw_cond rfl (fun hc => ?_) (fun hc => ?_)) <;> (try simp at hc) <;> (try (exfalso; omega))) | with_reducible refine And.intro (by first | omega | (unfold inI; omega) | exact andI_inI _) ?_)
      all_goals first
        | (exfalso; omega)
        | skip
      have hA : List.take (min a1 (sk.length : Int)).toNat (List.map datI sk) = (drA sk a1).map datI := by rw [← List.map_take]; rfl
      have hB : List.take ((min a2 (sk.length : Int)).toNat - (min a1 (sk.length : Int)).toNat) (List.drop (min a1 (sk.length : Int)).toNat (List.map datI sk)) = (drB sk a1 a2).map datI := by rw [← List.map_drop, ← List.map_take]; rfl
      have hal := drA_len sk a1
      have hc1 : (min a1 (sk.length : Int)).toNat ≤ sk.length := by omega
      have hc2 : (min a1 (sk.length : Int)).toNat + ((min a2 (sk.length : Int)).toNat - (min a1 (sk.length : Int)).toNat) ≤ sk.length := by omega
      have hbl := drB_len sk a1 a2
      refine pw_seq_anyN kl46 mixed ?_
      refine anyN_take 0 rfl rfl rfl (by decide +kernel) (by decide +kernel) (by decide +kernel) (pure_move (.inl rfl)) ?_
      try simp only [go_sem, Int.toNat_zero, Nat.sub_zero, Nat.zero_add, List.length_map]
      refine anyN_take 1 rfl rfl rfl (by decide +kernel) (by decide +kernel) (by decide +kernel) (pure_move (.inl rfl)) ?_
      try simp only [go_sem, Int.toNat_zero, Nat.sub_zero, Nat.zero_add, List.length_map]
      refine anyN_take 2 rfl rfl rfl (by decide +kernel) (by decide +kernel) (by decide +kernel) (pure_slice rfl (G_ok _ _ G25) rfl rfl rfl (by omega) (by omega) (by omega) rfl) ?_
      try simp only [go_sem, Int.toNat_zero, Nat.sub_zero, Nat.zero_add, List.length_map]
      refine anyN_take 4 rfl rfl rfl (by decide +kernel) (by decide +kernel) (by decide +kernel) (pure_move (.inl rfl)) ?_
      try simp only [go_sem, Int.toNat_zero, Nat.sub_zero, Nat.zero_add, List.length_map]
      refine anyN_take 5 rfl rfl rfl (by decide +kernel) (by decide +kernel) (by decide +kernel) (pure_move (.inl rfl)) ?_
      try simp only [go_sem, Int.toNat_zero, Nat.sub_zero, Nat.zero_add, List.length_map]
      refine anyN_take 6 rfl rfl rfl (by decide +kernel) (by decide +kernel) (by decide +kernel) (pure_move (.inl rfl)) ?_
      try simp only [go_sem, Int.toNat_zero, Nat.sub_zero, Nat.zero_add, List.length_map]
      refine anyN_take 7 rfl rfl rfl (by decide +kernel) (by decide +kernel) (by decide +kernel) (pure_move (.inl rfl)) ?_
      try simp only [go_sem, Int.toNat_zero, Nat.sub_zero, Nat.zero_add, List.length_map]
      refine anyN_take 8 rfl rfl rfl (by decide +kernel) (by decide +kernel) (by decide +kernel) (pure_len rfl (G_ok _ _ G25) rfl) ?_
      try simp only [go_sem, Int.toNat_zero, Nat.sub_zero, Nat.zero_add, List.length_map]
      refine anyN_take 9 rfl rfl rfl (by decide +kernel) (by decide +kernel) (by decide +kernel) (pure_min rfl rfl rfl) ?_
      try simp only [go_sem, Int.toNat_zero, Nat.sub_zero, Nat.zero_add, List.length_map]
      refine anyN_take 10 rfl rfl rfl (by decide +kernel) (by decide +kernel) (by decide +kernel) (pure_slice rfl (G_ok _ _ G25) rfl rfl rfl (by omega) (by omega) (by omega) rfl) ?_
      try simp only [go_sem, Int.toNat_zero, Nat.sub_zero, Nat.zero_add, List.length_map]
      refine anyN_step G_ok [3] (by decide +kernel) rfl ⟨⟨_, rfl, fun K' hK' => ?_⟩, trivial⟩
      · (first | with_reducible refine s_none rfl ?_ | refine s_some2 rfl ?_)
        simp only [go_sem, Int.toNat_zero, Nat.sub_zero, Nat.zero_add, List.length_map, List.drop_zero, hA, hB, hc1, hc2, if_true]
        refine CallK.eq (copyInts_ok (drA sk a1) (by omega)) ?_ ?_
        · focus (simp [RV.flat, D.sc, datI]; done)
        simp only [go_sem, Int.toNat_zero, Nat.sub_zero, Nat.zero_add, List.length_map]
        refine hK' _ ?_
        clear hK' K'
        try simp only [go_sem, Int.toNat_zero, Nat.sub_zero, Nat.zero_add, List.length_map]
        refine anyN_step G_ok [11] (by decide +kernel) rfl ⟨⟨_, rfl, fun K' hK' => ?_⟩, trivial⟩
        · (first | with_reducible refine s_none rfl ?_ | refine s_some2 rfl ?_)
          simp only [go_sem, Int.toNat_zero, Nat.sub_zero, Nat.zero_add, List.length_map, List.drop_zero, hA, hB, hc1, hc2, if_true]
          refine CallK.eq (copyInts_ok (drB sk a1 a2) (by omega)) ?_ ?_
          · focus (simp [RV.flat, D.sc, datI]; done)
          simp only [go_sem, Int.toNat_zero, Nat.sub_zero, Nat.zero_add, List.length_map]
          refine hK' _ ?_
          clear hK' K'
          try simp only [go_sem, Int.toNat_zero, Nat.sub_zero, Nat.zero_add, List.length_map]
          refine anyN_take 12 rfl rfl rfl (by decide +kernel) (by decide +kernel) (by decide +kernel) (pure_move (.inr rfl)) ?_
          try simp only [go_sem, Int.toNat_zero, Nat.sub_zero, Nat.zero_add, List.length_map]
          refine anyN_take 13 rfl rfl rfl (by decide +kernel) (by decide +kernel) (by decide +kernel) (pure_move (.inr rfl)) ?_
          try simp only [go_sem, Int.toNat_zero, Nat.sub_zero, Nat.zero_add, List.length_map]
          refine anyN_take 14 rfl rfl rfl (by decide +kernel) (by decide +kernel) (by decide +kernel) (pure_move (.inr rfl)) ?_
          try simp only [go_sem, Int.toNat_zero, Nat.sub_zero, Nat.zero_add, List.length_map]
          refine anyN_done (by decide +kernel) ?_
          simp only [go_sem, Int.toNat_zero, Nat.sub_zero, Nat.zero_add, List.length_map]
          repeat' (first | ((with_reducible first | refine execL_step (fun K' hK' => ?_)); (first | with_reducible refine s_none rfl ?_ | refine s_some2 rfl ?_); simp only [go_sem, List.length_map]) | (with_reducible refine hK' _ ?_; clear hK' K') | (with_reducible refine hK _ ?_; clear hK K; try simp only [go_sem, List.length_map]) | with_reducible (first | refine stp ?_ | refine pw_seq_opsK kl46 G_ok (fun K hK => ?_) | refine pw_ops G_ok (fun K hK => ?_)) | refine inBlockA_other (by decide) ?_ | (with_reducible refine pK_mk (fun hc => ?_) (fun hc => ?_) <;> (try simp only [go_sem, List.length_map]) <;> (try simp at hc) <;> (try (exfalso; omega))) | ((first | refine pw_seq (pw_cond rfl (fun hc => ?_) (fun hc => ?_)) | refine pw_cond rfl (fun hc => ?_) (fun hc => ?_)) <;> (try simp at hc) <;> (try (exfalso; omega))) | with_reducible refine And.intro (by first | omega | (unfold inI; omega) | exact andI_inI _) ?_)
          refine retQ_ret rfl (by simp only [List.length_map, retL, ret1, hget, lk, List.length_map, List.length_nil, List.length_append, List.length_take, if_true, if_false, Nat.reduceEqDiff, Nat.reduceBEq, Bool.false_eq_true, Option.some.injEq]; rfl) (by simp [rowsOf, lk]) ?_; rw [hans]; rfl
    · have hans : ansDirectAndRest xs0 a1 a2 = none := optP_neg fun h => hf h.2
      have hf' : ¬ ((1 ≤ a2 ∧ a2 ≤ 40) ∧ 0 ≤ a1 ∧ a1 ≤ a2) := hf
      repeat' (first | ((with_reducible first | refine execL_step (fun K' hK' => ?_)); (first | with_reducible refine s_none rfl ?_ | refine s_some2 rfl ?_); simp only [go_sem, hb]) | (with_reducible refine hK' _ ?_; clear hK' K') | (with_reducible refine hK _ ?_; clear hK K; try simp only [go_sem, hb]) | with_reducible (first | refine stp ?_ | refine pw_seq_opsK kl46 G_ok (fun K hK => ?_) | refine pw_ops G_ok (fun K hK => ?_)) | ((with_reducible first | apply CallK.eq); (focus (with_reducible first | exact AreResults_ok xs0 hl0 hk0 | exact isField2_ok _ | exact within_ok _ _ _)); (focus (first | exact rfl | (simp [RV.flat, D.sc, datI]; done))); try simp only [go_sem, hb]) | refine inBlockA_other (by decide) ?_ | (with_reducible refine pK_mk (fun hc => ?_) (fun hc => ?_) <;> (try simp only [go_sem, hb]) <;> (try simp at hc) <;> (try (exfalso; omega))) | ((first | refine pw_seq (pw_cond rfl (fun hc => ?_) (fun hc => ?_)) | refine pw_cond rfl (fun hc => ?_) (fun hc => ?_)) <;> (try simp at hc) <;> (try (exfalso; omega))) | with_reducible refine And.intro (by first | omega | (unfold inI; omega) | exact andI_inI _) ?_)
      all_goals first
        | (exfalso; omega)
        | (refine retQ_ret rfl (by simp only [retL, ret1, hget, lk, List.length_map, List.length_nil, List.length_append, List.length_take, if_true, if_false, Nat.reduceEqDiff, Nat.reduceBEq, Bool.false_eq_true, Option.some.injEq]; rfl) (by simp [rowsOf, lk]) ?_; rw [hans]; rfl)
  · have hb := bP_false hv
    have hans : ansDirectAndRest xs0 a1 a2 = none := optP_neg fun h => hv h.1
    repeat' (first | ((with_reducible first | refine execL_step (fun K' hK' => ?_)); (first | with_reducible refine s_none rfl ?_ | refine s_some2 rfl ?_); simp only [go_sem, hb]) | (with_reducible refine hK' _ ?_; clear hK' K') | (with_reducible refine hK _ ?_; clear hK K; try simp only [go_sem, hb]) | with_reducible (first | refine stp ?_ | refine pw_seq_opsK kl46 G_ok (fun K hK => ?_) | refine pw_ops G_ok (fun K hK => ?_)) | ((with_reducible first | apply CallK.eq); (focus (with_reducible first | exact AreResults_ok xs0 hl0 hk0)); (focus (first | exact rfl | (simp [RV.flat, D.sc, datI]; done))); try simp only [go_sem, hb]) | refine inBlockA_other (by decide) ?_ | (with_reducible refine pK_mk (fun hc => ?_) (fun hc => ?_) <;> (try simp only [go_sem, hb]) <;> (try simp at hc) <;> (try (exfalso; omega))) | ((first | refine pw_seq (pw_cond rfl (fun hc => ?_) (fun hc => ?_)) | refine pw_cond rfl (fun hc => ?_) (fun hc => ?_)) <;> (try simp at hc) <;> (try (exfalso; omega))) | with_reducible refine And.intro (by first | omega | (unfold inI; omega) | exact andI_inI _) ?_)
    all_goals (refine retQ_ret rfl (by simp only [retL, ret1, hget, lk, List.length_map, List.length_nil, List.length_append, List.length_take, if_true, if_false, Nat.reduceEqDiff, Nat.reduceBEq, Bool.false_eq_true, Option.some.injEq]; rfl) (by simp [rowsOf, lk]) ?_; rw [hans]; rfl)
theorem spec_DirectAndRest_ok (xs0 : List ResultD) (a1 : Int) (a2 : Int) (hl0 : xs0.length ≤ 1048576) (hk0 : ∀ r ∈ xs0, r.scores.length ≤ 1048576) : FnEq Try.prog 47 [.d (.lst 2 (xs0.map ResultD.dat)), .d (.int .i64 a1), .d (.int .i64 a2)] [.row 3 1 (((ansDirectAndRest xs0 a1 a2).getD ([], [])).1.map datI), .row 3 1 (((ansDirectAndRest xs0 a1 a2).getD ([], [])).2.map datI), .d (.bool (ansDirectAndRest xs0 a1 a2).isSome)] := by
  refine fn_ok G_ok Try.func47 rfl rfl ?_; simp only [Try.ntmps47, List.length_cons, List.length_nil, Nat.reduceAdd, Nat.reduceSub, enm]
  by_cases hv : ResultsOk xs0
  · have hb := bP_true hv
    have h40 := hv.1
    by_cases hf : FldOk a2 ∧ 0 ≤ a1 ∧ a1 ≤ a2
    · have hf1 := hf.1.1
      have hf2 := hf.1.2
      have hf3 := hf.2.1
      have hf4 := hf.2.2
      have hqc := quOrder_ok xs0 hv
      have hql := stR_len xs0
      have hqi := stR_in xs0
      have hsk := quSkaters_ok xs0 (stR xs0) hl0 (by omega) hqi
      have hans : ansDirectAndRest xs0 a1 a2 = some (drA ((stR xs0).map (skZ xs0)) a1, drB ((stR xs0).map (skZ xs0)) a1 a2) := optP_pos ⟨hv, hf.1, hf.2⟩
      have hsl : ((stR xs0).map (skZ xs0)).length = (stR xs0).length := by simp
      generalize (stR xs0).map (skZ xs0) = sk at hsk hans hsl
      have hskl : sk.length ≤ 40 := by omega
      have hm1 : 0 ≤ min a1 (sk.length : Int) ∧ min a1 (sk.length : Int) ≤ (sk.length : Int) ∧ min a1 (sk.length : Int) ≤ min a2 (sk.length : Int) ∧ min a2 (sk.length : Int) ≤ (sk.length : Int) := by omega
      have hle : min (sk.length : Int) a2 = min a2 (sk.length : Int) := Int.min_comm _ _
      have hk1 : min (((min a2 (sk.length : Int)).toNat : Nat) : Int) a1 = min a1 (sk.length : Int) := by omega
      repeat' (first | ((with_reducible first | refine execL_step (fun K' hK' => ?_)); (first | with_reducible refine s_none rfl ?_ | refine s_some2 rfl ?_); simp only [go_sem, hb, List.length_map]) | (with_reducible refine hK' _ ?_; clear hK' K') | (with_reducible refine hK _ ?_; clear hK K; try simp only [go_sem, hb, List.length_map]) | with_reducible (first | refine stp ?_ | refine pw_seq_opsK kl47 G_ok (fun K hK => ?_) | refine pw_ops G_ok (fun K hK => ?_)) | ((with_reducible first | apply CallK.eq); (focus (with_reducible first | exact rkGood_ok xs0 hl0 hk0 | exact quNumber_ok _ | exact l1In_ok _ _ _ | exact hqc | exact hsk | exact l1Least_ok _ _)); (focus (first | exact rfl | (simp [RV.flat, D.sc, datI]; done))); try simp only [go_sem, hb, List.length_map]) | refine inBlockA_other (by decide) ?_ | (with_reducible refine pK_mk (fun hc => ?_) (fun hc => ?_) <;> (try simp only [go_sem, hb, List.length_map]) <;> (try simp at hc) <;> (try (exfalso; omega))) | ((first | refine pw_seq (pw_cond rfl (fun hc => ?_) (fun hc => ?_)) | refine pw_cond rfl (fun hc => ?_) (fun hc => ?_)) <;> (try simp at hc) <;> (try (exfalso; omega))) | with_reducible refine And.intro (by first | omega | (unfold inI; omega) | exact andI_inI _) ?_)
      all_goals first
        | (exfalso; omega)
        | skip
      have hle : min (sk.length : Int) a2 = min a2 (sk.length : Int) := Int.min_comm _ _
      have hk1 : min (((min a2 (sk.length : Int)).toNat : Nat) : Int) a1 = min a1 (sk.length : Int) := by omega
      have hA : List.take (min a1 (sk.length : Int)).toNat (List.map datI sk) = (drA sk a1).map datI := by rw [← List.map_take]; rfl
      have hB : List.take ((min a2 (sk.length : Int)).toNat - (min a1 (sk.length : Int)).toNat) (List.drop (min a1 (sk.length : Int)).toNat (List.map datI sk)) = (drB sk a1 a2).map datI := by rw [← List.map_drop, ← List.map_take]; rfl
      have hal := drA_len sk a1
      have hc1 : (min a1 (sk.length : Int)).toNat ≤ sk.length := by omega
      have hc2 : (min a1 (sk.length : Int)).toNat + ((min a2 (sk.length : Int)).toNat - (min a1 (sk.length : Int)).toNat) ≤ sk.length := by omega
      have hbl := drB_len sk a1 a2
      refine pw_seq_anyN kl47 mixed ?_
      refine anyN_take 0 rfl rfl rfl (by decide +kernel) (by decide +kernel) (by decide +kernel) (pure_move (.inl rfl)) ?_
      try simp only [go_sem, Int.toNat_zero, Nat.sub_zero, Nat.zero_add, List.length_map, hle, hk1]
      refine anyN_take 1 rfl rfl rfl (by decide +kernel) (by decide +kernel) (by decide +kernel) (pure_move (.inl rfl)) ?_
      try simp only [go_sem, Int.toNat_zero, Nat.sub_zero, Nat.zero_add, List.length_map, hle, hk1]
      refine anyN_take 2 rfl rfl rfl (by decide +kernel) (by decide +kernel) (by decide +kernel) (pure_slice rfl (G_ok _ _ G25) rfl rfl rfl (by omega) (by omega) (by omega) rfl) ?_
      try simp only [go_sem, Int.toNat_zero, Nat.sub_zero, Nat.zero_add, List.length_map, hle, hk1]
      refine anyN_take 4 rfl rfl rfl (by decide +kernel) (by decide +kernel) (by decide +kernel) (pure_move (.inl rfl)) ?_
      try simp only [go_sem, Int.toNat_zero, Nat.sub_zero, Nat.zero_add, List.length_map, hle, hk1]
      refine anyN_take 5 rfl rfl rfl (by decide +kernel) (by decide +kernel) (by decide +kernel) (pure_move (.inl rfl)) ?_
      try simp only [go_sem, Int.toNat_zero, Nat.sub_zero, Nat.zero_add, List.length_map, hle, hk1]
      refine anyN_take 6 rfl rfl rfl (by decide +kernel) (by decide +kernel) (by decide +kernel) (pure_slice rfl (G_ok _ _ G25) rfl rfl rfl (by omega) (by omega) (by omega) rfl) ?_
      try simp only [go_sem, Int.toNat_zero, Nat.sub_zero, Nat.zero_add, List.length_map, hle, hk1]
      refine anyN_step G_ok [3] (by decide +kernel) rfl ⟨⟨_, rfl, fun K' hK' => ?_⟩, trivial⟩
      · (first | with_reducible refine s_none rfl ?_ | refine s_some2 rfl ?_)
        simp only [go_sem, Int.toNat_zero, Nat.sub_zero, Nat.zero_add, List.length_map, hle, hk1, List.drop_zero, hA, hB, hc1, hc2, if_true]
        refine CallK.eq (l1Own_ok ((drA sk a1).map datI) (by simp; omega)) ?_ ?_
        · focus (simp [RV.flat, D.sc, datI]; done)
        simp only [go_sem, Int.toNat_zero, Nat.sub_zero, Nat.zero_add, List.length_map, hle, hk1]
        refine hK' _ ?_
        clear hK' K'
        try simp only [go_sem, Int.toNat_zero, Nat.sub_zero, Nat.zero_add, List.length_map, hle, hk1]
        refine anyN_step G_ok [7] (by decide +kernel) rfl ⟨⟨_, rfl, fun K' hK' => ?_⟩, trivial⟩
        · (first | with_reducible refine s_none rfl ?_ | refine s_some2 rfl ?_)
          simp only [go_sem, Int.toNat_zero, Nat.sub_zero, Nat.zero_add, List.length_map, hle, hk1, List.drop_zero, hA, hB, hc1, hc2, if_true]
          refine CallK.eq (l1Own_ok ((drB sk a1 a2).map datI) (by simp; omega)) ?_ ?_
          · focus (simp [RV.flat, D.sc, datI]; done)
          simp only [go_sem, Int.toNat_zero, Nat.sub_zero, Nat.zero_add, List.length_map, hle, hk1]
          refine hK' _ ?_
          clear hK' K'
          try simp only [go_sem, Int.toNat_zero, Nat.sub_zero, Nat.zero_add, List.length_map, hle, hk1]
          refine anyN_take 8 rfl rfl rfl (by decide +kernel) (by decide +kernel) (by decide +kernel) (pure_move (.inr rfl)) ?_
          try simp only [go_sem, Int.toNat_zero, Nat.sub_zero, Nat.zero_add, List.length_map, hle, hk1]
          refine anyN_take 9 rfl rfl rfl (by decide +kernel) (by decide +kernel) (by decide +kernel) (pure_move (.inr rfl)) ?_
          try simp only [go_sem, Int.toNat_zero, Nat.sub_zero, Nat.zero_add, List.length_map, hle, hk1]
          refine anyN_take 10 rfl rfl rfl (by decide +kernel) (by decide +kernel) (by decide +kernel) (pure_move (.inr rfl)) ?_
          try simp only [go_sem, Int.toNat_zero, Nat.sub_zero, Nat.zero_add, List.length_map, hle, hk1]
          refine anyN_done (by decide +kernel) ?_
          simp only [go_sem, Int.toNat_zero, Nat.sub_zero, Nat.zero_add, List.length_map, hle, hk1]
          repeat' (first | ((with_reducible first | refine execL_step (fun K' hK' => ?_)); (first | with_reducible refine s_none rfl ?_ | refine s_some2 rfl ?_); simp only [go_sem, List.length_map]) | (with_reducible refine hK' _ ?_; clear hK' K') | (with_reducible refine hK _ ?_; clear hK K; try simp only [go_sem, List.length_map]) | with_reducible (first | refine stp ?_ | refine pw_seq_opsK kl47 G_ok (fun K hK => ?_) | refine pw_ops G_ok (fun K hK => ?_)) | refine inBlockA_other (by decide) ?_ | (with_reducible refine pK_mk (fun hc => ?_) (fun hc => ?_) <;> (try simp only [go_sem, List.length_map]) <;> (try simp at hc) <;> (try (exfalso; omega))) | ((first | refine pw_seq (pw_cond rfl (fun hc => ?_) (fun hc => ?_)) | refine pw_cond rfl (fun hc => ?_) (fun hc => ?_)) <;> (try simp at hc) <;> (try (exfalso; omega))) | with_reducible refine And.intro (by first | omega | (unfold inI; omega) | exact andI_inI _) ?_)
          refine retQ_ret rfl (by simp only [List.length_map, retL, ret1, hget, lk, List.length_map, List.length_nil, List.length_append, List.length_take, if_true, if_false, Nat.reduceEqDiff, Nat.reduceBEq, Bool.false_eq_true, Option.some.injEq]; rfl) (by simp [rowsOf, lk]) ?_; rw [hans]; rfl
    · have hans : ansDirectAndRest xs0 a1 a2 = none := optP_neg fun h => hf h.2
      have hf' : ¬ ((1 ≤ a2 ∧ a2 ≤ 40) ∧ 0 ≤ a1 ∧ a1 ≤ a2) := hf
      repeat' (first | ((with_reducible first | refine execL_step (fun K' hK' => ?_)); (first | with_reducible refine s_none rfl ?_ | refine s_some2 rfl ?_); simp only [go_sem, hb]) | (with_reducible refine hK' _ ?_; clear hK' K') | (with_reducible refine hK _ ?_; clear hK K; try simp only [go_sem, hb]) | with_reducible (first | refine stp ?_ | refine pw_seq_opsK kl47 G_ok (fun K hK => ?_) | refine pw_ops G_ok (fun K hK => ?_)) | ((with_reducible first | apply CallK.eq); (focus (with_reducible first | exact rkGood_ok xs0 hl0 hk0 | exact quNumber_ok _ | exact l1In_ok _ _ _)); (focus (first | exact rfl | (simp [RV.flat, D.sc, datI]; done))); try simp only [go_sem, hb]) | refine inBlockA_other (by decide) ?_ | (with_reducible refine pK_mk (fun hc => ?_) (fun hc => ?_) <;> (try simp only [go_sem, hb]) <;> (try simp at hc) <;> (try (exfalso; omega))) | ((first | refine pw_seq (pw_cond rfl (fun hc => ?_) (fun hc => ?_)) | refine pw_cond rfl (fun hc => ?_) (fun hc => ?_)) <;> (try simp at hc) <;> (try (exfalso; omega))) | with_reducible refine And.intro (by first | omega | (unfold inI; omega) | exact andI_inI _) ?_)
      all_goals first
        | (exfalso; omega)
        | (refine retQ_ret rfl (by simp only [retL, ret1, hget, lk, List.length_map, List.length_nil, List.length_append, List.length_take, if_true, if_false, Nat.reduceEqDiff, Nat.reduceBEq, Bool.false_eq_true, Option.some.injEq]; rfl) (by simp [rowsOf, lk]) ?_; rw [hans]; rfl)
  · have hb := bP_false hv
    have hans : ansDirectAndRest xs0 a1 a2 = none := optP_neg fun h => hv h.1
    repeat' (first | ((with_reducible first | refine execL_step (fun K' hK' => ?_)); (first | with_reducible refine s_none rfl ?_ | refine s_some2 rfl ?_); simp only [go_sem, hb]) | (with_reducible refine hK' _ ?_; clear hK' K') | (with_reducible refine hK _ ?_; clear hK K; try simp only [go_sem, hb]) | with_reducible (first | refine stp ?_ | refine pw_seq_opsK kl47 G_ok (fun K hK => ?_) | refine pw_ops G_ok (fun K hK => ?_)) | ((with_reducible first | apply CallK.eq); (focus (with_reducible first | exact rkGood_ok xs0 hl0 hk0)); (focus (first | exact rfl | (simp [RV.flat, D.sc, datI]; done))); try simp only [go_sem, hb]) | refine inBlockA_other (by decide) ?_ | (with_reducible refine pK_mk (fun hc => ?_) (fun hc => ?_) <;> (try simp only [go_sem, hb]) <;> (try simp at hc) <;> (try (exfalso; omega))) | ((first | refine pw_seq (pw_cond rfl (fun hc => ?_) (fun hc => ?_)) | refine pw_cond rfl (fun hc => ?_) (fun hc => ?_)) <;> (try simp at hc) <;> (try (exfalso; omega))) | with_reducible refine And.intro (by first | omega | (unfold inI; omega) | exact andI_inI _) ?_)
    all_goals (refine retQ_ret rfl (by simp only [retL, ret1, hget, lk, List.length_map, List.length_nil, List.length_append, List.length_take, if_true, if_false, Nat.reduceEqDiff, Nat.reduceBEq, Bool.false_eq_true, Option.some.injEq]; rfl) (by simp [rowsOf, lk]) ?_; rw [hans]; rfl)
end Go.Proofs.Ythkkpiodligmiaa
