/-
  WithQuota, ReservesOf: the program's functions and the reference's, in the abstract machine.
-/
import Derived.Test.YthkkpiodligmiaaQq
set_option linter.unusedSimpArgs false
set_option linter.unusedVariables false
set_option maxHeartbeats 2000000
set_option maxRecDepth 100000
namespace Go.Proofs.Ythkkpiodligmiaa
open Go.RowKit

noncomputable abbrev ansWithQuota (l : List ResultD) (c : List ClubD) (n q : Int) : Option (List Int) := optP (QuOk l c n q) ((tkZ l c n q).1.map (skZ l))
noncomputable abbrev ansReservesOf (l : List ResultD) (c : List ClubD) (n q : Int) : Option (List Int) := optP (QuOk l c n q) ((tkZ l c n q).2.map (skZ l))

theorem impl_WithQuota_ok (xs0 : List ResultD) (xs1 : List ClubD) (a2 : Int) (a3 : Int) (hl0 : xs0.length ≤ 1048576) (hk0 : ∀ r ∈ xs0, r.scores.length ≤ 1048576) (hl1 : xs1.length ≤ 1048576) : FnEq Try.prog 52 [.d (.lst 2 (xs0.map ResultD.dat)), .d (.lst 2 (xs1.map ClubD.dat)), .d (.int .i64 a2), .d (.int .i64 a3)] [.row 3 1 (((ansWithQuota xs0 xs1 a2 a3).getD []).map datI), .d (.bool (ansWithQuota xs0 xs1 a2 a3).isSome)] := by
  refine fn_ok G_ok Try.func52 rfl rfl ?_; simp only [Try.ntmps52, List.length_cons, List.length_nil, Nat.reduceAdd, Nat.reduceSub, enm]
  by_cases hv : QuOk xs0 xs1 a2 a3
  · have hb := bP_true hv
    have h40 := hv.1.1
    have htl := tkZ_len xs0 xs1 a2 a3
    have hti := tkZ_in xs0 xs1 a2 a3
    have htc := takenAndLeft_ok xs0 xs1 a2 a3 hv.1 hv.2.1
    have hans : ansWithQuota xs0 xs1 a2 a3 = some ((tkZ xs0 xs1 a2 a3).1.map (skZ xs0)) := optP_pos hv
    generalize tkZ xs0 xs1 a2 a3 = s at htl hti htc hans
    obtain ⟨tk, lf⟩ := s
    simp only at htl hti htc hans
    have hsl : (tk.map (skZ xs0)).length = tk.length := by simp
    repeat' (first | ((with_reducible first | refine execL_step (fun K' hK' => ?_)); (first | with_reducible refine s_none rfl ?_ | refine s_some2 rfl ?_); simp only [go_sem, hb, List.length_map]) | (with_reducible refine hK' _ ?_; clear hK' K') | (with_reducible refine hK _ ?_; clear hK K; try simp only [go_sem, hb, List.length_map]) | with_reducible (first | refine stp ?_ | refine pw_seq_opsK kl52 G_ok (fun K hK => ?_) | refine pw_ops G_ok (fun K hK => ?_)) | ((with_reducible first | apply CallK.eq); (focus (with_reducible first | exact canQuota_ok xs0 xs1 a2 a3 hl0 hk0 hl1 | exact htc | exact skatersOf_ok xs0 tk hl0 (by omega) hti.1)); (focus (first | exact rfl | (simp [RV.flat, D.sc, datI]; done))); try simp only [go_sem, hb, List.length_map]) | refine inBlockA_other (by decide) ?_ | (with_reducible refine pK_mk (fun hc => ?_) (fun hc => ?_) <;> (try simp only [go_sem, hb, List.length_map]) <;> (try simp at hc) <;> (try (exfalso; omega))) | ((first | refine pw_seq (pw_cond rfl (fun hc => ?_) (fun hc => ?_)) | refine pw_cond rfl (fun hc => ?_) (fun hc => ?_)) <;> (try simp at hc) <;> (try (exfalso; omega))) | with_reducible refine And.intro (by first | omega | (unfold inI; omega) | exact andI_inI _) ?_)
    refine retQ_ret rfl (by simp only [hsl, retL, ret1, hget, lk, List.length_map, List.length_nil, List.length_append, List.length_take, if_true, if_false, Nat.reduceEqDiff, Nat.reduceBEq, Bool.false_eq_true, Option.some.injEq]; rfl) (by simp [rowsOf, lk]) ?_; rw [hans]; rfl
  · have hb := bP_false hv
    have hans : ansWithQuota xs0 xs1 a2 a3 = none := optP_neg hv
    repeat' (first | ((with_reducible first | refine execL_step (fun K' hK' => ?_)); (first | with_reducible refine s_none rfl ?_ | refine s_some2 rfl ?_); simp only [go_sem, hb]) | (with_reducible refine hK' _ ?_; clear hK' K') | (with_reducible refine hK _ ?_; clear hK K; try simp only [go_sem, hb]) | with_reducible (first | refine stp ?_ | refine pw_seq_opsK kl52 G_ok (fun K hK => ?_) | refine pw_ops G_ok (fun K hK => ?_)) | ((with_reducible first | apply CallK.eq); (focus (with_reducible first | exact canQuota_ok xs0 xs1 a2 a3 hl0 hk0 hl1)); (focus (first | exact rfl | (simp [RV.flat, D.sc, datI]; done))); try simp only [go_sem, hb]) | refine inBlockA_other (by decide) ?_ | (with_reducible refine pK_mk (fun hc => ?_) (fun hc => ?_) <;> (try simp only [go_sem, hb]) <;> (try simp at hc) <;> (try (exfalso; omega))) | ((first | refine pw_seq (pw_cond rfl (fun hc => ?_) (fun hc => ?_)) | refine pw_cond rfl (fun hc => ?_) (fun hc => ?_)) <;> (try simp at hc) <;> (try (exfalso; omega))) | with_reducible refine And.intro (by first | omega | (unfold inI; omega) | exact andI_inI _) ?_)
    all_goals (refine retQ_ret rfl (by simp only [retL, ret1, hget, lk, List.length_map, List.length_nil, List.length_append, List.length_take, if_true, if_false, Nat.reduceEqDiff, Nat.reduceBEq, Bool.false_eq_true, Option.some.injEq]; rfl) (by simp [rowsOf, lk]) ?_; rw [hans]; rfl)
theorem spec_WithQuota_ok (xs0 : List ResultD) (xs1 : List ClubD) (a2 : Int) (a3 : Int) (hl0 : xs0.length ≤ 1048576) (hk0 : ∀ r ∈ xs0, r.scores.length ≤ 1048576) (hl1 : xs1.length ≤ 1048576) : FnEq Try.prog 53 [.d (.lst 2 (xs0.map ResultD.dat)), .d (.lst 2 (xs1.map ClubD.dat)), .d (.int .i64 a2), .d (.int .i64 a3)] [.row 3 1 (((ansWithQuota xs0 xs1 a2 a3).getD []).map datI), .d (.bool (ansWithQuota xs0 xs1 a2 a3).isSome)] := by
  refine fn_ok G_ok Try.func53 rfl rfl ?_; simp only [Try.ntmps53, List.length_cons, List.length_nil, Nat.reduceAdd, Nat.reduceSub, enm]
  by_cases hv : QuOk xs0 xs1 a2 a3
  · have hb := bP_true hv
    have h40 := hv.1.1
    have htl := tkZ_len xs0 xs1 a2 a3
    have hti := tkZ_in xs0 xs1 a2 a3
    have htc := quTaken_ok xs0 xs1 a2 a3 hv.1 hv.2.1
    have hans : ansWithQuota xs0 xs1 a2 a3 = some ((tkZ xs0 xs1 a2 a3).1.map (skZ xs0)) := optP_pos hv
    generalize tkZ xs0 xs1 a2 a3 = s at htl hti htc hans
    obtain ⟨tk, lf⟩ := s
    simp only at htl hti htc hans
    have hsl : (tk.map (skZ xs0)).length = tk.length := by simp
    repeat' (first | ((with_reducible first | refine execL_step (fun K' hK' => ?_)); (first | with_reducible refine s_none rfl ?_ | refine s_some2 rfl ?_); simp only [go_sem, hb, List.length_map]) | (with_reducible refine hK' _ ?_; clear hK' K') | (with_reducible refine hK _ ?_; clear hK K; try simp only [go_sem, hb, List.length_map]) | with_reducible (first | refine stp ?_ | refine pw_seq_opsK kl53 G_ok (fun K hK => ?_) | refine pw_ops G_ok (fun K hK => ?_)) | ((with_reducible first | apply CallK.eq); (focus (with_reducible first | exact quAsked_ok xs0 xs1 a2 a3 hl0 hk0 hl1 | exact htc | exact quSkaters_ok xs0 tk hl0 (by omega) hti.1)); (focus (first | exact rfl | (simp [RV.flat, D.sc, datI]; done))); try simp only [go_sem, hb, List.length_map]) | refine inBlockA_other (by decide) ?_ | (with_reducible refine pK_mk (fun hc => ?_) (fun hc => ?_) <;> (try simp only [go_sem, hb, List.length_map]) <;> (try simp at hc) <;> (try (exfalso; omega))) | ((first | refine pw_seq (pw_cond rfl (fun hc => ?_) (fun hc => ?_)) | refine pw_cond rfl (fun hc => ?_) (fun hc => ?_)) <;> (try simp at hc) <;> (try (exfalso; omega))) | with_reducible refine And.intro (by first | omega | (unfold inI; omega) | exact andI_inI _) ?_)
    refine retQ_ret rfl (by simp only [hsl, retL, ret1, hget, lk, List.length_map, List.length_nil, List.length_append, List.length_take, if_true, if_false, Nat.reduceEqDiff, Nat.reduceBEq, Bool.false_eq_true, Option.some.injEq]; rfl) (by simp [rowsOf, lk]) ?_; rw [hans]; rfl
  · have hb := bP_false hv
    have hans : ansWithQuota xs0 xs1 a2 a3 = none := optP_neg hv
    repeat' (first | ((with_reducible first | refine execL_step (fun K' hK' => ?_)); (first | with_reducible refine s_none rfl ?_ | refine s_some2 rfl ?_); simp only [go_sem, hb]) | (with_reducible refine hK' _ ?_; clear hK' K') | (with_reducible refine hK _ ?_; clear hK K; try simp only [go_sem, hb]) | with_reducible (first | refine stp ?_ | refine pw_seq_opsK kl53 G_ok (fun K hK => ?_) | refine pw_ops G_ok (fun K hK => ?_)) | ((with_reducible first | apply CallK.eq); (focus (with_reducible first | exact quAsked_ok xs0 xs1 a2 a3 hl0 hk0 hl1)); (focus (first | exact rfl | (simp [RV.flat, D.sc, datI]; done))); try simp only [go_sem, hb]) | refine inBlockA_other (by decide) ?_ | (with_reducible refine pK_mk (fun hc => ?_) (fun hc => ?_) <;> (try simp only [go_sem, hb]) <;> (try simp at hc) <;> (try (exfalso; omega))) | ((first | refine pw_seq (pw_cond rfl (fun hc => ?_) (fun hc => ?_)) | refine pw_cond rfl (fun hc => ?_) (fun hc => ?_)) <;> (try simp at hc) <;> (try (exfalso; omega))) | with_reducible refine And.intro (by first | omega | (unfold inI; omega) | exact andI_inI _) ?_)
    all_goals (refine retQ_ret rfl (by simp only [retL, ret1, hget, lk, List.length_map, List.length_nil, List.length_append, List.length_take, if_true, if_false, Nat.reduceEqDiff, Nat.reduceBEq, Bool.false_eq_true, Option.some.injEq]; rfl) (by simp [rowsOf, lk]) ?_; rw [hans]; rfl)
theorem impl_ReservesOf_ok (xs0 : List ResultD) (xs1 : List ClubD) (a2 : Int) (a3 : Int) (hl0 : xs0.length ≤ 1048576) (hk0 : ∀ r ∈ xs0, r.scores.length ≤ 1048576) (hl1 : xs1.length ≤ 1048576) : FnEq Try.prog 54 [.d (.lst 2 (xs0.map ResultD.dat)), .d (.lst 2 (xs1.map ClubD.dat)), .d (.int .i64 a2), .d (.int .i64 a3)] [.row 3 1 (((ansReservesOf xs0 xs1 a2 a3).getD []).map datI), .d (.bool (ansReservesOf xs0 xs1 a2 a3).isSome)] := by
  refine fn_ok G_ok Try.func54 rfl rfl ?_; simp only [Try.ntmps54, List.length_cons, List.length_nil, Nat.reduceAdd, Nat.reduceSub, enm]
  by_cases hv : QuOk xs0 xs1 a2 a3
  · have hb := bP_true hv
    have h40 := hv.1.1
    have htl := tkZ_len xs0 xs1 a2 a3
    have hti := tkZ_in xs0 xs1 a2 a3
    have htc := takenAndLeft_ok xs0 xs1 a2 a3 hv.1 hv.2.1
    have hans : ansReservesOf xs0 xs1 a2 a3 = some ((tkZ xs0 xs1 a2 a3).2.map (skZ xs0)) := optP_pos hv
    generalize tkZ xs0 xs1 a2 a3 = s at htl hti htc hans
    obtain ⟨tk, lf⟩ := s
    simp only at htl hti htc hans
    have hsl : (lf.map (skZ xs0)).length = lf.length := by simp
    repeat' (first | ((with_reducible first | refine execL_step (fun K' hK' => ?_)); (first | with_reducible refine s_none rfl ?_ | refine s_some2 rfl ?_); simp only [go_sem, hb, List.length_map]) | (with_reducible refine hK' _ ?_; clear hK' K') | (with_reducible refine hK _ ?_; clear hK K; try simp only [go_sem, hb, List.length_map]) | with_reducible (first | refine stp ?_ | refine pw_seq_opsK kl54 G_ok (fun K hK => ?_) | refine pw_ops G_ok (fun K hK => ?_)) | ((with_reducible first | apply CallK.eq); (focus (with_reducible first | exact canQuota_ok xs0 xs1 a2 a3 hl0 hk0 hl1 | exact htc | exact skatersOf_ok xs0 lf hl0 (by omega) hti.2)); (focus (first | exact rfl | (simp [RV.flat, D.sc, datI]; done))); try simp only [go_sem, hb, List.length_map]) | refine inBlockA_other (by decide) ?_ | (with_reducible refine pK_mk (fun hc => ?_) (fun hc => ?_) <;> (try simp only [go_sem, hb, List.length_map]) <;> (try simp at hc) <;> (try (exfalso; omega))) | ((first | refine pw_seq (pw_cond rfl (fun hc => ?_) (fun hc => ?_)) | refine pw_cond rfl (fun hc => ?_) (fun hc => ?_)) <;> (try simp at hc) <;> (try (exfalso; omega))) | with_reducible refine And.intro (by first | omega | (unfold inI; omega) | exact andI_inI _) ?_)
    refine retQ_ret rfl (by simp only [hsl, retL, ret1, hget, lk, List.length_map, List.length_nil, List.length_append, List.length_take, if_true, if_false, Nat.reduceEqDiff, Nat.reduceBEq, Bool.false_eq_true, Option.some.injEq]; rfl) (by simp [rowsOf, lk]) ?_; rw [hans]; rfl
  · have hb := bP_false hv
    have hans : ansReservesOf xs0 xs1 a2 a3 = none := optP_neg hv
    repeat' (first | ((with_reducible first | refine execL_step (fun K' hK' => ?_)); (first | with_reducible refine s_none rfl ?_ | refine s_some2 rfl ?_); simp only [go_sem, hb]) | (with_reducible refine hK' _ ?_; clear hK' K') | (with_reducible refine hK _ ?_; clear hK K; try simp only [go_sem, hb]) | with_reducible (first | refine stp ?_ | refine pw_seq_opsK kl54 G_ok (fun K hK => ?_) | refine pw_ops G_ok (fun K hK => ?_)) | ((with_reducible first | apply CallK.eq); (focus (with_reducible first | exact canQuota_ok xs0 xs1 a2 a3 hl0 hk0 hl1)); (focus (first | exact rfl | (simp [RV.flat, D.sc, datI]; done))); try simp only [go_sem, hb]) | refine inBlockA_other (by decide) ?_ | (with_reducible refine pK_mk (fun hc => ?_) (fun hc => ?_) <;> (try simp only [go_sem, hb]) <;> (try simp at hc) <;> (try (exfalso; omega))) | ((first | refine pw_seq (pw_cond rfl (fun hc => ?_) (fun hc => ?_)) | refine pw_cond rfl (fun hc => ?_) (fun hc => ?_)) <;> (try simp at hc) <;> (try (exfalso; omega))) | with_reducible refine And.intro (by first | omega | (unfold inI; omega) | exact andI_inI _) ?_)
    all_goals (refine retQ_ret rfl (by simp only [retL, ret1, hget, lk, List.length_map, List.length_nil, List.length_append, List.length_take, if_true, if_false, Nat.reduceEqDiff, Nat.reduceBEq, Bool.false_eq_true, Option.some.injEq]; rfl) (by simp [rowsOf, lk]) ?_; rw [hans]; rfl)
theorem spec_ReservesOf_ok (xs0 : List ResultD) (xs1 : List ClubD) (a2 : Int) (a3 : Int) (hl0 : xs0.length ≤ 1048576) (hk0 : ∀ r ∈ xs0, r.scores.length ≤ 1048576) (hl1 : xs1.length ≤ 1048576) : FnEq Try.prog 55 [.d (.lst 2 (xs0.map ResultD.dat)), .d (.lst 2 (xs1.map ClubD.dat)), .d (.int .i64 a2), .d (.int .i64 a3)] [.row 3 1 (((ansReservesOf xs0 xs1 a2 a3).getD []).map datI), .d (.bool (ansReservesOf xs0 xs1 a2 a3).isSome)] := by
  refine fn_ok G_ok Try.func55 rfl rfl ?_; simp only [Try.ntmps55, List.length_cons, List.length_nil, Nat.reduceAdd, Nat.reduceSub, enm]
  by_cases hv : QuOk xs0 xs1 a2 a3
  · have hb := bP_true hv
    have h40 := hv.1.1
    have htl := tkZ_len xs0 xs1 a2 a3
    have hti := tkZ_in xs0 xs1 a2 a3
    have htc := quTaken_ok xs0 xs1 a2 a3 hv.1 hv.2.1
    have hans : ansReservesOf xs0 xs1 a2 a3 = some ((tkZ xs0 xs1 a2 a3).2.map (skZ xs0)) := optP_pos hv
    generalize tkZ xs0 xs1 a2 a3 = s at htl hti htc hans
    obtain ⟨tk, lf⟩ := s
    simp only at htl hti htc hans
    have hsl : (lf.map (skZ xs0)).length = lf.length := by simp
    repeat' (first | ((with_reducible first | refine execL_step (fun K' hK' => ?_)); (first | with_reducible refine s_none rfl ?_ | refine s_some2 rfl ?_); simp only [go_sem, hb, List.length_map]) | (with_reducible refine hK' _ ?_; clear hK' K') | (with_reducible refine hK _ ?_; clear hK K; try simp only [go_sem, hb, List.length_map]) | with_reducible (first | refine stp ?_ | refine pw_seq_opsK kl55 G_ok (fun K hK => ?_) | refine pw_ops G_ok (fun K hK => ?_)) | ((with_reducible first | apply CallK.eq); (focus (with_reducible first | exact quAsked_ok xs0 xs1 a2 a3 hl0 hk0 hl1 | exact htc | exact quSkaters_ok xs0 lf hl0 (by omega) hti.2)); (focus (first | exact rfl | (simp [RV.flat, D.sc, datI]; done))); try simp only [go_sem, hb, List.length_map]) | refine inBlockA_other (by decide) ?_ | (with_reducible refine pK_mk (fun hc => ?_) (fun hc => ?_) <;> (try simp only [go_sem, hb, List.length_map]) <;> (try simp at hc) <;> (try (exfalso; omega))) | ((first | refine pw_seq (pw_cond rfl (fun hc => ?_) (fun hc => ?_)) | refine pw_cond rfl (fun hc => ?_) (fun hc => ?_)) <;> (try simp at hc) <;> (try (exfalso; omega))) | with_reducible refine And.intro (by first | omega | (unfold inI; omega) | exact andI_inI _) ?_)
    refine retQ_ret rfl (by simp only [hsl, retL, ret1, hget, lk, List.length_map, List.length_nil, List.length_append, List.length_take, if_true, if_false, Nat.reduceEqDiff, Nat.reduceBEq, Bool.false_eq_true, Option.some.injEq]; rfl) (by simp [rowsOf, lk]) ?_; rw [hans]; rfl
  · have hb := bP_false hv
    have hans : ansReservesOf xs0 xs1 a2 a3 = none := optP_neg hv
    repeat' (first | ((with_reducible first | refine execL_step (fun K' hK' => ?_)); (first | with_reducible refine s_none rfl ?_ | refine s_some2 rfl ?_); simp only [go_sem, hb]) | (with_reducible refine hK' _ ?_; clear hK' K') | (with_reducible refine hK _ ?_; clear hK K; try simp only [go_sem, hb]) | with_reducible (first | refine stp ?_ | refine pw_seq_opsK kl55 G_ok (fun K hK => ?_) | refine pw_ops G_ok (fun K hK => ?_)) | ((with_reducible first | apply CallK.eq); (focus (with_reducible first | exact quAsked_ok xs0 xs1 a2 a3 hl0 hk0 hl1)); (focus (first | exact rfl | (simp [RV.flat, D.sc, datI]; done))); try simp only [go_sem, hb]) | refine inBlockA_other (by decide) ?_ | (with_reducible refine pK_mk (fun hc => ?_) (fun hc => ?_) <;> (try simp only [go_sem, hb]) <;> (try simp at hc) <;> (try (exfalso; omega))) | ((first | refine pw_seq (pw_cond rfl (fun hc => ?_) (fun hc => ?_)) | refine pw_cond rfl (fun hc => ?_) (fun hc => ?_)) <;> (try simp at hc) <;> (try (exfalso; omega))) | with_reducible refine And.intro (by first | omega | (unfold inI; omega) | exact andI_inI _) ?_)
    all_goals (refine retQ_ret rfl (by simp only [retL, ret1, hget, lk, List.length_map, List.length_nil, List.length_append, List.length_take, if_true, if_false, Nat.reduceEqDiff, Nat.reduceBEq, Bool.false_eq_true, Option.some.injEq]; rfl) (by simp [rowsOf, lk]) ?_; rw [hans]; rfl)
end Go.Proofs.Ythkkpiodligmiaa
