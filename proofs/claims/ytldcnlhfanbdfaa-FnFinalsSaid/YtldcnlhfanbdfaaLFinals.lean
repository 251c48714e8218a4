/- For all bytes, what the law FnFinals draws and asks holds: it returns true: the statement's row, proved. No conditions. -/
import Derived.Test.YtldcnlhfanbdfaaRows
import Derived.Test.YtldcnlhfanbdfaaFz
set_option linter.unusedSimpArgs false
set_option linter.unusedVariables false
set_option maxHeartbeats 2000000
set_option maxRecDepth 100000
namespace Go.Proofs.Ytldcnlhfanbdfaa.lawFinals
open Go.ChangeShapes Go.WideShapes Go.ChangeAt Go.RowKit Go.Deep

theorem fdata {P : Program} {f : FuncId} {args : List PV} {rs : List RV} (h : FnEq P f args rs) : FnEq P f args (rs.map RV.data) := FnOK.data (h.mono fun _ e => by rw [e])
theorem final_facts (ls : List (List FinishD)) (n : Int) : ((ansFinalTeams ls n).getD []).length ≤ 12 ∧ ((ansFinalTeams ls n).isSome = true → (DisOk ls ∧ 1 ≤ n ∧ n ≤ 12) ∧ (ansFinalTeams ls n).getD [] = ix1 (finB ls n) 12) := by
  by_cases h : DisOk ls ∧ 1 ≤ n ∧ n ≤ 12
  · rw [show ansFinalTeams ls n = some _ from optP_pos h]; exact ⟨ix1_len _ _, fun _ => ⟨h, rfl⟩⟩
  · rw [show ansFinalTeams ls n = none from optP_neg h]; exact ⟨by simp, fun h' => by cases h'⟩
theorem places_facts (ls : List (List FinishD)) : ((ansTeamPlaces ls).getD []).length ≤ 12 ∧ (DisOk ls → ansTeamPlaces ls = some (upR (plT ls) 12)) := by
  by_cases h : DisOk ls
  · rw [show ansTeamPlaces ls = some _ from optP_pos h]; exact ⟨by simp [upR_len], fun _ => rfl⟩
  · rw [show ansTeamPlaces ls = none from optP_neg h]; exact ⟨by simp, fun h' => absurd h' h⟩
theorem win_facts (ls : List (List FinishD)) (t m : Int) : (ansCanStillWin ls t m).isSome = bP (AskT ls t m) ∧ (ansMostReach ls t m).isSome = bP (AskT ls t m) ∧ (bP (AskT ls t m) = true → AskT ls t m ∧ (ansCanStillWin ls t m).getD false = decide (mst ls t 12 ≤ ttD ls t + 24 * m) ∧ (ansMostReach ls t m).getD 0 = ttD ls t + 24 * m) := by
  by_cases h : AskT ls t m
  · rw [show ansCanStillWin ls t m = some _ from optP_pos h, show ansMostReach ls t m = some _ from optP_pos h, bP_true h]
    exact ⟨rfl, rfl, fun _ => ⟨h, mst_win h.1 h.2.2.1, rfl⟩⟩
  · rw [show ansCanStillWin ls t m = none from optP_neg h, show ansMostReach ls t m = none from optP_neg h, bP_false h]
    exact ⟨rfl, rfl, fun h' => by cases h'⟩
theorem law_FnFinals_ok (xs0 : List Int) (m0 : xs0.length ≤ maxLen ∧ ∀ x ∈ xs0, 0 ≤ x ∧ x ≤ 255) (xs1 : List Int) (m1 : xs1.length ≤ maxLen ∧ ∀ x ∈ xs1, 0 ≤ x ∧ x ≤ 255) : FnEq Try.prog 4 [.d (.lst 1 (xs0.map datY)), .d (.lst 1 (xs1.map datY))] [.d (.bool true)] := by
  have hT : bP True = true := bP_true trivial
  have hm0 := m0.1
  have hm1 := m1.1
  unfold maxLen at hm0 hm1
  refine fn_ok G_ok Try.func4 rfl rfl ?_; simp only [Try.ntmps4, List.length_cons, List.length_nil, Nat.reduceAdd, Nat.reduceSub, enm]
  repeat' (first | with_reducible refine stop_seq (id := 1) ?_ | with_reducible refine stop_one (id := 1) ?_ | (with_reducible refine execL_step (fun K' hK' => ?_); (first | with_reducible refine s_none rfl ?_ | refine s_some2 rfl ?_); simp only [go_sem]) | (with_reducible refine hK' _ ?_; clear hK' K') | with_reducible refine execL_nil ?_ | (with_reducible refine hK _ ?_; clear hK K; try simp only [go_sem]) | with_reducible refine pw_seq_opsK kl4 G_ok (fun K hK => ?_) | with_reducible (first | refine pw_seq (x := .seq _ _) ?_ | refine thenA_normal ?_ | refine thenA_exit ?_ | refine thenA_ret ?_ | refine inBlockA_same ?_ | refine inBlockA_ret ?_ | refine inBlockA_normal ?_) | refine inBlockA_other (by decide) ?_ | with_reducible (first | refine pw_seq (pw_block ?_) | refine pw_seq (pw_skip (thenA_normal ?_)) | refine pw_skip ?_ | refine pw_exit ?_ | refine pw_ret ?_ | refine pw_ops G_ok (fun K hK => ?_)) | with_reducible refine pw_block ?_ | (with_reducible refine pK_mk (fun hc => ?_) (fun hc => ?_) <;> (try simp only [go_sem]) <;> (try simp at hc) <;> (try (exfalso; omega))) | ((first | refine pw_seq (pw_cond rfl (fun hc => ?_) (fun hc => ?_)) | refine pw_cond rfl (fun hc => ?_) (fun hc => ?_)) <;> (try simp at hc) <;> (try (exfalso; omega))) | with_reducible refine And.intro (by first | omega | (unfold inI; omega) | exact andI_inI _) ?_)
  unfold Stop
  refine pw_seq (pw_region ?_)
  refine exec_sound G_ok ?_
  simp only [go_sem]
  refine exec_sound G_ok ?_
  simp only [go_sem]
  refine exec_sound G_ok ?_
  simp only [go_sem]
  refine exec_sound G_ok ?_
  simp only [go_sem]
  refine PQ.po (pq_addW rfl rfl rfl ?_)
  refine exec_sound G_ok ?_
  simp only [go_sem]
  refine thenA_normal ?_
  generalize IntKind.i64.wrap ((xs0.length : Int) + (xs1.length : Int)) = W
  by_cases hb : 1048576 < W
  · repeat' (first | (with_reducible refine execL_step (fun K' hK' => ?_); (first | with_reducible refine s_none rfl ?_ | refine s_some2 rfl ?_); simp only [go_sem, hb]) | (with_reducible refine hK' _ ?_; clear hK' K') | with_reducible refine execL_nil ?_ | (with_reducible refine hK _ ?_; clear hK K; try simp only [go_sem, hb]) | with_reducible refine pw_seq_opsK kl4 G_ok (fun K hK => ?_) | with_reducible (first | refine pw_seq (x := .seq _ _) ?_ | refine thenA_normal ?_ | refine thenA_exit ?_ | refine thenA_ret ?_ | refine inBlockA_same ?_ | refine inBlockA_ret ?_ | refine inBlockA_normal ?_) | refine inBlockA_other (by decide) ?_ | with_reducible (first | refine pw_seq (pw_block ?_) | refine pw_seq (pw_skip (thenA_normal ?_)) | refine pw_skip ?_ | refine pw_exit ?_ | refine pw_ret ?_ | refine pw_ops G_ok (fun K hK => ?_)) | with_reducible refine pw_block ?_ | (with_reducible refine pK_mk (fun hc => ?_) (fun hc => ?_) <;> (try simp only [go_sem, hb]) <;> (try simp at hc) <;> (try (exfalso; omega))) | ((first | refine pw_seq (pw_cond rfl (fun hc => ?_) (fun hc => ?_)) | refine pw_cond rfl (fun hc => ?_) (fun hc => ?_)) <;> (try simp at hc) <;> (try (exfalso; omega))) | with_reducible refine And.intro (by first | omega | (unfold inI; omega) | exact andI_inI _) ?_)
    all_goals first
      | (exfalso; omega)
      | (refine retQ_ret rfl rfl (by simp [rowsOf, lk]) ?_; rfl)
  · repeat' (first | (with_reducible refine execL_step (fun K' hK' => ?_); (first | with_reducible refine s_none rfl ?_ | refine s_some2 rfl ?_); simp only [go_sem, hb]) | (with_reducible refine hK' _ ?_; clear hK' K') | with_reducible refine execL_nil ?_ | (with_reducible refine hK _ ?_; clear hK K; try simp only [go_sem, hb]) | with_reducible refine pw_seq_opsK kl4 G_ok (fun K hK => ?_) | with_reducible (first | refine pw_seq (x := .seq _ _) ?_ | refine thenA_normal ?_ | refine thenA_exit ?_ | refine thenA_ret ?_ | refine inBlockA_same ?_ | refine inBlockA_ret ?_ | refine inBlockA_normal ?_) | refine inBlockA_other (by decide) ?_ | with_reducible (first | refine pw_seq (pw_block ?_) | refine pw_seq (pw_skip (thenA_normal ?_)) | refine pw_skip ?_ | refine pw_exit ?_ | refine pw_ret ?_ | refine pw_ops G_ok (fun K hK => ?_)) | with_reducible refine pw_block ?_ | (with_reducible refine pK_mk (fun hc => ?_) (fun hc => ?_) <;> (try simp only [go_sem, hb]) <;> (try simp at hc) <;> (try (exfalso; omega))) | ((first | refine pw_seq (pw_cond rfl (fun hc => ?_) (fun hc => ?_)) | refine pw_cond rfl (fun hc => ?_) (fun hc => ?_)) <;> (try simp at hc) <;> (try (exfalso; omega))) | with_reducible refine And.intro (by first | omega | (unfold inI; omega) | exact andI_inI _) ?_)
    all_goals first
      | (exfalso; omega)
      | skip
    refine CallK.of (drawFinal_ok xs0 m0.2 hm0) ?_; rintro _ ⟨ls, n, ⟨hls, hnn⟩, rfl⟩; refine ⟨(fun h => by cases h), ?_⟩; try simp only [go_sem]
    have hln : ∀ x ∈ ls, x.length ≤ 1048576 := fun x hx => Nat.le_trans (hls.2 x hx) (by decide)
    have hl6 := hls.1
    have hf1 := fdata (impl_FinalTeams_ok ls n (by omega) hln)
    have hf2 := fdata (spec_FinalTeams_ok ls n (by omega) hln)
    have hp1 := fdata (impl_TeamPlaces_ok ls (by omega) hln)
    have hp2 := fdata (spec_TeamPlaces_ok ls (by omega) hln)
    simp only [List.map_cons, List.map_nil, RV.data] at hf1 hf2 hp1 hp2
    obtain ⟨hfl, hff⟩ := final_facts ls n
    generalize (ansFinalTeams ls n).getD [] = fin at hf1 hf2 hfl hff
    generalize (ansFinalTeams ls n).isSome = ok at hf1 hf2 hff
    obtain ⟨hpl, hpf⟩ := places_facts ls
    generalize hO : ansTeamPlaces ls = op at hp1 hp2 hpl hpf
    generalize hP : op.getD [] = pl at hp1 hp2 hpl
    generalize hF : op.isSome = five at hp1 hp2
    repeat' (first | (with_reducible refine execL_step (fun K' hK' => ?_); (first | with_reducible refine s_none rfl ?_ | refine s_some2 rfl ?_); simp only [go_sem]) | (with_reducible refine hK' _ ?_; clear hK' K') | with_reducible refine execL_nil ?_ | (with_reducible refine hK _ ?_; clear hK K; try simp only [go_sem]) | with_reducible refine pw_seq_opsK kl4 G_ok (fun K hK => ?_) | (with_reducible refine CallK.eq (hf1) ?_ ?_; (focus (simp [RV.flat, D.sc, datI]; done)); try simp only [go_sem]) | (with_reducible refine CallK.eq (hf2) ?_ ?_; (focus (simp [RV.flat, D.sc, datI]; done)); try simp only [go_sem]) | with_reducible (first | refine pw_seq (x := .seq _ _) ?_ | refine thenA_normal ?_ | refine thenA_exit ?_ | refine thenA_ret ?_ | refine inBlockA_same ?_ | refine inBlockA_ret ?_ | refine inBlockA_normal ?_) | refine inBlockA_other (by decide) ?_ | with_reducible (first | refine pw_seq (pw_block ?_) | refine pw_seq (pw_skip (thenA_normal ?_)) | refine pw_skip ?_ | refine pw_exit ?_ | refine pw_ret ?_ | refine pw_ops G_ok (fun K hK => ?_)) | with_reducible refine pw_block ?_ | (with_reducible refine pK_mk (fun hc => ?_) (fun hc => ?_) <;> (try simp only [go_sem]) <;> (try simp at hc) <;> (try (exfalso; omega))) | ((first | refine pw_seq (pw_cond rfl (fun hc => ?_) (fun hc => ?_)) | refine pw_cond rfl (fun hc => ?_) (fun hc => ?_)) <;> (try simp at hc) <;> (try (exfalso; omega))) | with_reducible refine And.intro (by first | omega | (unfold inI; omega) | exact andI_inI _) ?_)
    refine CallK.of (drawWin_ok xs1 m1.2 hm1) ?_; rintro _ ⟨la, t, m, ⟨hla, htt, hmm⟩, rfl⟩; refine ⟨(fun h => by cases h), ?_⟩; try simp only [go_sem]
    have hlan : ∀ x ∈ la, x.length ≤ 1048576 := fun x hx => Nat.le_trans (hla.2 x hx) (by decide)
    have hla6 := hla.1
    have hc1 := impl_CanStillWin_ok la t m (by omega) hlan
    have hc2 := spec_CanStillWin_ok la t m (by omega) hlan
    have hr1 := impl_MostReach_ok la t m (by omega) hlan
    have hr2 := spec_MostReach_ok la t m (by omega) hlan
    obtain ⟨hw1, hw2, hw3⟩ := win_facts la t m
    rw [hw1] at hc1 hc2
    rw [hw2] at hr1 hr2
    generalize (ansCanStillWin la t m).getD false = can at hc1 hc2 hw3
    generalize (ansMostReach la t m).getD 0 = reach at hr1 hr2 hw3
    generalize bP (AskT la t m) = one at hc1 hc2 hr1 hr2 hw3
    repeat' (first | with_reducible refine stop_seq (id := 13) ?_ | with_reducible refine stop_one (id := 13) ?_ | (with_reducible refine execL_step (fun K' hK' => ?_); (first | with_reducible refine s_none rfl ?_ | refine s_some2 rfl ?_); simp only [go_sem]) | (with_reducible refine hK' _ ?_; clear hK' K') | with_reducible refine execL_nil ?_ | (with_reducible refine hK _ ?_; clear hK K; try simp only [go_sem]) | with_reducible refine pw_seq_opsK kl4 G_ok (fun K hK => ?_) | (with_reducible refine CallK.eq (hc1) ?_ ?_; (focus (simp [RV.flat, D.sc, datI]; done)); try simp only [go_sem]) | (with_reducible refine CallK.eq (hc2) ?_ ?_; (focus (simp [RV.flat, D.sc, datI]; done)); try simp only [go_sem]) | (with_reducible refine CallK.eq (hr1) ?_ ?_; (focus (simp [RV.flat, D.sc, datI]; done)); try simp only [go_sem]) | (with_reducible refine CallK.eq (hr2) ?_ ?_; (focus (simp [RV.flat, D.sc, datI]; done)); try simp only [go_sem]) | (with_reducible refine CallK.eq (hp1) ?_ ?_; (focus (simp [RV.flat, D.sc, datI]; done)); try simp only [go_sem]) | (with_reducible refine CallK.eq (hp2) ?_ ?_; (focus (simp [RV.flat, D.sc, datI]; done)); try simp only [go_sem]) | with_reducible (first | refine pw_seq (x := .seq _ _) ?_ | refine thenA_normal ?_ | refine thenA_exit ?_ | refine thenA_ret ?_ | refine inBlockA_same ?_ | refine inBlockA_ret ?_ | refine inBlockA_normal ?_) | refine inBlockA_other (by decide) ?_ | with_reducible (first | refine pw_seq (pw_block ?_) | refine pw_seq (pw_skip (thenA_normal ?_)) | refine pw_skip ?_ | refine pw_exit ?_ | refine pw_ret ?_ | refine pw_ops G_ok (fun K hK => ?_)) | with_reducible refine pw_block ?_ | (with_reducible refine pK_mk (fun hc => ?_) (fun hc => ?_) <;> (try simp only [go_sem]) <;> (try simp at hc) <;> (try (exfalso; omega))) | ((first | refine pw_seq (pw_cond rfl (fun hc => ?_) (fun hc => ?_)) | refine pw_cond rfl (fun hc => ?_) (fun hc => ?_)) <;> (try simp at hc) <;> (try (exfalso; omega))) | with_reducible refine And.intro (by first | omega | (unfold inI; omega) | exact andI_inI _) ?_)
    unfold Stop
    obtain ⟨N, hN⟩ : ∃ N : Nat, N = 0 := ⟨0, rfl⟩
    refine (fun (key1 : ∀ N : Nat, N = 0 → PW Try.prog ?c1 ?Q1 ⟨⟨279, [(5, .d (.lst 1 (ls.map disD))), (6, .d (.int .i64 n)), (8, .d (.bool ok)), (9, .d (.lst 1 (fin.map datI))), (23, .d (.bool five)), (24, .d (.lst 1 (pl.map datI)))]⟩, [], 0⟩) => ?m1) ?k1
    case m1 =>
      repeat' (first | with_reducible refine stop_seq (id := 16) ?_ | with_reducible refine stop_one (id := 16) ?_ | with_reducible refine stop_seq (id := 29) ?_ | with_reducible refine stop_one (id := 29) ?_ | (with_reducible refine execL_step (fun K' hK' => ?_); (first | with_reducible refine s_none rfl ?_ | refine s_some2 rfl ?_); simp only [go_sem, hT, bne_self_eq_false]) | (with_reducible refine hK' _ ?_; clear hK' K') | with_reducible refine execL_nil ?_ | (with_reducible refine hK _ ?_; clear hK K; try simp only [go_sem, hT, bne_self_eq_false]) | with_reducible refine pw_seq_opsK kl4 G_ok (fun K hK => ?_) | (with_reducible refine CallK.eq (qInts_ok fin fin (by omega) (by omega)) ?_ ?_; (focus (simp [RV.flat, D.sc, datI]; done)); try simp only [go_sem, hT, bne_self_eq_false]) | (with_reducible refine CallK.eq (qInts_ok pl pl (by omega) (by omega)) ?_ ?_; (focus (simp [RV.flat, D.sc, datI]; done)); try simp only [go_sem, hT, bne_self_eq_false]) | with_reducible (first | refine pw_seq (x := .seq _ _) ?_ | refine thenA_normal ?_ | refine thenA_exit ?_ | refine thenA_ret ?_ | refine inBlockA_same ?_ | refine inBlockA_ret ?_ | refine inBlockA_normal ?_) | refine inBlockA_other (by decide) ?_ | with_reducible (first | refine pw_seq (pw_block ?_) | refine pw_seq (pw_skip (thenA_normal ?_)) | refine pw_skip ?_ | refine pw_exit ?_ | refine pw_ret ?_ | refine pw_ops G_ok (fun K hK => ?_)) | with_reducible refine pw_block ?_ | (with_reducible refine pK_mk (fun hc => ?_) (fun hc => ?_) <;> (try simp only [go_sem, hT, bne_self_eq_false]) <;> (try simp at hc) <;> (try (exfalso; omega))) | ((first | refine pw_seq (pw_cond rfl (fun hc => ?_) (fun hc => ?_)) | refine pw_cond rfl (fun hc => ?_) (fun hc => ?_)) <;> (try simp at hc) <;> (try (exfalso; omega))) | with_reducible refine And.intro (by first | omega | (unfold inI; omega) | exact andI_inI _) ?_)
      · obtain ⟨hA, hcan, hreach⟩ := hw3 hc
        obtain ⟨hd, ht2, hm2⟩ := hA
        have hta1 := fdata (impl_TeamTotals_ok la (by omega) hlan)
        have hta2 := fdata (spec_TeamTotals_ok la (by omega) hlan)
        rw [show ansTeamTotals la = some _ from optP_pos hd] at hta1 hta2
        simp only [List.map_cons, List.map_nil, RV.data, Option.getD_some, Option.isSome_some] at hta1 hta2
        obtain ⟨i, rfl⟩ : ∃ i : Nat, t = (i : Int) + 1 := ⟨(t - 1).toNat, by omega⟩
        have hul := upR_len (fun i => ttD la ((i : Int) + 1)) 12
        have hua := fun (j : Nat) (h : j < 12) => upR_at (f := fun i => ttD la ((i : Int) + 1)) (k := 12) (i := j) h
        have hui := hua i (by omega)
        have htb := ttD_bd hd ((i : Int) + 1)
        have hi1 : ((i : Int) + 1 - 1) = (i : Int) := by omega
        obtain ⟨U, hU⟩ : ∃ U, U = upR (fun i => ttD la ((i : Int) + 1)) 12 := ⟨_, rfl⟩
        rw [← hU] at hta1 hta2 hul hui
        simp only [← hU] at hua
        subst hreach
        unfold Stop
        repeat' (first | (with_reducible refine execL_step (fun K' hK' => ?_); (first | with_reducible refine s_none rfl ?_ | refine s_some2 rfl ?_); simp only [go_sem, hT, hi1, List.getElem?_map, hui, Option.map_some, datI, bne_self_eq_false, Int.toNat_natCast]) | (with_reducible refine hK' _ ?_; clear hK' K') | with_reducible refine execL_nil ?_ | (with_reducible refine hK _ ?_; clear hK K; try simp only [go_sem, hT, hi1, List.getElem?_map, hui, Option.map_some, datI, bne_self_eq_false, Int.toNat_natCast]) | with_reducible refine pw_seq_opsK kl4 G_ok (fun K hK => ?_) | (with_reducible refine CallK.eq (hta1) ?_ ?_; (focus (simp [RV.flat, D.sc, datI]; done)); try simp only [go_sem, hT, hi1, List.getElem?_map, hui, Option.map_some, datI, bne_self_eq_false, Int.toNat_natCast]) | (with_reducible refine CallK.eq (hta2) ?_ ?_; (focus (simp [RV.flat, D.sc, datI]; done)); try simp only [go_sem, hT, hi1, List.getElem?_map, hui, Option.map_some, datI, bne_self_eq_false, Int.toNat_natCast]) | (with_reducible refine CallK.eq (qInts_ok U U (by omega) (by omega)) ?_ ?_; (focus (simp [RV.flat, D.sc, datI]; done)); try simp only [go_sem, hT, hi1, List.getElem?_map, hui, Option.map_some, datI, bne_self_eq_false, Int.toNat_natCast]) | with_reducible (first | refine pw_seq (x := .seq _ _) ?_ | refine thenA_normal ?_ | refine thenA_exit ?_ | refine thenA_ret ?_ | refine inBlockA_same ?_ | refine inBlockA_ret ?_ | refine inBlockA_normal ?_) | refine inBlockA_other (by decide) ?_ | with_reducible (first | refine pw_seq (pw_block ?_) | refine pw_seq (pw_skip (thenA_normal ?_)) | refine pw_skip ?_ | refine pw_exit ?_ | refine pw_ret ?_ | refine pw_ops G_ok (fun K hK => ?_)) | with_reducible refine pw_block ?_ | (with_reducible refine pK_mk (fun hc => ?_) (fun hc => ?_) <;> (try simp only [go_sem, hT, hi1, List.getElem?_map, hui, Option.map_some, datI, bne_self_eq_false, Int.toNat_natCast]) <;> (try simp at hc) <;> (try (exfalso; omega))) | ((first | refine pw_seq (pw_cond rfl (fun hc => ?_) (fun hc => ?_)) | refine pw_cond rfl (fun hc => ?_) (fun hc => ?_)) <;> (try simp at hc) <;> (try (exfalso; omega))) | with_reducible refine And.intro (by first | omega | (unfold inI; omega) | exact andI_inI _) ?_)
        all_goals first
          | (exfalso; omega)
          | skip
        refine pw_loop_over [4, 30, 31, 32, 186, 187, 188, 189, 190, 191, 192, 193, 194, 195, 196, 197, 198, 199, 200, 201] (fun k : Nat => [(186, .d (.int .i64 (k : Int))), (30, .d (.int .i64 (mst la ((i : Int) + 1) k)))]) (fun k : Nat => []) 0 (fun k : Nat => k ≤ 12) (fun k : Nat => 12 - k) 0 (Nat.zero_le _) (fits_mk [] (by simp [renL_d, bdL_d, sg, over, wipe, wl, memN, ins, rm, lk, fitFr, fit1, ren, renL, bd, bdL, app, fitHp, hget, renB, bdB, hul, mst] <;> omega)) ?_
        intro k hk
        have hmb := mst_bd hd ((i : Int) + 1) k
        simp only [over, wipe, wl, memN, ins, rm, if_true, if_false, Nat.reduceEqDiff, Bool.false_eq_true, reduceCtorEq]
        by_cases hlt : k < 12
        · have hx := hua k hlt
          have hkb := ttD_bd hd ((k : Int) + 1)
          have hlt' : (k : Int) < 12 := by omega
          by_cases hcd : (k : Int) + 1 ≠ (i : Int) + 1 ∧ mst la ((i : Int) + 1) k < ttD la ((k : Int) + 1)
          · have hs1 : mst la ((i : Int) + 1) (k + 1) = ttD la ((k : Int) + 1) := if_pos hcd
            repeat' (first | (with_reducible refine execL_step (fun K' hK' => ?_); (first | with_reducible refine s_none rfl ?_ | refine s_some2 rfl ?_); simp only [go_sem, hul, hlt', List.getElem?_map, hx, Option.map_some, datI]) | (with_reducible refine hK' _ ?_; clear hK' K') | with_reducible refine execL_nil ?_ | (with_reducible refine hK _ ?_; clear hK K; try simp only [go_sem, hul, hlt', List.getElem?_map, hx, Option.map_some, datI]) | with_reducible refine pw_seq_opsK kl4 G_ok (fun K hK => ?_) | with_reducible (first | refine pw_seq (x := .seq _ _) ?_ | refine thenA_normal ?_ | refine thenA_exit ?_ | refine thenA_ret ?_ | refine inBlockA_same ?_ | refine inBlockA_ret ?_ | refine inBlockA_normal ?_) | refine inBlockA_other (by decide) ?_ | with_reducible (first | refine pw_seq (pw_block ?_) | refine pw_seq (pw_skip (thenA_normal ?_)) | refine pw_skip ?_ | refine pw_exit ?_ | refine pw_ret ?_ | refine pw_ops G_ok (fun K hK => ?_)) | with_reducible refine pw_block ?_ | (with_reducible refine pK_mk (fun hc => ?_) (fun hc => ?_) <;> (try simp only [go_sem, hul, hlt', List.getElem?_map, hx, Option.map_some, datI]) <;> (try simp at hc) <;> (try (exfalso; omega))) | ((first | refine pw_seq (pw_cond rfl (fun hc => ?_) (fun hc => ?_)) | refine pw_cond rfl (fun hc => ?_) (fun hc => ?_)) <;> (try simp at hc) <;> (try (exfalso; omega))) | with_reducible refine And.intro (by first | omega | (unfold inI; omega) | exact andI_inI _) ?_)
            all_goals first
              | (exfalso; omega)
              | skip
            exact ⟨k + 1, by omega, by omega, (fits_mk [] (by simp [renL_d, bdL_d, sg, over, wipe, wl, memN, ins, rm, lk, fitFr, fit1, ren, renL, bd, bdL, app, fitHp, hget, renB, bdB, hs1] <;> omega))⟩
          · have hs1 : mst la ((i : Int) + 1) (k + 1) = mst la ((i : Int) + 1) k := if_neg hcd
            repeat' (first | (with_reducible refine execL_step (fun K' hK' => ?_); (first | with_reducible refine s_none rfl ?_ | refine s_some2 rfl ?_); simp only [go_sem, hul, hlt', List.getElem?_map, hx, Option.map_some, datI]) | (with_reducible refine hK' _ ?_; clear hK' K') | with_reducible refine execL_nil ?_ | (with_reducible refine hK _ ?_; clear hK K; try simp only [go_sem, hul, hlt', List.getElem?_map, hx, Option.map_some, datI]) | with_reducible refine pw_seq_opsK kl4 G_ok (fun K hK => ?_) | with_reducible (first | refine pw_seq (x := .seq _ _) ?_ | refine thenA_normal ?_ | refine thenA_exit ?_ | refine thenA_ret ?_ | refine inBlockA_same ?_ | refine inBlockA_ret ?_ | refine inBlockA_normal ?_) | refine inBlockA_other (by decide) ?_ | with_reducible (first | refine pw_seq (pw_block ?_) | refine pw_seq (pw_skip (thenA_normal ?_)) | refine pw_skip ?_ | refine pw_exit ?_ | refine pw_ret ?_ | refine pw_ops G_ok (fun K hK => ?_)) | with_reducible refine pw_block ?_ | (with_reducible refine pK_mk (fun hc => ?_) (fun hc => ?_) <;> (try simp only [go_sem, hul, hlt', List.getElem?_map, hx, Option.map_some, datI]) <;> (try simp at hc) <;> (try (exfalso; omega))) | ((first | refine pw_seq (pw_cond rfl (fun hc => ?_) (fun hc => ?_)) | refine pw_cond rfl (fun hc => ?_) (fun hc => ?_)) <;> (try simp at hc) <;> (try (exfalso; omega))) | with_reducible refine And.intro (by first | omega | (unfold inI; omega) | exact andI_inI _) ?_)
            all_goals first
              | (exfalso; omega)
              | exact ⟨k + 1, by omega, by omega, (fits_mk [] (by simp [renL_d, bdL_d, sg, over, wipe, wl, memN, ins, rm, lk, fitFr, fit1, ren, renL, bd, bdL, app, fitHp, hget, renB, bdB, hs1] <;> omega))⟩
        · obtain rfl : k = 12 := by omega
          rw [hcan]
          repeat' (first | with_reducible refine stop_seq (id := 29) ?_ | with_reducible refine stop_one (id := 29) ?_ | (with_reducible refine execL_step (fun K' hK' => ?_); (first | with_reducible refine s_none rfl ?_ | refine s_some2 rfl ?_); simp only [go_sem, hul, bne_self_eq_false]) | (with_reducible refine hK' _ ?_; clear hK' K') | with_reducible refine execL_nil ?_ | (with_reducible refine hK _ ?_; clear hK K; try simp only [go_sem, hul, bne_self_eq_false]) | with_reducible refine pw_seq_opsK kl4 G_ok (fun K hK => ?_) | with_reducible (first | refine pw_seq (x := .seq _ _) ?_ | refine thenA_normal ?_ | refine thenA_exit ?_ | refine thenA_ret ?_ | refine inBlockA_same ?_ | refine inBlockA_ret ?_ | refine inBlockA_normal ?_) | refine inBlockA_other (by decide) ?_ | with_reducible (first | refine pw_seq (pw_block ?_) | refine pw_seq (pw_skip (thenA_normal ?_)) | refine pw_skip ?_ | refine pw_exit ?_ | refine pw_ret ?_ | refine pw_ops G_ok (fun K hK => ?_)) | with_reducible refine pw_block ?_ | (with_reducible refine pK_mk (fun hc => ?_) (fun hc => ?_) <;> (try simp only [go_sem, hul, bne_self_eq_false]) <;> (try simp at hc) <;> (try (exfalso; omega))) | ((first | refine pw_seq (pw_cond rfl (fun hc => ?_) (fun hc => ?_)) | refine pw_cond rfl (fun hc => ?_) (fun hc => ?_)) <;> (try simp at hc) <;> (try (exfalso; omega))) | with_reducible refine And.intro (by first | omega | (unfold inI; omega) | exact andI_inI _) ?_)
          unfold Stop
          have h := key1 N hN
          refine pw_fits (s0 := ⟨⟨279, [(5, .d (.lst 1 (ls.map disD))), (6, .d (.int .i64 n)), (8, .d (.bool ok)), (9, .d (.lst 1 (fin.map datI))), (23, .d (.bool five)), (24, .d (.lst 1 (pl.map datI)))]⟩, [], 0⟩) (fits_mk [] (by simp [renL_d, bdL_d, sg, over, wipe, wl, memN, ins, rm, lk, fitFr, fit1, ren, renL, bd, bdL, app, fitHp, hget, renB, bdB] <;> omega)) ?_
          exact h
      · unfold Stop
        have h := key1 N hN
        refine pw_fits (s0 := ⟨⟨279, [(5, .d (.lst 1 (ls.map disD))), (6, .d (.int .i64 n)), (8, .d (.bool ok)), (9, .d (.lst 1 (fin.map datI))), (23, .d (.bool five)), (24, .d (.lst 1 (pl.map datI)))]⟩, [], 0⟩) (fits_mk [] (by simp [renL_d, bdL_d, sg, over, wipe, wl, memN, ins, rm, lk, fitFr, fit1, ren, renL, bd, bdL, app, fitHp, hget, renB, bdB] <;> omega)) ?_
        exact h
    case k1 =>
      intro _ _
      cases ok
      · repeat' (first | (with_reducible refine execL_step (fun K' hK' => ?_); (first | with_reducible refine s_none rfl ?_ | refine s_some2 rfl ?_); simp only [go_sem]) | (with_reducible refine hK' _ ?_; clear hK' K') | with_reducible refine execL_nil ?_ | (with_reducible refine hK _ ?_; clear hK K; try simp only [go_sem]) | with_reducible refine pw_seq_opsK kl4 G_ok (fun K hK => ?_) | with_reducible (first | refine pw_seq (x := .seq _ _) ?_ | refine thenA_normal ?_ | refine thenA_exit ?_ | refine thenA_ret ?_ | refine inBlockA_same ?_ | refine inBlockA_ret ?_ | refine inBlockA_normal ?_) | refine inBlockA_other (by decide) ?_ | with_reducible (first | refine pw_seq (pw_block ?_) | refine pw_seq (pw_skip (thenA_normal ?_)) | refine pw_skip ?_ | refine pw_exit ?_ | refine pw_ret ?_ | refine pw_ops G_ok (fun K hK => ?_)) | with_reducible refine pw_block ?_ | (with_reducible refine pK_mk (fun hc => ?_) (fun hc => ?_) <;> (try simp only [go_sem]) <;> (try simp at hc) <;> (try (exfalso; omega))) | ((first | refine pw_seq (pw_cond rfl (fun hc => ?_) (fun hc => ?_)) | refine pw_cond rfl (fun hc => ?_) (fun hc => ?_)) <;> (try simp at hc) <;> (try (exfalso; omega))) | with_reducible refine And.intro (by first | omega | (unfold inI; omega) | exact andI_inI _) ?_)
        refine retQ_ret rfl rfl (by simp [rowsOf, lk]) ?_; rfl
      · obtain ⟨⟨hd, hn1, hn2⟩, hfe⟩ := hff rfl
        have hop := hpf hd
        rw [hop] at hP hF
        obtain ⟨nn, rfl⟩ : ∃ nn : Nat, n = (nn : Int) := ⟨n.toNat, by omega⟩
        have hfn := fin_len hd (n := nn) (by omega)
        rw [← hfe] at hfn
        have hfn' : ¬ (fin.length : Int) < (nn : Int) := by omega
        have hF' : five = true := hF.symm
        have hP' : pl = upR (plT ls) 12 := hP.symm
        have hplen : pl.length = 12 := by rw [hP', upR_len]
        have hpa : ∀ j : Nat, j < 12 → pl[j]? = some (plT ls j) := fun j hj => by rw [hP']; exact upR_at hj
        have hp0 := hpa 0 (by omega)
        repeat' (first | (with_reducible refine execL_step (fun K' hK' => ?_); (first | with_reducible refine s_none rfl ?_ | refine s_some2 rfl ?_); simp only [go_sem, hfn', hF', hplen]) | (with_reducible refine hK' _ ?_; clear hK' K') | with_reducible refine execL_nil ?_ | (with_reducible refine hK _ ?_; clear hK K; try simp only [go_sem, hfn', hF', hplen]) | with_reducible refine pw_seq_opsK kl4 G_ok (fun K hK => ?_) | with_reducible (first | refine pw_seq (x := .seq _ _) ?_ | refine thenA_normal ?_ | refine thenA_exit ?_ | refine thenA_ret ?_ | refine inBlockA_same ?_ | refine inBlockA_ret ?_ | refine inBlockA_normal ?_) | refine inBlockA_other (by decide) ?_ | with_reducible (first | refine pw_seq (pw_block ?_) | refine pw_seq (pw_skip (thenA_normal ?_)) | refine pw_skip ?_ | refine pw_exit ?_ | refine pw_ret ?_ | refine pw_ops G_ok (fun K hK => ?_)) | with_reducible refine pw_block ?_ | (with_reducible refine pK_mk (fun hc => ?_) (fun hc => ?_) <;> (try simp only [go_sem, hfn', hF', hplen]) <;> (try simp at hc) <;> (try (exfalso; omega))) | ((first | refine pw_seq (pw_cond rfl (fun hc => ?_) (fun hc => ?_)) | refine pw_cond rfl (fun hc => ?_) (fun hc => ?_)) <;> (try simp at hc) <;> (try (exfalso; omega))) | with_reducible refine And.intro (by first | omega | (unfold inI; omega) | exact andI_inI _) ?_)
        all_goals first
          | (exfalso; omega)
          | skip
        refine pw_loop_over [4, 33, 34, 35, 36, 219, 220, 221, 222, 223, 224, 225, 226, 227, 228, 229, 230, 231, 232, 233, 234, 235, 236, 237, 238, 239, 240, 241, 242, 243, 244, 245, 246, 247, 248, 249, 250, 251, 252, 253, 254, 255, 256, 257, 258, 259, 260, 261, 262, 263, 264, 265, 266, 267, 268, 269, 270, 271, 272, 273, 274, 275, 276, 277, 278] (fun k : Nat => [(219, .d (.int .i64 (k : Int)))]) (fun k : Nat => []) 0 (fun k : Nat => k ≤ 12) (fun k : Nat => 12 - k) 0 (Nat.zero_le _) (fits_mk [] (by simp [renL_d, bdL_d, sg, over, wipe, wl, memN, ins, rm, lk, fitFr, fit1, ren, renL, bd, bdL, app, fitHp, hget, renB, bdB, hplen] <;> omega)) ?_
        intro k hk
        simp only [over, wipe, wl, memN, ins, rm, if_true, if_false, Nat.reduceEqDiff, Bool.false_eq_true, reduceCtorEq]
        by_cases hlt : k < 12
        · have hx := hpa k hlt
          have hlt' : (k : Int) < 12 := by omega
          have hmem := fin_mem (p := finB ls (nn : Int)) hlt
          rw [← hfe] at hmem
          have hmem2 : finB ls (nn : Int) k = decide (plT ls k ≤ (nn : Int)) := rfl
          have hpl1 : 1 ≤ plT ls k ∧ plT ls k ≤ 13 := by have := ahN_le ls k 12; unfold plT; omega
          have hq := qHas_ok fin ((k : Int) + 1) (by omega)
          rw [hmem, hmem2] at hq
          have hcc := impl_CompareTeams_ok ls ((k : Int) + 1) 1 (by omega) hln
          rw [show ansCompareTeams ls ((k : Int) + 1) 1 = some (cmpT ls ((k : Int) + 1) 1) from optP_pos ⟨hd, ⟨by omega, by omega⟩, by omega, by omega⟩] at hcc
          simp only [Option.getD_some, Option.isSome_some] at hcc
          have hkey := pl_key hd hlt
          have hcbd := cmpT_bd ls ((k : Int) + 1) 1
          obtain ⟨g, hg⟩ : ∃ g, g = cmpT ls ((k : Int) + 1) 1 := ⟨_, rfl⟩
          rw [← hg] at hcc hkey hcbd
          repeat' (first | (with_reducible refine execL_step (fun K' hK' => ?_); (first | with_reducible refine s_none rfl ?_ | refine s_some2 rfl ?_); simp only [go_sem, hplen, hlt', List.getElem?_map, hx, hp0, Option.map_some, datI, bne_self_eq_false]) | (with_reducible refine hK' _ ?_; clear hK' K') | with_reducible refine execL_nil ?_ | (with_reducible refine hK _ ?_; clear hK K; try simp only [go_sem, hplen, hlt', List.getElem?_map, hx, hp0, Option.map_some, datI, bne_self_eq_false]) | with_reducible refine pw_seq_opsK kl4 G_ok (fun K hK => ?_) | (with_reducible refine CallK.eq (hq) ?_ ?_; (focus (simp [RV.flat, D.sc, datI]; done)); try simp only [go_sem, hplen, hlt', List.getElem?_map, hx, hp0, Option.map_some, datI, bne_self_eq_false]) | (with_reducible refine CallK.eq (hcc) ?_ ?_; (focus (simp [RV.flat, D.sc, datI]; done)); try simp only [go_sem, hplen, hlt', List.getElem?_map, hx, hp0, Option.map_some, datI, bne_self_eq_false]) | with_reducible (first | refine pw_seq (x := .seq _ _) ?_ | refine thenA_normal ?_ | refine thenA_exit ?_ | refine thenA_ret ?_ | refine inBlockA_same ?_ | refine inBlockA_ret ?_ | refine inBlockA_normal ?_) | refine inBlockA_other (by decide) ?_ | with_reducible (first | refine pw_seq (pw_block ?_) | refine pw_seq (pw_skip (thenA_normal ?_)) | refine pw_skip ?_ | refine pw_exit ?_ | refine pw_ret ?_ | refine pw_ops G_ok (fun K hK => ?_)) | with_reducible refine pw_block ?_ | (with_reducible refine pK_mk (fun hc => ?_) (fun hc => ?_) <;> (try simp only [go_sem, hplen, hlt', List.getElem?_map, hx, hp0, Option.map_some, datI, bne_self_eq_false]) <;> (try simp at hc) <;> (try (exfalso; omega))) | ((first | refine pw_seq (pw_cond rfl (fun hc => ?_) (fun hc => ?_)) | refine pw_cond rfl (fun hc => ?_) (fun hc => ?_)) <;> (try simp at hc) <;> (try (exfalso; omega))) | with_reducible refine And.intro (by first | omega | (unfold inI; omega) | exact andI_inI _) ?_)
          all_goals first
            | (exfalso; omega)
            | exact ⟨k + 1, by omega, by omega, (fits_mk [] (by simp [renL_d, bdL_d, sg, over, wipe, wl, memN, ins, rm, lk, fitFr, fit1, ren, renL, bd, bdL, app, fitHp, hget, renB, bdB, hplen] <;> omega))⟩
        · obtain rfl : k = 12 := by omega
          repeat' (first | (with_reducible refine execL_step (fun K' hK' => ?_); (first | with_reducible refine s_none rfl ?_ | refine s_some2 rfl ?_); simp only [go_sem, hplen]) | (with_reducible refine hK' _ ?_; clear hK' K') | with_reducible refine execL_nil ?_ | (with_reducible refine hK _ ?_; clear hK K; try simp only [go_sem, hplen]) | with_reducible refine pw_seq_opsK kl4 G_ok (fun K hK => ?_) | with_reducible (first | refine pw_seq (x := .seq _ _) ?_ | refine thenA_normal ?_ | refine thenA_exit ?_ | refine thenA_ret ?_ | refine inBlockA_same ?_ | refine inBlockA_ret ?_ | refine inBlockA_normal ?_) | refine inBlockA_other (by decide) ?_ | with_reducible (first | refine pw_seq (pw_block ?_) | refine pw_seq (pw_skip (thenA_normal ?_)) | refine pw_skip ?_ | refine pw_exit ?_ | refine pw_ret ?_ | refine pw_ops G_ok (fun K hK => ?_)) | with_reducible refine pw_block ?_ | (with_reducible refine pK_mk (fun hc => ?_) (fun hc => ?_) <;> (try simp only [go_sem, hplen]) <;> (try simp at hc) <;> (try (exfalso; omega))) | ((first | refine pw_seq (pw_cond rfl (fun hc => ?_) (fun hc => ?_)) | refine pw_cond rfl (fun hc => ?_) (fun hc => ?_)) <;> (try simp at hc) <;> (try (exfalso; omega))) | with_reducible refine And.intro (by first | omega | (unfold inI; omega) | exact andI_inI _) ?_)
          refine retQ_ret rfl rfl (by simp [rowsOf, lk]) ?_; rfl

theorem own : ownKnob Try.prog.godebug = none := by kernel_rfl
theorem laidOut : laidOutB Try.prog = true := by kernel_rfl
set_option linter.unusedVariables false in
set_option maxRecDepth 100000 in
theorem lifted (os : Os) (started : os.Started) (H : Type) (enc : TypeId × Value → H) :
    ReturnsInHanded {} Try.checked os 4 .any (Rows.fnFinalsSpec.pre6 enc Try.prog Try.f4 Rows.fnFinalsRow.domain false) (Rows.fnFinalsSpec.post enc Try.prog Try.f4 false true false false) := by
  refine returnsInHanded_of_change (C := Try.checked) own started (by kernel_rfl) Try.func4
    (ChangeSpec.witness6 (enc := enc) (C := Try.checked) false ⟨#[], #[.slice none 0 0, .slice none 0 0], []⟩ 8 (by kernel_rfl) (by kernel_rfl) (by kernel_rfl) (by kernel_rfl)) ?_
  intro W base args ds gs before hval0 hW hcnd _
  have hval : ∀ (j : Nat) t v, Try.f4.params[j]? = some t → args[j]? = some v → Value.okWide Try.prog W .any base t v := hval0
  have hW' := hW
  obtain ⟨p, q, hA0, hV, rfl, hfz, hnd⟩ := hW
  have hA : DataW.TrodAll enc Try.prog W 0 (fun _ => true) true Try.f4.params.toList args.toList ds p := hA0
  rw [Try.params4] at hA hval
  obtain ⟨v0, vs0, d0, ds0, p0, q0, hargs, rfl, rfl, h0, r0⟩ := trodAll_cons hA
  obtain ⟨v1, vs1, d1, ds1, p1, q1, rfl, rfl, rfl, h1, r1⟩ := trodAll_cons r0
  obtain ⟨rfl, rfl, rfl⟩ := trodAll_nil r1
  obtain rfl : args = #[v0, v1] := by cases args; simp_all
  obtain ⟨rfl, rfl⟩ := trodVars_none hV
  have k0 := h0
  have lt0 := below_lt k0
  obtain ⟨s0, len0, cap0, rfl⟩ := okWide_slice Try.underlying22 (hval 0 22 v0 rfl rfl)
  obtain ⟨fuel0, hf0⟩ := h0
  obtain ⟨x0, m0, rd0⟩ := open_bytes.2 _ _ _ hf0
  have R0 := R_of_crd1 rfl rd0
  clear hf0
  have k1 := h1
  have lt1 := below_lt k1
  obtain ⟨s1, len1, cap1, rfl⟩ := okWide_slice Try.underlying22 (hval 1 22 v1 rfl rfl)
  obtain ⟨fuel1, hf1⟩ := h1
  obtain ⟨x1, m1, rd1⟩ := open_bytes.2 _ _ _ hf1
  have R1 := R_of_crd1 rfl rd1
  clear hf1
  clear hA0 hval0
  refine (mwalk (law_FnFinals_ok x0 m0 x1 m1) W _ rfl (args2 R0 R1)).mono fun e W' ⟨he, bel⟩ => ?_
  subst he
  exact ⟨_, rfl, _, _, _, [], _, [], hW', trodAll_mk1 (shut_bool Try.underlying4 _), (trodAll_cons_mk (Below.trod laidOut (by kernel_rfl) (of_decide_eq_true (by kernel_rfl)) k0 bel lt0) (trodAll_cons_mk (Below.trod laidOut (by kernel_rfl) (of_decide_eq_true (by kernel_rfl)) k1 bel lt1) trodAll_mk0)), rfl, bel.frame _, fun h => by cases h⟩
theorem over : Rows.fnFinalsRow.holds Try.pinned (OpenSpec.ofChange Rows.fnFinalsSpec) :=
  OpenClaim.holds_of_wide 4 Try.f4 rfl rfl rfl rfl rfl rfl rfl ⟨rfl, rfl, rfl, rfl, rfl⟩ rfl rfl rfl rfl rfl (by kernel_rfl) Try.func4 (by kernel_rfl)
    (of_decide_eq_true (by kernel_rfl)) (by unfold Func.isWrapper; first | (rw [if_pos (by decide +kernel)]; kernel_rfl) | (rw [if_neg (by decide +kernel)]; exact ⟨rfl, rfl⟩))
    (fun os started H enc _ => lifted os started H enc)
theorem proved : Rows.FnFinalsSaid := over
end Go.Proofs.Ytldcnlhfanbdfaa.lawFinals
