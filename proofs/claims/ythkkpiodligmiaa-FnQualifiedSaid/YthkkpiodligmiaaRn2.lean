/-
  The least score that gives a place: the program's function and the reference's, in the abstract machine.
-/
import Derived.Test.YthkkpiodligmiaaRn
set_option linter.unusedSimpArgs false
set_option linter.unusedVariables false
set_option maxHeartbeats 2000000
set_option maxRecDepth 100000
namespace Go.Proofs.Ythkkpiodligmiaa
open Go.RowKit

theorem half_nat (a b : Nat) : ((a : Int) + (b : Int)).tdiv 2 = (((a + b) / 2 : Nat) : Int) := by
  rw [show (a : Int) + (b : Int) = ((a + b : Nat) : Int) by omega]
  rfl
theorem neededFor_ok (l : List ResultD) (i s : Nat) (p : Int) (x : ResultD) (hx : l[i]? = some x) (hs : s < x.scores.length) (hn : l.length ≤ 1048576) (hk : ∀ r ∈ l, r.scores.length ≤ 1048576) (hl : ∀ y ∈ l, y.scores.length = x.scores.length) (hv : ResultsOk (wsD l i s 0)) :
    FnEq Try.prog 88 [.d (.lst 2 (l.map ResultD.dat)), .d (.int .i64 (i : Int)), .d (.int .i64 (s : Int)), .d (.int .i64 p)] [.d (.int .i64 ((leastW l i s p).getD 0)), .d (.bool (leastW l i s p).isSome)] := by
  refine fn_ok G_ok Try.func88 rfl rfl ?_; simp only [Try.ntmps88, List.length_cons, List.length_nil, Nat.reduceAdd, Nat.reduceSub, enm]
  have hok : ∀ v : Nat, v ≤ 100000 → ResultsOk (wsD l i s (v : Int)) := fun v h => ws_sign hx hs (by omega) (by omega) (by omega) hv
  have hmax : ResultsOk (wsD l i s 100000) := ws_sign hx hs (by omega) (by omega) (by omega) hv
  have hb := bP_true hmax
  have hwl := wsD_len l i s 100000
  have hpl : plcR (wsD l i s 100000) (wsR x s 100000) = plW l i s 100000 := (plW_of hx).symm
  have hantm : ∀ v : Nat, v ≤ 100000 → plW l i s 100000 ≤ plW l i s (v : Int) := fun v h => plW_anti hx hs (by omega) (by omega) hl
  have hanti : ∀ {v v' : Nat}, v ≤ v' → plW l i s (v' : Int) ≤ plW l i s (v : Int) := fun h => plW_anti hx hs (by omega) (by omega) hl
  repeat' (first | ((with_reducible first | refine execL_step (fun K' hK' => ?_)); (first | with_reducible refine s_none rfl ?_ | refine s_some2 rfl ?_); simp only [go_sem, hb, hwl, hpl]) | (with_reducible refine hK' _ ?_; clear hK' K') | (with_reducible refine hK _ ?_; clear hK K; try simp only [go_sem, hb, hwl, hpl]) | with_reducible (first | refine stp ?_ | refine pw_seq_opsK kl88 G_ok (fun K hK => ?_) | refine pw_ops G_ok (fun K hK => ?_)) | ((with_reducible first | apply CallK.eq); (focus (with_reducible first | exact withScore_ok l i s 100000 x hx hs hn hk | exact AreResults_ok (wsD l i s 100000) (by omega) (wsD_bd hk) | exact placeOf_ok (wsD l i s 100000) i (wsR x s 100000) (wsD_at hx) hmax)); (focus (first | exact rfl | (simp [RV.flat, D.sc, datI]; done))); try simp only [go_sem, hb, hwl, hpl]) | refine inBlockA_other (by decide) ?_ | (with_reducible refine pK_mk (fun hc => ?_) (fun hc => ?_) <;> (try simp only [go_sem, hb, hwl, hpl]) <;> (try simp at hc) <;> (try (exfalso; omega))) | ((first | refine pw_seq (pw_cond rfl (fun hc => ?_) (fun hc => ?_)) | refine pw_cond rfl (fun hc => ?_) (fun hc => ?_)) <;> (try simp at hc) <;> (try (exfalso; omega))) | with_reducible refine And.intro (by first | omega | (unfold inI; omega) | exact andI_inI _) ?_)
  · refine retQ_ret rfl rfl (by simp [rowsOf, lk]) ?_; rw [leastW_none fun v h => by have := hantm v h; omega]; rfl
  · refine pw_loop_over [8, 9, 10, 11, 13, 29, 30, 31, 32, 33, 34, 35, 36, 37, 38, 39, 40, 41, 42, 43, 44, 45, 46, 47] (fun q : Nat × Nat => [(10, .d (.int .i64 (q.1 : Int))), (11, .d (.int .i64 (q.2 : Int))), (12, .row 0 l.length)]) (fun _ => [(0, .deep 0 29 2 ((wsD l i s 100000).map ResultD.dat))]) 1 (fun q => q.1 ≤ q.2 ∧ q.2 ≤ 100000 ∧ plW l i s (q.2 : Int) ≤ p ∧ ∀ v : Nat, v < q.1 → p < plW l i s (v : Int)) (fun q => q.2 - q.1) (0, 100000) ⟨by simp, by simp, by simpa using hc, fun v h => by simp at h⟩ (fits_mk [] (by simp [renL_d, bdL_d, sg, over, wipe, wl, memN, ins, rm, lk, fitFr, fit1, ren, renL, bd, bdL, app, fitHp, hget, renB, bdB] <;> omega)) ?_
    rintro ⟨lo, hi⟩ ⟨h1, h2, h3, h4⟩
    simp only at h1 h2 h3 h4
    simp only [over, wipe, wl, memN, ins, rm, if_true, if_false, Nat.reduceEqDiff, Bool.false_eq_true, reduceCtorEq]
    by_cases hlt : lo < hi
    · have hmid : (lo + hi) / 2 < hi := by omega
      have hmid2 : lo ≤ (lo + hi) / 2 := by omega
      generalize hm : (lo + hi) / 2 = mid at *
      have hh := half_nat lo hi
      rw [hm] at hh
      have hokm := hok mid (by omega)
      have hplm : plcR (wsD l i s (mid : Int)) (wsR x s (mid : Int)) = plW l i s (mid : Int) := (plW_of hx).symm
      have hwlm := wsD_len l i s (mid : Int)
      repeat' (first | ((with_reducible first | refine execL_step (fun K' hK' => ?_)); (first | with_reducible refine s_none rfl ?_ | refine s_some2 rfl ?_); simp only [go_sem, hh, hwlm, hplm]) | (with_reducible refine hK' _ ?_; clear hK' K') | (with_reducible refine hK _ ?_; clear hK K; try simp only [go_sem, hh, hwlm, hplm]) | with_reducible (first | refine stp ?_ | refine pw_seq_opsK kl88 G_ok (fun K hK => ?_) | refine pw_ops G_ok (fun K hK => ?_)) | ((with_reducible first | apply CallK.eq); (focus (with_reducible first | exact withScore_ok l i s (mid : Int) x hx hs hn hk | exact placeOf_ok (wsD l i s (mid : Int)) i (wsR x s (mid : Int)) (wsD_at hx) hokm)); (focus (first | exact rfl | (simp [RV.flat, D.sc, datI]; done))); try simp only [go_sem, hh, hwlm, hplm]) | refine inBlockA_other (by decide) ?_ | (with_reducible refine pK_mk (fun hc => ?_) (fun hc => ?_) <;> (try simp only [go_sem, hh, hwlm, hplm]) <;> (try simp at hc) <;> (try (exfalso; omega))) | ((first | refine pw_seq (pw_cond rfl (fun hc => ?_) (fun hc => ?_)) | refine pw_cond rfl (fun hc => ?_) (fun hc => ?_)) <;> (try simp at hc) <;> (try (exfalso; omega))) | with_reducible refine And.intro (by first | omega | (unfold inI; omega) | exact andI_inI _) ?_)
      · exact ⟨(lo, mid), ⟨by simp only; omega, by simp only; omega, hc, h4⟩, by simp only; omega, (fits_mk [] (by simp [renL_d, bdL_d, sg, over, wipe, wl, memN, ins, rm, lk, fitFr, fit1, ren, renL, bd, bdL, app, fitHp, hget, renB, bdB] <;> omega))⟩
      · exact ⟨(mid + 1, hi), ⟨by simp only; omega, h2, h3, fun v hv' => by
          simp only at hv'
          have := hanti (show v ≤ mid by omega); omega⟩, by simp only; omega, (fits_mk [] (by simp [renL_d, bdL_d, sg, over, wipe, wl, memN, ins, rm, lk, fitFr, fit1, ren, renL, bd, bdL, app, fitHp, hget, renB, bdB] <;> omega))⟩
    · obtain rfl : lo = hi := by omega
      repeat' (first | ((with_reducible first | refine execL_step (fun K' hK' => ?_)); (first | with_reducible refine s_none rfl ?_ | refine s_some2 rfl ?_); simp only [go_sem]) | (with_reducible refine hK' _ ?_; clear hK' K') | (with_reducible refine hK _ ?_; clear hK K; try simp only [go_sem]) | with_reducible (first | refine stp ?_ | refine pw_seq_opsK kl88 G_ok (fun K hK => ?_) | refine pw_ops G_ok (fun K hK => ?_)) | refine inBlockA_other (by decide) ?_ | (with_reducible refine pK_mk (fun hc => ?_) (fun hc => ?_) <;> (try simp only [go_sem]) <;> (try simp at hc) <;> (try (exfalso; omega))) | ((first | refine pw_seq (pw_cond rfl (fun hc => ?_) (fun hc => ?_)) | refine pw_cond rfl (fun hc => ?_) (fun hc => ?_)) <;> (try simp at hc) <;> (try (exfalso; omega))) | with_reducible refine And.intro (by first | omega | (unfold inI; omega) | exact andI_inI _) ?_)
      refine retQ_ret rfl rfl (by simp [rowsOf, lk]) ?_; rw [leastW_some h2 h3 h4]; rfl
theorem neededFor_no (l : List ResultD) (i s : Nat) (p : Int) (x : ResultD) (hx : l[i]? = some x) (hs : s < x.scores.length) (hn : l.length ≤ 1048576) (hk : ∀ r ∈ l, r.scores.length ≤ 1048576) (hv : ¬ ResultsOk (wsD l i s 0)) :
    FnEq Try.prog 88 [.d (.lst 2 (l.map ResultD.dat)), .d (.int .i64 (i : Int)), .d (.int .i64 (s : Int)), .d (.int .i64 p)] [.d (.int .i64 0), .d (.bool false)] := by
  refine fn_ok G_ok Try.func88 rfl rfl ?_; simp only [Try.ntmps88, List.length_cons, List.length_nil, Nat.reduceAdd, Nat.reduceSub, enm]
  have hb : bP (ResultsOk (wsD l i s 100000)) = false := bP_false fun h => hv (ws_sign hx hs (by omega) (by omega) (by omega) h)
  have hwl := wsD_len l i s 100000
  repeat' (first | ((with_reducible first | refine execL_step (fun K' hK' => ?_)); (first | with_reducible refine s_none rfl ?_ | refine s_some2 rfl ?_); simp only [go_sem, hb, hwl]) | (with_reducible refine hK' _ ?_; clear hK' K') | (with_reducible refine hK _ ?_; clear hK K; try simp only [go_sem, hb, hwl]) | with_reducible (first | refine stp ?_ | refine pw_seq_opsK kl88 G_ok (fun K hK => ?_) | refine pw_ops G_ok (fun K hK => ?_)) | ((with_reducible first | apply CallK.eq); (focus (with_reducible first | exact withScore_ok l i s 100000 x hx hs hn hk | exact AreResults_ok (wsD l i s 100000) (by omega) (wsD_bd hk))); (focus (first | exact rfl | (simp [RV.flat, D.sc, datI]; done))); try simp only [go_sem, hb, hwl]) | refine inBlockA_other (by decide) ?_ | (with_reducible refine pK_mk (fun hc => ?_) (fun hc => ?_) <;> (try simp only [go_sem, hb, hwl]) <;> (try simp at hc) <;> (try (exfalso; omega))) | ((first | refine pw_seq (pw_cond rfl (fun hc => ?_) (fun hc => ?_)) | refine pw_cond rfl (fun hc => ?_) (fun hc => ?_)) <;> (try simp at hc) <;> (try (exfalso; omega))) | with_reducible refine And.intro (by first | omega | (unfold inI; omega) | exact andI_inI _) ?_)
  refine retQ_ret rfl rfl (by simp [rowsOf, lk]) ?_; rfl
theorem ansNeededFor_yes {l : List ResultD} {i s p : Int} (h : NeedV l i s p) : ansNeededFor l i s p = leastW l i.toNat s.toNat p := if_pos (bP_true h)
theorem ansNeededFor_no {l : List ResultD} {i s p : Int} (h : ¬ NeedV l i s p) : ansNeededFor l i s p = none := if_neg (by rw [bP_false h]; simp)
theorem impl_NeededFor_ok (xs0 : List ResultD) (a1 : Int) (a2 : Int) (a3 : Int) (hl0 : xs0.length ≤ 1048576) (hk0 : ∀ r ∈ xs0, r.scores.length ≤ 1048576) : FnEq Try.prog 25 [.d (.lst 2 (xs0.map ResultD.dat)), .d (.int .i64 a1), .d (.int .i64 a2), .d (.int .i64 a3)] [.d (.int .i64 ((ansNeededFor xs0 a1 a2 a3).getD 0)), .d (.bool (ansNeededFor xs0 a1 a2 a3).isSome)] := by
  refine fn_ok G_ok Try.func25 rfl rfl ?_; simp only [Try.ntmps25, List.length_cons, List.length_nil, Nat.reduceAdd, Nat.reduceSub, enm]
  by_cases hr : HasR xs0 a1
  · have h1 := bP_true hr
    by_cases hg : SegOk xs0 a2
    · have h2 := bP_true hg
      have hask : AskR xs0 a1 a2 := ⟨hr, hg⟩
      obtain ⟨x, hx, hxs⟩ := hask.at_
      have hsl := same_len hask hx
      have ei : ((a1.toNat : Nat) : Int) = a1 := by have := hr.2.1; omega
      have es : ((a2.toNat : Nat) : Int) = a2 := by have := hg.2.2.1; omega
      by_cases hp : 1 ≤ a3 ∧ a3 ≤ 40
      · by_cases hv : ResultsOk (wsD xs0 a1.toNat a2.toNat 0)
        · have hw := neededFor_ok xs0 a1.toNat a2.toNat a3 x hx hxs hl0 hk0 hsl hv
          rw [ei, es] at hw
          rw [ansNeededFor_yes ⟨hask, hp, hv⟩]
          repeat' (first | ((with_reducible first | refine execL_step (fun K' hK' => ?_)); (first | with_reducible refine s_none rfl ?_ | refine s_some2 rfl ?_); simp only [go_sem, h1, h2]) | (with_reducible refine hK' _ ?_; clear hK' K') | (with_reducible refine hK _ ?_; clear hK K; try simp only [go_sem, h1, h2]) | with_reducible (first | refine stp ?_ | refine pw_seq_opsK kl25 G_ok (fun K hK => ?_) | refine pw_ops G_ok (fun K hK => ?_)) | ((with_reducible first | apply CallK.eq); (focus (with_reducible first | exact hasResult_ok xs0 a1 hl0 hk0 | exact hasSegment_ok xs0 a2 hl0 hk0 | exact within_ok _ _ _ | exact hw)); (focus (first | exact rfl | (simp [RV.flat, D.sc, datI]; done))); try simp only [go_sem, h1, h2]) | refine inBlockA_other (by decide) ?_ | (with_reducible refine pK_mk (fun hc => ?_) (fun hc => ?_) <;> (try simp only [go_sem, h1, h2]) <;> (try simp at hc) <;> (try (exfalso; omega))) | ((first | refine pw_seq (pw_cond rfl (fun hc => ?_) (fun hc => ?_)) | refine pw_cond rfl (fun hc => ?_) (fun hc => ?_)) <;> (try simp at hc) <;> (try (exfalso; omega))) | with_reducible refine And.intro (by first | omega | (unfold inI; omega) | exact andI_inI _) ?_)
          all_goals first
            | (exfalso; omega)
            | (refine retQ_ret rfl rfl (by simp [rowsOf, lk]) ?_; rfl)
        · have hw := neededFor_no xs0 a1.toNat a2.toNat a3 x hx hxs hl0 hk0 hv
          rw [ei, es] at hw
          rw [ansNeededFor_no fun h => hv h.2.2]
          repeat' (first | ((with_reducible first | refine execL_step (fun K' hK' => ?_)); (first | with_reducible refine s_none rfl ?_ | refine s_some2 rfl ?_); simp only [go_sem, h1, h2]) | (with_reducible refine hK' _ ?_; clear hK' K') | (with_reducible refine hK _ ?_; clear hK K; try simp only [go_sem, h1, h2]) | with_reducible (first | refine stp ?_ | refine pw_seq_opsK kl25 G_ok (fun K hK => ?_) | refine pw_ops G_ok (fun K hK => ?_)) | ((with_reducible first | apply CallK.eq); (focus (with_reducible first | exact hasResult_ok xs0 a1 hl0 hk0 | exact hasSegment_ok xs0 a2 hl0 hk0 | exact within_ok _ _ _ | exact hw)); (focus (first | exact rfl | (simp [RV.flat, D.sc, datI]; done))); try simp only [go_sem, h1, h2]) | refine inBlockA_other (by decide) ?_ | (with_reducible refine pK_mk (fun hc => ?_) (fun hc => ?_) <;> (try simp only [go_sem, h1, h2]) <;> (try simp at hc) <;> (try (exfalso; omega))) | ((first | refine pw_seq (pw_cond rfl (fun hc => ?_) (fun hc => ?_)) | refine pw_cond rfl (fun hc => ?_) (fun hc => ?_)) <;> (try simp at hc) <;> (try (exfalso; omega))) | with_reducible refine And.intro (by first | omega | (unfold inI; omega) | exact andI_inI _) ?_)
          all_goals first
            | (exfalso; omega)
            | (refine retQ_ret rfl rfl (by simp [rowsOf, lk]) ?_; rfl)
      · rw [ansNeededFor_no fun h => hp h.2.1]
        repeat' (first | ((with_reducible first | refine execL_step (fun K' hK' => ?_)); (first | with_reducible refine s_none rfl ?_ | refine s_some2 rfl ?_); simp only [go_sem, h1, h2]) | (with_reducible refine hK' _ ?_; clear hK' K') | (with_reducible refine hK _ ?_; clear hK K; try simp only [go_sem, h1, h2]) | with_reducible (first | refine stp ?_ | refine pw_seq_opsK kl25 G_ok (fun K hK => ?_) | refine pw_ops G_ok (fun K hK => ?_)) | ((with_reducible first | apply CallK.eq); (focus (with_reducible first | exact hasResult_ok xs0 a1 hl0 hk0 | exact hasSegment_ok xs0 a2 hl0 hk0 | exact within_ok _ _ _)); (focus (first | exact rfl | (simp [RV.flat, D.sc, datI]; done))); try simp only [go_sem, h1, h2]) | refine inBlockA_other (by decide) ?_ | (with_reducible refine pK_mk (fun hc => ?_) (fun hc => ?_) <;> (try simp only [go_sem, h1, h2]) <;> (try simp at hc) <;> (try (exfalso; omega))) | ((first | refine pw_seq (pw_cond rfl (fun hc => ?_) (fun hc => ?_)) | refine pw_cond rfl (fun hc => ?_) (fun hc => ?_)) <;> (try simp at hc) <;> (try (exfalso; omega))) | with_reducible refine And.intro (by first | omega | (unfold inI; omega) | exact andI_inI _) ?_)
        all_goals first
          | (exfalso; omega)
          | (refine retQ_ret rfl rfl (by simp [rowsOf, lk]) ?_; rfl)
    · have h2 := bP_false hg
      rw [ansNeededFor_no fun h => hg h.1.2]
      repeat' (first | ((with_reducible first | refine execL_step (fun K' hK' => ?_)); (first | with_reducible refine s_none rfl ?_ | refine s_some2 rfl ?_); simp only [go_sem, h1, h2]) | (with_reducible refine hK' _ ?_; clear hK' K') | (with_reducible refine hK _ ?_; clear hK K; try simp only [go_sem, h1, h2]) | with_reducible (first | refine stp ?_ | refine pw_seq_opsK kl25 G_ok (fun K hK => ?_) | refine pw_ops G_ok (fun K hK => ?_)) | ((with_reducible first | apply CallK.eq); (focus (with_reducible first | exact hasResult_ok xs0 a1 hl0 hk0 | exact hasSegment_ok xs0 a2 hl0 hk0)); (focus (first | exact rfl | (simp [RV.flat, D.sc, datI]; done))); try simp only [go_sem, h1, h2]) | refine inBlockA_other (by decide) ?_ | (with_reducible refine pK_mk (fun hc => ?_) (fun hc => ?_) <;> (try simp only [go_sem, h1, h2]) <;> (try simp at hc) <;> (try (exfalso; omega))) | ((first | refine pw_seq (pw_cond rfl (fun hc => ?_) (fun hc => ?_)) | refine pw_cond rfl (fun hc => ?_) (fun hc => ?_)) <;> (try simp at hc) <;> (try (exfalso; omega))) | with_reducible refine And.intro (by first | omega | (unfold inI; omega) | exact andI_inI _) ?_)
      all_goals (refine retQ_ret rfl rfl (by simp [rowsOf, lk]) ?_; rfl)
  · have h1 := bP_false hr
    rw [ansNeededFor_no fun h => hr h.1.1]
    repeat' (first | ((with_reducible first | refine execL_step (fun K' hK' => ?_)); (first | with_reducible refine s_none rfl ?_ | refine s_some2 rfl ?_); simp only [go_sem, h1]) | (with_reducible refine hK' _ ?_; clear hK' K') | (with_reducible refine hK _ ?_; clear hK K; try simp only [go_sem, h1]) | with_reducible (first | refine stp ?_ | refine pw_seq_opsK kl25 G_ok (fun K hK => ?_) | refine pw_ops G_ok (fun K hK => ?_)) | ((with_reducible first | apply CallK.eq); (focus (with_reducible first | exact hasResult_ok xs0 a1 hl0 hk0)); (focus (first | exact rfl | (simp [RV.flat, D.sc, datI]; done))); try simp only [go_sem, h1]) | refine inBlockA_other (by decide) ?_ | (with_reducible refine pK_mk (fun hc => ?_) (fun hc => ?_) <;> (try simp only [go_sem, h1]) <;> (try simp at hc) <;> (try (exfalso; omega))) | ((first | refine pw_seq (pw_cond rfl (fun hc => ?_) (fun hc => ?_)) | refine pw_cond rfl (fun hc => ?_) (fun hc => ?_)) <;> (try simp at hc) <;> (try (exfalso; omega))) | with_reducible refine And.intro (by first | omega | (unfold inI; omega) | exact andI_inI _) ?_)
    all_goals (refine retQ_ret rfl rfl (by simp [rowsOf, lk]) ?_; rfl)
theorem spec_NeededFor_ok (xs0 : List ResultD) (a1 : Int) (a2 : Int) (a3 : Int) (hl0 : xs0.length ≤ 1048576) (hk0 : ∀ r ∈ xs0, r.scores.length ≤ 1048576) : FnEq Try.prog 26 [.d (.lst 2 (xs0.map ResultD.dat)), .d (.int .i64 a1), .d (.int .i64 a2), .d (.int .i64 a3)] [.d (.int .i64 ((ansNeededFor xs0 a1 a2 a3).getD 0)), .d (.bool (ansNeededFor xs0 a1 a2 a3).isSome)] := by
  refine fn_ok G_ok Try.func26 rfl rfl ?_; simp only [Try.ntmps26, List.length_cons, List.length_nil, Nat.reduceAdd, Nat.reduceSub, enm]
  by_cases hask : AskR xs0 a1 a2
  · have h1 := bP_true hask
    obtain ⟨x, hx, hxs⟩ := hask.at_
    have hsl := same_len hask hx
    have ei : ((a1.toNat : Nat) : Int) = a1 := by have := hask.1.2.1; omega
    have es : ((a2.toNat : Nat) : Int) = a2 := by have := hask.2.2.2.1; omega
    generalize hi0 : a1.toNat = i at *
    generalize hs0 : a2.toNat = s at *
    by_cases hp : 1 ≤ a3 ∧ a3 ≤ 40
    · have hw0 := rkWith_ok xs0 i s 0 x hx hxs hl0 hk0
      rw [ei, es] at hw0
      have hwl := wsD_len xs0 i s 0
      have hgd := rkGood_ok (wsD xs0 i s 0) (by omega) (wsD_bd hk0)
      by_cases hv : ResultsOk (wsD xs0 i s 0)
      · have h3 := bP_true hv
        have hok : ∀ v : Nat, v ≤ 100000 → ResultsOk (wsD xs0 i s (v : Int)) := fun v h => ws_sign hx hxs (by omega) (by omega) (by omega) hv
        have hanti : ∀ {v v' : Nat}, v ≤ v' → plW xs0 i s (v' : Int) ≤ plW xs0 i s (v : Int) := fun h => plW_anti hx hxs (by omega) (by omega) hsl
        rw [ansNeededFor_yes ⟨hask, hp, by rw [hi0, hs0]; exact hv⟩, hi0, hs0]
        repeat' (first | ((with_reducible first | refine execL_step (fun K' hK' => ?_)); (first | with_reducible refine s_none rfl ?_ | refine s_some2 rfl ?_); simp only [go_sem, h1, h3, hwl]) | (with_reducible refine hK' _ ?_; clear hK' K') | (with_reducible refine hK _ ?_; clear hK K; try simp only [go_sem, h1, h3, hwl]) | with_reducible (first | refine stp ?_ | refine pw_seq_opsK kl26 G_ok (fun K hK => ?_) | refine pw_ops G_ok (fun K hK => ?_)) | ((with_reducible first | apply CallK.eq); (focus (with_reducible first | exact rkAsked_ok xs0 a1 a2 hl0 hk0 | exact l1In_ok _ _ _ | exact hw0 | exact hgd)); (focus (first | exact rfl | (simp [RV.flat, D.sc, datI]; done))); try simp only [go_sem, h1, h3, hwl]) | refine inBlockA_other (by decide) ?_ | (with_reducible refine pK_mk (fun hc => ?_) (fun hc => ?_) <;> (try simp only [go_sem, h1, h3, hwl]) <;> (try simp at hc) <;> (try (exfalso; omega))) | ((first | refine pw_seq (pw_cond rfl (fun hc => ?_) (fun hc => ?_)) | refine pw_cond rfl (fun hc => ?_) (fun hc => ?_)) <;> (try simp at hc) <;> (try (exfalso; omega))) | with_reducible refine And.intro (by first | omega | (unfold inI; omega) | exact andI_inI _) ?_)
        all_goals try (exfalso; omega)
        refine pw_loop_over [8, 9, 10, 11, 12, 31, 32, 33, 34, 35, 36, 37, 38, 39, 40, 41, 42, 43, 44, 45, 46, 47, 48, 49] (fun q : Nat × Nat => [(10, .d (.int .i64 (q.1 : Int))), (11, .d (.int .i64 (q.2 : Int)))]) (fun _ => []) 0 (fun q => q.1 ≤ q.2 ∧ q.2 ≤ 100001 ∧ (q.2 ≤ 100000 → plW xs0 i s (q.2 : Int) ≤ a3) ∧ ∀ v : Nat, v < q.1 → a3 < plW xs0 i s (v : Int)) (fun q => q.2 - q.1) (0, 100001) ⟨by simp, by simp, fun h => by simp at h, fun v h => by simp at h⟩ (fits_mk [] (by simp [renL_d, bdL_d, sg, over, wipe, wl, memN, ins, rm, lk, fitFr, fit1, ren, renL, bd, bdL, app, fitHp, hget, renB, bdB] <;> omega)) ?_
        rintro ⟨lo, hi⟩ ⟨g1, g2, g3, g4⟩
        simp only at g1 g2 g3 g4
        simp only [over, wipe, wl, memN, ins, rm, if_true, if_false, Nat.reduceEqDiff, Bool.false_eq_true, reduceCtorEq]
        by_cases hlt : lo < hi
        · have hmid : (lo + hi) / 2 < hi := by omega
          have hmid2 : lo ≤ (lo + hi) / 2 := by omega
          generalize hm : (lo + hi) / 2 = mid at *
          have hh := half_nat lo hi
          rw [hm] at hh
          have hokm := hok mid (by omega)
          have hplm : plcR (wsD xs0 i s (mid : Int)) (wsR x s (mid : Int)) = plW xs0 i s (mid : Int) := (plW_of hx).symm
          have hwlm := wsD_len xs0 i s (mid : Int)
          have hwm := rkWith_ok xs0 i s (mid : Int) x hx hxs hl0 hk0
          have hpm := rkPlace_ok (wsD xs0 i s (mid : Int)) i (wsR x s (mid : Int)) (wsD_at hx) hokm
          rw [ei, es] at hwm
          rw [ei] at hpm
          repeat' (first | ((with_reducible first | refine execL_step (fun K' hK' => ?_)); (first | with_reducible refine s_none rfl ?_ | refine s_some2 rfl ?_); simp only [go_sem, hh, hwlm, hplm]) | (with_reducible refine hK' _ ?_; clear hK' K') | (with_reducible refine hK _ ?_; clear hK K; try simp only [go_sem, hh, hwlm, hplm]) | with_reducible (first | refine stp ?_ | refine pw_seq_opsK kl26 G_ok (fun K hK => ?_) | refine pw_ops G_ok (fun K hK => ?_)) | ((with_reducible first | apply CallK.eq); (focus (with_reducible first | exact hwm | exact hpm)); (focus (first | exact rfl | (simp [RV.flat, D.sc, datI]; done))); try simp only [go_sem, hh, hwlm, hplm]) | refine inBlockA_other (by decide) ?_ | (with_reducible refine pK_mk (fun hc => ?_) (fun hc => ?_) <;> (try simp only [go_sem, hh, hwlm, hplm]) <;> (try simp at hc) <;> (try (exfalso; omega))) | ((first | refine pw_seq (pw_cond rfl (fun hc => ?_) (fun hc => ?_)) | refine pw_cond rfl (fun hc => ?_) (fun hc => ?_)) <;> (try simp at hc) <;> (try (exfalso; omega))) | with_reducible refine And.intro (by first | omega | (unfold inI; omega) | exact andI_inI _) ?_)
          · exact ⟨(lo, mid), ⟨by simp only; omega, by simp only; omega, fun _ => hc, g4⟩, by simp only; omega, (fits_mk [] (by simp [renL_d, bdL_d, sg, over, wipe, wl, memN, ins, rm, lk, fitFr, fit1, ren, renL, bd, bdL, app, fitHp, hget, renB, bdB] <;> omega))⟩
          · exact ⟨(mid + 1, hi), ⟨by simp only; omega, g2, g3, fun v hv' => by
              simp only at hv'
              have := hanti (show v ≤ mid by omega); omega⟩, by simp only; omega, (fits_mk [] (by simp [renL_d, bdL_d, sg, over, wipe, wl, memN, ins, rm, lk, fitFr, fit1, ren, renL, bd, bdL, app, fitHp, hget, renB, bdB] <;> omega))⟩
        · obtain rfl : lo = hi := by omega
          repeat' (first | ((with_reducible first | refine execL_step (fun K' hK' => ?_)); (first | with_reducible refine s_none rfl ?_ | refine s_some2 rfl ?_); simp only [go_sem]) | (with_reducible refine hK' _ ?_; clear hK' K') | (with_reducible refine hK _ ?_; clear hK K; try simp only [go_sem]) | with_reducible (first | refine stp ?_ | refine pw_seq_opsK kl26 G_ok (fun K hK => ?_) | refine pw_ops G_ok (fun K hK => ?_)) | refine inBlockA_other (by decide) ?_ | (with_reducible refine pK_mk (fun hc => ?_) (fun hc => ?_) <;> (try simp only [go_sem]) <;> (try simp at hc) <;> (try (exfalso; omega))) | ((first | refine pw_seq (pw_cond rfl (fun hc => ?_) (fun hc => ?_)) | refine pw_cond rfl (fun hc => ?_) (fun hc => ?_)) <;> (try simp at hc) <;> (try (exfalso; omega))) | with_reducible refine And.intro (by first | omega | (unfold inI; omega) | exact andI_inI _) ?_)
          all_goals first
            | (refine retQ_ret rfl rfl (by simp [rowsOf, lk]) ?_; rw [leastW_none fun v h => g4 v (by omega)]; rfl)
            | (refine retQ_ret rfl rfl (by simp [rowsOf, lk]) ?_; rw [leastW_some (show lo ≤ 100000 by omega) (g3 (by omega)) g4]; rfl)
      · have h3 := bP_false hv
        rw [ansNeededFor_no fun h => hv (by have := h.2.2; rwa [hi0, hs0] at this)]
        repeat' (first | ((with_reducible first | refine execL_step (fun K' hK' => ?_)); (first | with_reducible refine s_none rfl ?_ | refine s_some2 rfl ?_); simp only [go_sem, h1, h3, hwl]) | (with_reducible refine hK' _ ?_; clear hK' K') | (with_reducible refine hK _ ?_; clear hK K; try simp only [go_sem, h1, h3, hwl]) | with_reducible (first | refine stp ?_ | refine pw_seq_opsK kl26 G_ok (fun K hK => ?_) | refine pw_ops G_ok (fun K hK => ?_)) | ((with_reducible first | apply CallK.eq); (focus (with_reducible first | exact rkAsked_ok xs0 a1 a2 hl0 hk0 | exact l1In_ok _ _ _ | exact hw0 | exact hgd)); (focus (first | exact rfl | (simp [RV.flat, D.sc, datI]; done))); try simp only [go_sem, h1, h3, hwl]) | refine inBlockA_other (by decide) ?_ | (with_reducible refine pK_mk (fun hc => ?_) (fun hc => ?_) <;> (try simp only [go_sem, h1, h3, hwl]) <;> (try simp at hc) <;> (try (exfalso; omega))) | ((first | refine pw_seq (pw_cond rfl (fun hc => ?_) (fun hc => ?_)) | refine pw_cond rfl (fun hc => ?_) (fun hc => ?_)) <;> (try simp at hc) <;> (try (exfalso; omega))) | with_reducible refine And.intro (by first | omega | (unfold inI; omega) | exact andI_inI _) ?_)
        all_goals first
          | (exfalso; omega)
          | (refine retQ_ret rfl rfl (by simp [rowsOf, lk]) ?_; rfl)
    · rw [ansNeededFor_no fun h => hp h.2.1]
      repeat' (first | ((with_reducible first | refine execL_step (fun K' hK' => ?_)); (first | with_reducible refine s_none rfl ?_ | refine s_some2 rfl ?_); simp only [go_sem, h1]) | (with_reducible refine hK' _ ?_; clear hK' K') | (with_reducible refine hK _ ?_; clear hK K; try simp only [go_sem, h1]) | with_reducible (first | refine stp ?_ | refine pw_seq_opsK kl26 G_ok (fun K hK => ?_) | refine pw_ops G_ok (fun K hK => ?_)) | ((with_reducible first | apply CallK.eq); (focus (with_reducible first | exact rkAsked_ok xs0 a1 a2 hl0 hk0 | exact l1In_ok _ _ _)); (focus (first | exact rfl | (simp [RV.flat, D.sc, datI]; done))); try simp only [go_sem, h1]) | refine inBlockA_other (by decide) ?_ | (with_reducible refine pK_mk (fun hc => ?_) (fun hc => ?_) <;> (try simp only [go_sem, h1]) <;> (try simp at hc) <;> (try (exfalso; omega))) | ((first | refine pw_seq (pw_cond rfl (fun hc => ?_) (fun hc => ?_)) | refine pw_cond rfl (fun hc => ?_) (fun hc => ?_)) <;> (try simp at hc) <;> (try (exfalso; omega))) | with_reducible refine And.intro (by first | omega | (unfold inI; omega) | exact andI_inI _) ?_)
      all_goals first
        | (exfalso; omega)
        | (refine retQ_ret rfl rfl (by simp [rowsOf, lk]) ?_; rfl)
  · have h1 := bP_false hask
    rw [ansNeededFor_no fun h => hask h.1]
    repeat' (first | ((with_reducible first | refine execL_step (fun K' hK' => ?_)); (first | with_reducible refine s_none rfl ?_ | refine s_some2 rfl ?_); simp only [go_sem, h1]) | (with_reducible refine hK' _ ?_; clear hK' K') | (with_reducible refine hK _ ?_; clear hK K; try simp only [go_sem, h1]) | with_reducible (first | refine stp ?_ | refine pw_seq_opsK kl26 G_ok (fun K hK => ?_) | refine pw_ops G_ok (fun K hK => ?_)) | ((with_reducible first | apply CallK.eq); (focus (with_reducible first | exact rkAsked_ok xs0 a1 a2 hl0 hk0)); (focus (first | exact rfl | (simp [RV.flat, D.sc, datI]; done))); try simp only [go_sem, h1]) | refine inBlockA_other (by decide) ?_ | (with_reducible refine pK_mk (fun hc => ?_) (fun hc => ?_) <;> (try simp only [go_sem, h1]) <;> (try simp at hc) <;> (try (exfalso; omega))) | ((first | refine pw_seq (pw_cond rfl (fun hc => ?_) (fun hc => ?_)) | refine pw_cond rfl (fun hc => ?_) (fun hc => ?_)) <;> (try simp at hc) <;> (try (exfalso; omega))) | with_reducible refine And.intro (by first | omega | (unfold inI; omega) | exact andI_inI _) ?_)
    all_goals (refine retQ_ret rfl rfl (by simp [rowsOf, lk]) ?_; rfl)
end Go.Proofs.Ythkkpiodligmiaa
