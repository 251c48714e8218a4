/-
  FlipsOf: the program's function and the reference's, in the abstract machine.
-/
import Derived.Test.YthkkpiodligmiaaRg
set_option linter.unusedSimpArgs false
set_option linter.unusedVariables false
set_option maxHeartbeats 2000000
set_option maxRecDepth 100000
namespace Go.Proofs.Ythkkpiodligmiaa
open Go.RowKit

/-- the two turn round from the segment before to this one -/
def flB (s : Int) (a b : ResultD) : Bool := decide (0 ≤ scAt a s ∧ 0 ≤ scAt b s ∧ sgn (scAt a s - scAt b s) * sgn (scAt a (s - 1) - scAt b (s - 1)) < 0)
def flN (l : List ResultD) (s : Int) : Nat → Nat
  | 0 => 0
  | k + 1 => flN l s k + (match l[k]? with | some a => cn (flB s a) (l.take k) | none => 0)
theorem flN_succ {l : List ResultD} {s : Int} {k : Nat} {a : ResultD} (hx : l[k]? = some a) : flN l s (k + 1) = flN l s k + cn (flB s a) (l.take k) := by rw [flN, hx]
theorem flN_le (l : List ResultD) (s : Int) : ∀ k, flN l s k ≤ k * k
  | 0 => by simp [flN]
  | k + 1 => by
    have ih := flN_le l s k
    have h1 : (match l[k]? with | some a => cn (flB s a) (l.take k) | none => 0) ≤ k := by
      split
      · exact cn_take_le _ _ _
      · omega
    rw [flN, Nat.add_mul, Nat.mul_add]
    omega
theorem sgn_cases (n : Int) : sgn n = 1 ∨ sgn n = -1 ∨ sgn n = 0 := by
  unfold sgn; split
  · exact .inl rfl
  · split
    · exact .inr (.inl rfl)
    · exact .inr (.inr rfl)
def FlOk (l : List ResultD) (s : Int) : Prop := SegOk l s ∧ s ≠ 0
noncomputable abbrev ansFlipsOf (l : List ResultD) (s : Int) : Option Int := optP (FlOk l s) ((flN l s l.length : Nat) : Int)
theorem flB_true {s : Int} {a b : ResultD} (h1 : 0 ≤ scAt a s) (h2 : 0 ≤ scAt b s) (h3 : sgn (scAt a s - scAt b s) * sgn (scAt a (s - 1) - scAt b (s - 1)) < 0) : flB s a b = true := decide_eq_true ⟨h1, h2, h3⟩
theorem flB_false {s : Int} {a b : ResultD} (h : ¬ (0 ≤ scAt a s ∧ 0 ≤ scAt b s ∧ sgn (scAt a s - scAt b s) * sgn (scAt a (s - 1) - scAt b (s - 1)) < 0)) : flB s a b = false := decide_eq_false h
theorem sg_mul (x y : Int) : -1 ≤ sgn x * sgn y ∧ sgn x * sgn y ≤ 1 := by
  rcases sgn_cases x with h | h | h <;> rcases sgn_cases y with h' | h' | h' <;> rw [h, h'] <;> decide
theorem impl_FlipsOf_ok (xs0 : List ResultD) (a1 : Int) (hl0 : xs0.length ≤ 1048576) (hk0 : ∀ r ∈ xs0, r.scores.length ≤ 1048576) : FnEq Try.prog 34 [.d (.lst 2 (xs0.map ResultD.dat)), .d (.int .i64 a1)] [.d (.int .i64 ((ansFlipsOf xs0 a1).getD 0)), .d (.bool (ansFlipsOf xs0 a1).isSome)] := by
  refine fn_ok G_ok Try.func34 rfl rfl ?_; simp only [Try.ntmps34, List.length_cons, List.length_nil, Nat.reduceAdd, Nat.reduceSub, enm]
  by_cases hv : FlOk xs0 a1
  · have hb := bP_true hv.1
    have hne := hv.2
    have hs0 := hv.1.2.2.1
    have hs1 := hv.1.2.2.2
    have h40 := hv.1.1.1
    have hR := hv.1.1
    have hl3 : len0 xs0 ≤ 3 := len0_le hR
    have hans : ansFlipsOf xs0 a1 = some ((flN xs0 a1 xs0.length : Nat) : Int) := optP_pos hv
    repeat' (first | ((with_reducible first | refine execL_step (fun K' hK' => ?_) | refine quietL_step (fun K' hK' => ?_)); (first | with_reducible refine s_none rfl ?_ | refine s_some2 rfl ?_); simp only [go_sem, hb]) | (with_reducible refine hK' _ ?_; clear hK' K') | (with_reducible refine hK _ ?_; clear hK K; try simp only [go_sem, hb]) | with_reducible (first | refine stp ?_ | refine pw_seq_opsK kl34 G_ok (fun K hK => ?_) | refine pw_ops G_ok (fun K hK => ?_)) | ((with_reducible first | apply CallK.eq | apply CallQ.eqs); (focus (with_reducible first | exact hasSegment_ok xs0 a1 hl0 hk0)); (focus (first | exact rfl | (simp [RV.flat, D.sc, datI]; done))); try simp only [go_sem, hb]) | refine inBlockA_other (by decide) ?_ | (with_reducible refine pw_seq_drawK kl34 G_ok mixed (by kernel_rfl) (fun K hK => ?_)) | (with_reducible refine pw_draw G_ok mixed (by kernel_rfl) ?_) | (with_reducible refine pK_mk (fun hc => ?_) (fun hc => ?_) <;> (try simp only [go_sem, hb]) <;> (try simp at hc) <;> (try (exfalso; omega))) | ((first | refine pw_seq (pw_cond rfl (fun hc => ?_) (fun hc => ?_)) | refine pw_cond rfl (fun hc => ?_) (fun hc => ?_)) <;> (try simp at hc) <;> (try (exfalso; omega))) | with_reducible refine And.intro (by first | omega | (unfold inI; omega) | exact andI_inI _) ?_)
    refine pw_loop_over [4, 5, 6, 7, 8, 10, 21, 22, 23, 24, 25, 26, 27, 28, 29, 30, 31, 32, 33, 34, 35, 36, 37, 38, 39, 40, 41, 42, 43, 44, 45, 46, 47, 48, 49, 50, 51, 52, 53, 54, 55, 56, 57, 58, 59, 60, 61, 62, 63, 64, 65, 66, 67, 68, 69, 70, 71, 72, 73, 74, 75, 76, 77, 78, 79] (fun k : Nat => [(21, .d (.int .i64 (k : Int))), (6, .d (.int .i64 (flN xs0 a1 k : Int)))]) (fun k : Nat => []) 0 (fun k : Nat => k ≤ xs0.length) (fun k : Nat => xs0.length - k) 0 (Nat.zero_le _) (fits_mk [] (by simp [renL_d, bdL_d, sg, over, wipe, wl, memN, ins, rm, lk, fitFr, fit1, ren, renL, bd, bdL, app, fitHp, hget, renB, bdB, flN] <;> omega)) ?_
    intro k hk
    have hfl := flN_le xs0 a1 k
    have hkk : k * k ≤ 1600 := Nat.mul_le_mul (show k ≤ 40 by omega) (show k ≤ 40 by omega)
    simp only [over, wipe, wl, memN, ins, rm, if_true, if_false, Nat.reduceEqDiff, Bool.false_eq_true, reduceCtorEq]
    by_cases hlt : k < xs0.length
    · have hx := List.getElem?_eq_getElem hlt
      generalize xs0[k] = x at hx
      have hx1 := scAt_get hR hx hs0 hs1
      have hx2 := scAt_get hR hx (show 0 ≤ a1 - 1 by omega) (by omega)
      have hx3 := scAt_bd hR hx hs0 hs1
      have hx4 := scAt_bd hR hx (show 0 ≤ a1 - 1 by omega) (by omega)
      repeat' (first | ((with_reducible first | refine execL_step (fun K' hK' => ?_) | refine quietL_step (fun K' hK' => ?_)); (first | with_reducible refine s_none rfl ?_ | refine s_some2 rfl ?_); simp only [go_sem, List.getElem?_map, hx, Option.map_some, ResultD.dat, ← List.map_take]) | (with_reducible refine hK' _ ?_; clear hK' K') | (with_reducible refine hK _ ?_; clear hK K; try simp only [go_sem, List.getElem?_map, hx, Option.map_some, ResultD.dat, ← List.map_take]) | with_reducible (first | refine stp ?_ | refine pw_seq_opsK kl34 G_ok (fun K hK => ?_) | refine pw_ops G_ok (fun K hK => ?_)) | refine inBlockA_other (by decide) ?_ | (with_reducible refine pw_seq_drawK kl34 G_ok mixed (by kernel_rfl) (fun K hK => ?_)) | (with_reducible refine pw_draw G_ok mixed (by kernel_rfl) ?_) | (with_reducible refine pK_mk (fun hc => ?_) (fun hc => ?_) <;> (try simp only [go_sem, List.getElem?_map, hx, Option.map_some, ResultD.dat, ← List.map_take]) <;> (try simp at hc) <;> (try (exfalso; omega))) | ((first | refine pw_seq (pw_cond rfl (fun hc => ?_) (fun hc => ?_)) | refine pw_cond rfl (fun hc => ?_) (fun hc => ?_)) <;> (try simp at hc) <;> (try (exfalso; omega))) | with_reducible refine And.intro (by first | omega | (unfold inI; omega) | exact andI_inI _) ?_)
      have hT : (xs0.take k).length = k := by simp; omega
      refine pw_loop_over [4, 5, 6, 10, 30, 31, 32, 33, 34, 35, 36, 37, 38, 39, 40, 41, 42, 43, 44, 45, 46, 47, 48, 49, 50, 51, 52, 53, 54, 55, 56, 57, 58, 59, 60, 61, 62, 63, 64, 65, 66, 67, 68, 69, 70, 71, 72, 73, 74, 75, 76, 77, 78] (fun j : Nat => [(30, .d (.int .i64 (j : Int))), (6, .d (.int .i64 ((flN xs0 a1 k + cn (flB a1 x) (xs0.take j) : Nat) : Int)))]) (fun _ => [(0, .box 29 [.d (.int .i64 x.skater), .d (.lst 1 (x.scores.map datI))])]) 1 (fun j => j ≤ k) (fun j => k - j) 0 (Nat.zero_le _) (fits_mk [] (by simp [renL_d, bdL_d, sg, over, wipe, wl, memN, ins, rm, lk, fitFr, fit1, ren, renL, bd, bdL, app, fitHp, hget, renB, bdB, cn_nil] <;> omega)) ?_
      intro j hj
      have hcj := cn_take_le (flB a1 x) xs0 j
      simp only [over, wipe, wl, memN, ins, rm, if_true, if_false, Nat.reduceEqDiff, Bool.false_eq_true, reduceCtorEq]
      by_cases hlt2 : j < k
      · have hjl : j < xs0.length := by omega
        have hy := List.getElem?_eq_getElem hjl
        generalize xs0[j] = y at hy
        have hyt : (xs0.take k)[j]? = some y := by rw [List.getElem?_take_of_lt hlt2]; exact hy
        have hy1 := scAt_get hR hy hs0 hs1
        have hy2 := scAt_get hR hy (show 0 ≤ a1 - 1 by omega) (by omega)
        have hy3 := scAt_bd hR hy hs0 hs1
        have hy4 := scAt_bd hR hy (show 0 ≤ a1 - 1 by omega) (by omega)
        have hsm := sg_mul (scAt x a1 - scAt y a1) (scAt x (a1 - 1) - scAt y (a1 - 1))
        repeat' (first | ((with_reducible first | refine execL_step (fun K' hK' => ?_) | refine quietL_step (fun K' hK' => ?_)); (first | with_reducible refine s_none rfl ?_ | refine s_some2 rfl ?_); simp only [go_sem, List.getElem?_map, hyt, hx1, hx2, hy1, hy2, Option.map_some, ResultD.dat, datI]) | (with_reducible refine hK' _ ?_; clear hK' K') | (with_reducible refine hK _ ?_; clear hK K; try simp only [go_sem, List.getElem?_map, hyt, hx1, hx2, hy1, hy2, Option.map_some, ResultD.dat, datI]) | with_reducible (first | refine stp ?_ | refine pw_seq_opsK kl34 G_ok (fun K hK => ?_) | refine pw_ops G_ok (fun K hK => ?_)) | ((with_reducible first | apply CallK.eq | apply CallQ.eqs); (focus (with_reducible first | exact signOf_ok _)); (focus (first | exact rfl | (simp [RV.flat, D.sc, datI]; done))); try simp only [go_sem, List.getElem?_map, hyt, hx1, hx2, hy1, hy2, Option.map_some, ResultD.dat, datI]) | refine inBlockA_other (by decide) ?_ | (with_reducible refine pw_seq_drawK kl34 G_ok mixed (by kernel_rfl) (fun K hK => ?_)) | (with_reducible refine pw_draw G_ok mixed (by kernel_rfl) ?_) | (with_reducible refine pK_mk (fun hc => ?_) (fun hc => ?_) <;> (try simp only [go_sem, List.getElem?_map, hyt, hx1, hx2, hy1, hy2, Option.map_some, ResultD.dat, datI]) <;> (try simp at hc) <;> (try (exfalso; omega))) | ((first | refine pw_seq (pw_cond rfl (fun hc => ?_) (fun hc => ?_)) | refine pw_cond rfl (fun hc => ?_) (fun hc => ?_)) <;> (try simp at hc) <;> (try (exfalso; omega))) | with_reducible refine And.intro (by first | omega | (unfold inI; omega) | exact andI_inI _) ?_)
        all_goals cases hB : flB a1 x y
        all_goals first
          | (exfalso; refine of_decide_eq_false hB ⟨?_, ?_, ?_⟩ <;> first | omega | assumption)
          | (exfalso; obtain ⟨q1, q2, q3⟩ := of_decide_eq_true hB; omega)
          | (have e1 := cn_no (p := flB a1 x) hy hB; exact ⟨j + 1, by omega, by omega, (fits_mk [] (by simp [renL_d, bdL_d, sg, over, wipe, wl, memN, ins, rm, lk, fitFr, fit1, ren, renL, bd, bdL, app, fitHp, hget, renB, bdB, e1] <;> omega))⟩)
          | (have e1 := cn_yes (p := flB a1 x) hy hB; exact ⟨j + 1, by omega, by omega, (fits_mk [] (by simp [renL_d, bdL_d, sg, over, wipe, wl, memN, ins, rm, lk, fitFr, fit1, ren, renL, bd, bdL, app, fitHp, hget, renB, bdB, e1] <;> omega))⟩)
      · have hje : j = k := by omega
        subst hje
        repeat' (first | ((with_reducible first | refine execL_step (fun K' hK' => ?_) | refine quietL_step (fun K' hK' => ?_)); (first | with_reducible refine s_none rfl ?_ | refine s_some2 rfl ?_); simp only [go_sem]) | (with_reducible refine hK' _ ?_; clear hK' K') | (with_reducible refine hK _ ?_; clear hK K; try simp only [go_sem]) | with_reducible (first | refine stp ?_ | refine pw_seq_opsK kl34 G_ok (fun K hK => ?_) | refine pw_ops G_ok (fun K hK => ?_)) | refine inBlockA_other (by decide) ?_ | (with_reducible refine pw_seq_drawK kl34 G_ok mixed (by kernel_rfl) (fun K hK => ?_)) | (with_reducible refine pw_draw G_ok mixed (by kernel_rfl) ?_) | (with_reducible refine pK_mk (fun hc => ?_) (fun hc => ?_) <;> (try simp only [go_sem]) <;> (try simp at hc) <;> (try (exfalso; omega))) | ((first | refine pw_seq (pw_cond rfl (fun hc => ?_) (fun hc => ?_)) | refine pw_cond rfl (fun hc => ?_) (fun hc => ?_)) <;> (try simp at hc) <;> (try (exfalso; omega))) | with_reducible refine And.intro (by first | omega | (unfold inI; omega) | exact andI_inI _) ?_)
        exact ⟨j + 1, by omega, by omega, (fits_mk [] (by simp [renL_d, bdL_d, sg, over, wipe, wl, memN, ins, rm, lk, fitFr, fit1, ren, renL, bd, bdL, app, fitHp, hget, renB, bdB, flN_succ hx] <;> omega))⟩
    · have hke : k = xs0.length := by omega
      subst hke
      repeat' (first | ((with_reducible first | refine execL_step (fun K' hK' => ?_) | refine quietL_step (fun K' hK' => ?_)); (first | with_reducible refine s_none rfl ?_ | refine s_some2 rfl ?_); simp only [go_sem]) | (with_reducible refine hK' _ ?_; clear hK' K') | (with_reducible refine hK _ ?_; clear hK K; try simp only [go_sem]) | with_reducible (first | refine stp ?_ | refine pw_seq_opsK kl34 G_ok (fun K hK => ?_) | refine pw_ops G_ok (fun K hK => ?_)) | refine inBlockA_other (by decide) ?_ | (with_reducible refine pw_seq_drawK kl34 G_ok mixed (by kernel_rfl) (fun K hK => ?_)) | (with_reducible refine pw_draw G_ok mixed (by kernel_rfl) ?_) | (with_reducible refine pK_mk (fun hc => ?_) (fun hc => ?_) <;> (try simp only [go_sem]) <;> (try simp at hc) <;> (try (exfalso; omega))) | ((first | refine pw_seq (pw_cond rfl (fun hc => ?_) (fun hc => ?_)) | refine pw_cond rfl (fun hc => ?_) (fun hc => ?_)) <;> (try simp at hc) <;> (try (exfalso; omega))) | with_reducible refine And.intro (by first | omega | (unfold inI; omega) | exact andI_inI _) ?_)
      refine retQ_ret rfl rfl (by simp [rowsOf, lk]) ?_; rw [hans]; rfl
  · have hans : ansFlipsOf xs0 a1 = none := optP_neg hv
    by_cases hg : SegOk xs0 a1
    · have hb := bP_true hg
      have hz : a1 = 0 := Classical.byContradiction fun h => hv ⟨hg, h⟩
      subst hz
      repeat' (first | ((with_reducible first | refine execL_step (fun K' hK' => ?_) | refine quietL_step (fun K' hK' => ?_)); (first | with_reducible refine s_none rfl ?_ | refine s_some2 rfl ?_); simp only [go_sem, hb]) | (with_reducible refine hK' _ ?_; clear hK' K') | (with_reducible refine hK _ ?_; clear hK K; try simp only [go_sem, hb]) | with_reducible (first | refine stp ?_ | refine pw_seq_opsK kl34 G_ok (fun K hK => ?_) | refine pw_ops G_ok (fun K hK => ?_)) | ((with_reducible first | apply CallK.eq | apply CallQ.eqs); (focus (with_reducible first | exact hasSegment_ok xs0 _ hl0 hk0)); (focus (first | exact rfl | (simp [RV.flat, D.sc, datI]; done))); try simp only [go_sem, hb]) | refine inBlockA_other (by decide) ?_ | (with_reducible refine pw_seq_drawK kl34 G_ok mixed (by kernel_rfl) (fun K hK => ?_)) | (with_reducible refine pw_draw G_ok mixed (by kernel_rfl) ?_) | (with_reducible refine pK_mk (fun hc => ?_) (fun hc => ?_) <;> (try simp only [go_sem, hb]) <;> (try simp at hc) <;> (try (exfalso; omega))) | ((first | refine pw_seq (pw_cond rfl (fun hc => ?_) (fun hc => ?_)) | refine pw_cond rfl (fun hc => ?_) (fun hc => ?_)) <;> (try simp at hc) <;> (try (exfalso; omega))) | with_reducible refine And.intro (by first | omega | (unfold inI; omega) | exact andI_inI _) ?_)
      all_goals first
        | (exfalso; omega)
        | (refine retQ_ret rfl rfl (by simp [rowsOf, lk]) ?_; rw [hans]; rfl)
    · have hb := bP_false hg
      repeat' (first | ((with_reducible first | refine execL_step (fun K' hK' => ?_) | refine quietL_step (fun K' hK' => ?_)); (first | with_reducible refine s_none rfl ?_ | refine s_some2 rfl ?_); simp only [go_sem, hb]) | (with_reducible refine hK' _ ?_; clear hK' K') | (with_reducible refine hK _ ?_; clear hK K; try simp only [go_sem, hb]) | with_reducible (first | refine stp ?_ | refine pw_seq_opsK kl34 G_ok (fun K hK => ?_) | refine pw_ops G_ok (fun K hK => ?_)) | ((with_reducible first | apply CallK.eq | apply CallQ.eqs); (focus (with_reducible first | exact hasSegment_ok xs0 a1 hl0 hk0)); (focus (first | exact rfl | (simp [RV.flat, D.sc, datI]; done))); try simp only [go_sem, hb]) | refine inBlockA_other (by decide) ?_ | (with_reducible refine pw_seq_drawK kl34 G_ok mixed (by kernel_rfl) (fun K hK => ?_)) | (with_reducible refine pw_draw G_ok mixed (by kernel_rfl) ?_) | (with_reducible refine pK_mk (fun hc => ?_) (fun hc => ?_) <;> (try simp only [go_sem, hb]) <;> (try simp at hc) <;> (try (exfalso; omega))) | ((first | refine pw_seq (pw_cond rfl (fun hc => ?_) (fun hc => ?_)) | refine pw_cond rfl (fun hc => ?_) (fun hc => ?_)) <;> (try simp at hc) <;> (try (exfalso; omega))) | with_reducible refine And.intro (by first | omega | (unfold inI; omega) | exact andI_inI _) ?_)
      refine retQ_ret rfl rfl (by simp [rowsOf, lk]) ?_; rw [hans]; rfl
theorem spec_FlipsOf_ok (xs0 : List ResultD) (a1 : Int) (hl0 : xs0.length ≤ 1048576) (hk0 : ∀ r ∈ xs0, r.scores.length ≤ 1048576) : FnEq Try.prog 35 [.d (.lst 2 (xs0.map ResultD.dat)), .d (.int .i64 a1)] [.d (.int .i64 ((ansFlipsOf xs0 a1).getD 0)), .d (.bool (ansFlipsOf xs0 a1).isSome)] := by
  refine fn_ok G_ok Try.func35 rfl rfl ?_; simp only [Try.ntmps35, List.length_cons, List.length_nil, Nat.reduceAdd, Nat.reduceSub, enm]
  by_cases hv : FlOk xs0 a1
  · have hb := bP_true hv.1
    have hne := hv.2
    have hs0 := hv.1.2.2.1
    have hs1 := hv.1.2.2.2
    have h40 := hv.1.1.1
    have hR := hv.1.1
    have hl3 : len0 xs0 ≤ 3 := len0_le hR
    have hans : ansFlipsOf xs0 a1 = some ((flN xs0 a1 xs0.length : Nat) : Int) := optP_pos hv
    repeat' (first | ((with_reducible first | refine execL_step (fun K' hK' => ?_) | refine quietL_step (fun K' hK' => ?_)); (first | with_reducible refine s_none rfl ?_ | refine s_some2 rfl ?_); simp only [go_sem, hb]) | (with_reducible refine hK' _ ?_; clear hK' K') | (with_reducible refine hK _ ?_; clear hK K; try simp only [go_sem, hb]) | with_reducible (first | refine stp ?_ | refine pw_seq_opsK kl35 G_ok (fun K hK => ?_) | refine pw_ops G_ok (fun K hK => ?_)) | ((with_reducible first | apply CallK.eq | apply CallQ.eqs); (focus (with_reducible first | exact rkSegment_ok xs0 a1 hl0 hk0)); (focus (first | exact rfl | (simp [RV.flat, D.sc, datI]; done))); try simp only [go_sem, hb]) | refine inBlockA_other (by decide) ?_ | (with_reducible refine pw_seq_drawK kl35 G_ok mixed (by kernel_rfl) (fun K hK => ?_)) | (with_reducible refine pw_draw G_ok mixed (by kernel_rfl) ?_) | (with_reducible refine pK_mk (fun hc => ?_) (fun hc => ?_) <;> (try simp only [go_sem, hb]) <;> (try simp at hc) <;> (try (exfalso; omega))) | ((first | refine pw_seq (pw_cond rfl (fun hc => ?_) (fun hc => ?_)) | refine pw_cond rfl (fun hc => ?_) (fun hc => ?_)) <;> (try simp at hc) <;> (try (exfalso; omega))) | with_reducible refine And.intro (by first | omega | (unfold inI; omega) | exact andI_inI _) ?_)
    refine pw_loop_over [4, 5, 6, 7, 8, 10, 11, 12, 23, 24, 25, 26, 27, 28, 29, 30, 31, 32, 33, 34, 35, 36, 37, 38, 39, 40, 41, 42, 43, 44, 45, 46, 47, 48, 49, 50, 51, 52, 53, 54, 55, 56, 57, 58, 59, 60, 61, 62, 63, 64, 65, 66, 67, 68, 69, 70, 71, 72, 73, 74, 75, 76, 77, 78, 79, 80, 81, 82, 83, 84, 85] (fun k : Nat => [(23, .d (.int .i64 (k : Int))), (6, .d (.int .i64 (flN xs0 a1 k : Int)))]) (fun k : Nat => []) 0 (fun k : Nat => k ≤ xs0.length) (fun k : Nat => xs0.length - k) 0 (Nat.zero_le _) (fits_mk [] (by simp [renL_d, bdL_d, sg, over, wipe, wl, memN, ins, rm, lk, fitFr, fit1, ren, renL, bd, bdL, app, fitHp, hget, renB, bdB, flN] <;> omega)) ?_
    intro k hk
    have hfl := flN_le xs0 a1 k
    have hkk : k * k ≤ 1600 := Nat.mul_le_mul (show k ≤ 40 by omega) (show k ≤ 40 by omega)
    simp only [over, wipe, wl, memN, ins, rm, if_true, if_false, Nat.reduceEqDiff, Bool.false_eq_true, reduceCtorEq]
    by_cases hlt : k < xs0.length
    · have hx := List.getElem?_eq_getElem hlt
      generalize xs0[k] = x at hx
      have hx1 := scAt_get hR hx hs0 hs1
      have hx2 := scAt_get hR hx (show 0 ≤ a1 - 1 by omega) (by omega)
      have hx3 := scAt_bd hR hx hs0 hs1
      have hx4 := scAt_bd hR hx (show 0 ≤ a1 - 1 by omega) (by omega)
      repeat' (first | ((with_reducible first | refine execL_step (fun K' hK' => ?_) | refine quietL_step (fun K' hK' => ?_)); (first | with_reducible refine s_none rfl ?_ | refine s_some2 rfl ?_); simp only [go_sem, List.getElem?_map, hx, Option.map_some, ResultD.dat, ← List.map_take]) | (with_reducible refine hK' _ ?_; clear hK' K') | (with_reducible refine hK _ ?_; clear hK K; try simp only [go_sem, List.getElem?_map, hx, Option.map_some, ResultD.dat, ← List.map_take]) | with_reducible (first | refine stp ?_ | refine pw_seq_opsK kl35 G_ok (fun K hK => ?_) | refine pw_ops G_ok (fun K hK => ?_)) | refine inBlockA_other (by decide) ?_ | (with_reducible refine pw_seq_drawK kl35 G_ok mixed (by kernel_rfl) (fun K hK => ?_)) | (with_reducible refine pw_draw G_ok mixed (by kernel_rfl) ?_) | (with_reducible refine pK_mk (fun hc => ?_) (fun hc => ?_) <;> (try simp only [go_sem, List.getElem?_map, hx, Option.map_some, ResultD.dat, ← List.map_take]) <;> (try simp at hc) <;> (try (exfalso; omega))) | ((first | refine pw_seq (pw_cond rfl (fun hc => ?_) (fun hc => ?_)) | refine pw_cond rfl (fun hc => ?_) (fun hc => ?_)) <;> (try simp at hc) <;> (try (exfalso; omega))) | with_reducible refine And.intro (by first | omega | (unfold inI; omega) | exact andI_inI _) ?_)
      have hT : (xs0.take k).length = k := by simp; omega
      refine pw_loop_over [4, 5, 6, 10, 11, 12, 32, 33, 34, 35, 36, 37, 38, 39, 40, 41, 42, 43, 44, 45, 46, 47, 48, 49, 50, 51, 52, 53, 54, 55, 56, 57, 58, 59, 60, 61, 62, 63, 64, 65, 66, 67, 68, 69, 70, 71, 72, 73, 74, 75, 76, 77, 78, 79, 80, 81, 82, 83, 84] (fun j : Nat => [(32, .d (.int .i64 (j : Int))), (6, .d (.int .i64 ((flN xs0 a1 k + cn (flB a1 x) (xs0.take j) : Nat) : Int)))]) (fun _ => [(0, .box 29 [.d (.int .i64 x.skater), .d (.lst 1 (x.scores.map datI))])]) 1 (fun j => j ≤ k) (fun j => k - j) 0 (Nat.zero_le _) (fits_mk [] (by simp [renL_d, bdL_d, sg, over, wipe, wl, memN, ins, rm, lk, fitFr, fit1, ren, renL, bd, bdL, app, fitHp, hget, renB, bdB, cn_nil] <;> omega)) ?_
      intro j hj
      have hcj := cn_take_le (flB a1 x) xs0 j
      simp only [over, wipe, wl, memN, ins, rm, if_true, if_false, Nat.reduceEqDiff, Bool.false_eq_true, reduceCtorEq]
      by_cases hlt2 : j < k
      · have hjl : j < xs0.length := by omega
        have hy := List.getElem?_eq_getElem hjl
        generalize xs0[j] = y at hy
        have hyt : (xs0.take k)[j]? = some y := by rw [List.getElem?_take_of_lt hlt2]; exact hy
        have hy1 := scAt_get hR hy hs0 hs1
        have hy2 := scAt_get hR hy (show 0 ≤ a1 - 1 by omega) (by omega)
        have hy3 := scAt_bd hR hy hs0 hs1
        have hy4 := scAt_bd hR hy (show 0 ≤ a1 - 1 by omega) (by omega)
        have hsm := sg_mul (scAt x a1 - scAt y a1) (scAt x (a1 - 1) - scAt y (a1 - 1))
        repeat' (first | ((with_reducible first | refine execL_step (fun K' hK' => ?_) | refine quietL_step (fun K' hK' => ?_)); (first | with_reducible refine s_none rfl ?_ | refine s_some2 rfl ?_); simp only [go_sem, List.getElem?_map, hyt, hx1, hx2, hy1, hy2, Option.map_some, ResultD.dat, datI]) | (with_reducible refine hK' _ ?_; clear hK' K') | (with_reducible refine hK _ ?_; clear hK K; try simp only [go_sem, List.getElem?_map, hyt, hx1, hx2, hy1, hy2, Option.map_some, ResultD.dat, datI]) | with_reducible (first | refine stp ?_ | refine pw_seq_opsK kl35 G_ok (fun K hK => ?_) | refine pw_ops G_ok (fun K hK => ?_)) | ((with_reducible first | apply CallK.eq | apply CallQ.eqs); (focus (with_reducible first | exact l1Sign_ok _)); (focus (first | exact rfl | (simp [RV.flat, D.sc, datI]; done))); try simp only [go_sem, List.getElem?_map, hyt, hx1, hx2, hy1, hy2, Option.map_some, ResultD.dat, datI]) | refine inBlockA_other (by decide) ?_ | (with_reducible refine pw_seq_drawK kl35 G_ok mixed (by kernel_rfl) (fun K hK => ?_)) | (with_reducible refine pw_draw G_ok mixed (by kernel_rfl) ?_) | (with_reducible refine pK_mk (fun hc => ?_) (fun hc => ?_) <;> (try simp only [go_sem, List.getElem?_map, hyt, hx1, hx2, hy1, hy2, Option.map_some, ResultD.dat, datI]) <;> (try simp at hc) <;> (try (exfalso; omega))) | ((first | refine pw_seq (pw_cond rfl (fun hc => ?_) (fun hc => ?_)) | refine pw_cond rfl (fun hc => ?_) (fun hc => ?_)) <;> (try simp at hc) <;> (try (exfalso; omega))) | with_reducible refine And.intro (by first | omega | (unfold inI; omega) | exact andI_inI _) ?_)
        all_goals cases hB : flB a1 x y
        all_goals first
          | (exfalso; refine of_decide_eq_false hB ⟨?_, ?_, ?_⟩ <;> first | omega | assumption)
          | (exfalso; obtain ⟨q1, q2, q3⟩ := of_decide_eq_true hB; omega)
          | (have e1 := cn_no (p := flB a1 x) hy hB; exact ⟨j + 1, by omega, by omega, (fits_mk [] (by simp [renL_d, bdL_d, sg, over, wipe, wl, memN, ins, rm, lk, fitFr, fit1, ren, renL, bd, bdL, app, fitHp, hget, renB, bdB, e1] <;> omega))⟩)
          | (have e1 := cn_yes (p := flB a1 x) hy hB; exact ⟨j + 1, by omega, by omega, (fits_mk [] (by simp [renL_d, bdL_d, sg, over, wipe, wl, memN, ins, rm, lk, fitFr, fit1, ren, renL, bd, bdL, app, fitHp, hget, renB, bdB, e1] <;> omega))⟩)
      · have hje : j = k := by omega
        subst hje
        repeat' (first | ((with_reducible first | refine execL_step (fun K' hK' => ?_) | refine quietL_step (fun K' hK' => ?_)); (first | with_reducible refine s_none rfl ?_ | refine s_some2 rfl ?_); simp only [go_sem]) | (with_reducible refine hK' _ ?_; clear hK' K') | (with_reducible refine hK _ ?_; clear hK K; try simp only [go_sem]) | with_reducible (first | refine stp ?_ | refine pw_seq_opsK kl35 G_ok (fun K hK => ?_) | refine pw_ops G_ok (fun K hK => ?_)) | refine inBlockA_other (by decide) ?_ | (with_reducible refine pw_seq_drawK kl35 G_ok mixed (by kernel_rfl) (fun K hK => ?_)) | (with_reducible refine pw_draw G_ok mixed (by kernel_rfl) ?_) | (with_reducible refine pK_mk (fun hc => ?_) (fun hc => ?_) <;> (try simp only [go_sem]) <;> (try simp at hc) <;> (try (exfalso; omega))) | ((first | refine pw_seq (pw_cond rfl (fun hc => ?_) (fun hc => ?_)) | refine pw_cond rfl (fun hc => ?_) (fun hc => ?_)) <;> (try simp at hc) <;> (try (exfalso; omega))) | with_reducible refine And.intro (by first | omega | (unfold inI; omega) | exact andI_inI _) ?_)
        exact ⟨j + 1, by omega, by omega, (fits_mk [] (by simp [renL_d, bdL_d, sg, over, wipe, wl, memN, ins, rm, lk, fitFr, fit1, ren, renL, bd, bdL, app, fitHp, hget, renB, bdB, flN_succ hx] <;> omega))⟩
    · have hke : k = xs0.length := by omega
      subst hke
      repeat' (first | ((with_reducible first | refine execL_step (fun K' hK' => ?_) | refine quietL_step (fun K' hK' => ?_)); (first | with_reducible refine s_none rfl ?_ | refine s_some2 rfl ?_); simp only [go_sem]) | (with_reducible refine hK' _ ?_; clear hK' K') | (with_reducible refine hK _ ?_; clear hK K; try simp only [go_sem]) | with_reducible (first | refine stp ?_ | refine pw_seq_opsK kl35 G_ok (fun K hK => ?_) | refine pw_ops G_ok (fun K hK => ?_)) | refine inBlockA_other (by decide) ?_ | (with_reducible refine pw_seq_drawK kl35 G_ok mixed (by kernel_rfl) (fun K hK => ?_)) | (with_reducible refine pw_draw G_ok mixed (by kernel_rfl) ?_) | (with_reducible refine pK_mk (fun hc => ?_) (fun hc => ?_) <;> (try simp only [go_sem]) <;> (try simp at hc) <;> (try (exfalso; omega))) | ((first | refine pw_seq (pw_cond rfl (fun hc => ?_) (fun hc => ?_)) | refine pw_cond rfl (fun hc => ?_) (fun hc => ?_)) <;> (try simp at hc) <;> (try (exfalso; omega))) | with_reducible refine And.intro (by first | omega | (unfold inI; omega) | exact andI_inI _) ?_)
      refine retQ_ret rfl rfl (by simp [rowsOf, lk]) ?_; rw [hans]; rfl
  · have hans : ansFlipsOf xs0 a1 = none := optP_neg hv
    by_cases hg : SegOk xs0 a1
    · have hb := bP_true hg
      have hz : a1 = 0 := Classical.byContradiction fun h => hv ⟨hg, h⟩
      subst hz
      repeat' (first | ((with_reducible first | refine execL_step (fun K' hK' => ?_) | refine quietL_step (fun K' hK' => ?_)); (first | with_reducible refine s_none rfl ?_ | refine s_some2 rfl ?_); simp only [go_sem, hb]) | (with_reducible refine hK' _ ?_; clear hK' K') | (with_reducible refine hK _ ?_; clear hK K; try simp only [go_sem, hb]) | with_reducible (first | refine stp ?_ | refine pw_seq_opsK kl35 G_ok (fun K hK => ?_) | refine pw_ops G_ok (fun K hK => ?_)) | ((with_reducible first | apply CallK.eq | apply CallQ.eqs); (focus (with_reducible first | exact rkSegment_ok xs0 _ hl0 hk0)); (focus (first | exact rfl | (simp [RV.flat, D.sc, datI]; done))); try simp only [go_sem, hb]) | refine inBlockA_other (by decide) ?_ | (with_reducible refine pw_seq_drawK kl35 G_ok mixed (by kernel_rfl) (fun K hK => ?_)) | (with_reducible refine pw_draw G_ok mixed (by kernel_rfl) ?_) | (with_reducible refine pK_mk (fun hc => ?_) (fun hc => ?_) <;> (try simp only [go_sem, hb]) <;> (try simp at hc) <;> (try (exfalso; omega))) | ((first | refine pw_seq (pw_cond rfl (fun hc => ?_) (fun hc => ?_)) | refine pw_cond rfl (fun hc => ?_) (fun hc => ?_)) <;> (try simp at hc) <;> (try (exfalso; omega))) | with_reducible refine And.intro (by first | omega | (unfold inI; omega) | exact andI_inI _) ?_)
      all_goals first
        | (exfalso; omega)
        | (refine retQ_ret rfl rfl (by simp [rowsOf, lk]) ?_; rw [hans]; rfl)
    · have hb := bP_false hg
      repeat' (first | ((with_reducible first | refine execL_step (fun K' hK' => ?_) | refine quietL_step (fun K' hK' => ?_)); (first | with_reducible refine s_none rfl ?_ | refine s_some2 rfl ?_); simp only [go_sem, hb]) | (with_reducible refine hK' _ ?_; clear hK' K') | (with_reducible refine hK _ ?_; clear hK K; try simp only [go_sem, hb]) | with_reducible (first | refine stp ?_ | refine pw_seq_opsK kl35 G_ok (fun K hK => ?_) | refine pw_ops G_ok (fun K hK => ?_)) | ((with_reducible first | apply CallK.eq | apply CallQ.eqs); (focus (with_reducible first | exact rkSegment_ok xs0 a1 hl0 hk0)); (focus (first | exact rfl | (simp [RV.flat, D.sc, datI]; done))); try simp only [go_sem, hb]) | refine inBlockA_other (by decide) ?_ | (with_reducible refine pw_seq_drawK kl35 G_ok mixed (by kernel_rfl) (fun K hK => ?_)) | (with_reducible refine pw_draw G_ok mixed (by kernel_rfl) ?_) | (with_reducible refine pK_mk (fun hc => ?_) (fun hc => ?_) <;> (try simp only [go_sem, hb]) <;> (try simp at hc) <;> (try (exfalso; omega))) | ((first | refine pw_seq (pw_cond rfl (fun hc => ?_) (fun hc => ?_)) | refine pw_cond rfl (fun hc => ?_) (fun hc => ?_)) <;> (try simp at hc) <;> (try (exfalso; omega))) | with_reducible refine And.intro (by first | omega | (unfold inI; omega) | exact andI_inI _) ?_)
      refine retQ_ret rfl rfl (by simp [rowsOf, lk]) ?_; rw [hans]; rfl
end Go.Proofs.Ythkkpiodligmiaa
