/-
  The safe score: the program's function and the reference's, in the abstract machine.
-/
import Derived.Test.YthkkpiodligmiaaRn2
set_option linter.unusedSimpArgs false
set_option linter.unusedVariables false
set_option maxHeartbeats 2000000
set_option maxRecDepth 100000
namespace Go.Proofs.Ythkkpiodligmiaa
open Go.RowKit

theorem isField_ok (n : Int) : FnEq Try.prog 98 [.d (.int .i64 n)] [.d (.bool (decide (1 ≤ n) && decide (n ≤ 40)))] := by
  refine fn_ok G_ok Try.func98 rfl rfl ?_; simp only [Try.ntmps98, List.length_cons, List.length_nil, Nat.reduceAdd, Nat.reduceSub, enm]
  repeat' (first | ((with_reducible first | refine execL_step (fun K' hK' => ?_)); (first | with_reducible refine s_none rfl ?_ | refine s_some2 rfl ?_); simp only [go_sem]) | (with_reducible refine hK' _ ?_; clear hK' K') | (with_reducible refine hK _ ?_; clear hK K; try simp only [go_sem]) | with_reducible (first | refine stp ?_ | refine pw_seq_opsK kl98 G_ok (fun K hK => ?_) | refine pw_ops G_ok (fun K hK => ?_)) | ((with_reducible first | apply CallK.eq); (focus (with_reducible first | exact within_ok _ _ _)); (focus (first | exact rfl | (simp [RV.flat, D.sc, datI]; done))); try simp only [go_sem]) | refine inBlockA_other (by decide) ?_ | (with_reducible refine pK_mk (fun hc => ?_) (fun hc => ?_) <;> (try simp only [go_sem]) <;> (try simp at hc) <;> (try (exfalso; omega))) | ((first | refine pw_seq (pw_cond rfl (fun hc => ?_) (fun hc => ?_)) | refine pw_cond rfl (fun hc => ?_) (fun hc => ?_)) <;> (try simp at hc) <;> (try (exfalso; omega))) | with_reducible refine And.intro (by first | omega | (unfold inI; omega) | exact andI_inI _) ?_)
  refine retQ_ret rfl rfl (by simp [rowsOf, lk]) ?_; rfl
theorem l1Most_ok (a b : Int) : FnEq Try.prog 109 [.d (.int .i64 a), .d (.int .i64 b)] [.d (.int .i64 (max b a))] := by
  refine fn_ok G_ok Try.func109 rfl rfl ?_; simp only [Try.ntmps109, List.length_cons, List.length_nil, Nat.reduceAdd, Nat.reduceSub, enm]
  repeat' (first | ((with_reducible first | refine execL_step (fun K' hK' => ?_)); (first | with_reducible refine s_none rfl ?_ | refine s_some2 rfl ?_); simp only [go_sem]) | (with_reducible refine hK' _ ?_; clear hK' K') | (with_reducible refine hK _ ?_; clear hK K; try simp only [go_sem]) | with_reducible (first | refine stp ?_ | refine pw_seq_opsK kl109 G_ok (fun K hK => ?_) | refine pw_ops G_ok (fun K hK => ?_)) | refine inBlockA_other (by decide) ?_ | (with_reducible refine pK_mk (fun hc => ?_) (fun hc => ?_) <;> (try simp only [go_sem]) <;> (try simp at hc) <;> (try (exfalso; omega))) | ((first | refine pw_seq (pw_cond rfl (fun hc => ?_) (fun hc => ?_)) | refine pw_cond rfl (fun hc => ?_) (fun hc => ?_)) <;> (try simp at hc) <;> (try (exfalso; omega))) | with_reducible refine And.intro (by first | omega | (unfold inI; omega) | exact andI_inI _) ?_)
  all_goals (refine retQ_ret rfl rfl (by simp [rowsOf, lk]) ?_; simp; omega)
def scoreOf (l : List ResultD) (i s : Int) : Int := match l[i.toNat]? with
  | some x => sgAt s x
  | none => 0
noncomputable abbrev ansSafeScore (l : List ResultD) (i s p : Int) : Option Int := match ansNeededFor l i s p with
  | some v => if 0 ≤ scoreOf l i s then some (max (v - scoreOf l i s) 0) else none
  | none => none
theorem leastW_bd {l : List ResultD} {i s : Nat} {p v : Int} (h : leastW l i s p = some v) : 0 ≤ v ∧ v ≤ 100000 := by
  unfold leastW at h
  cases hf : (List.range 100001).find? (fun v : Nat => decide (plW l i s (v : Int) ≤ p)) with
  | none => rw [hf] at h; cases h
  | some n =>
    rw [hf] at h
    have hm := List.mem_of_find?_eq_some hf
    rw [List.mem_range] at hm
    have h' : (n : Int) = v := Option.some.inj h
    omega
theorem ans_bd {l : List ResultD} {i s p v : Int} (h : ansNeededFor l i s p = some v) : NeedV l i s p ∧ 0 ≤ v ∧ v ≤ 100000 := by
  by_cases hv : NeedV l i s p
  · rw [ansNeededFor_yes hv] at h; exact ⟨hv, leastW_bd h⟩
  · rw [ansNeededFor_no hv] at h; cases h
theorem spec_SafeScore_ok (xs0 : List ResultD) (a1 : Int) (a2 : Int) (a3 : Int) (hl0 : xs0.length ≤ 1048576) (hk0 : ∀ r ∈ xs0, r.scores.length ≤ 1048576) : FnEq Try.prog 50 [.d (.lst 2 (xs0.map ResultD.dat)), .d (.int .i64 a1), .d (.int .i64 a2), .d (.int .i64 a3)] [.d (.int .i64 ((ansSafeScore xs0 a1 a2 a3).getD 0)), .d (.bool (ansSafeScore xs0 a1 a2 a3).isSome)] := by
  refine fn_ok G_ok Try.func50 rfl rfl ?_; simp only [Try.ntmps50, List.length_cons, List.length_nil, Nat.reduceAdd, Nat.reduceSub, enm]
  have hsp := spec_NeededFor_ok xs0 a1 a2 a3 hl0 hk0
  cases hr : ansNeededFor xs0 a1 a2 a3 with
  | none =>
    have e : ansSafeScore xs0 a1 a2 a3 = none := by unfold ansSafeScore; rw [hr]
    rw [hr] at hsp
    rw [e]
    simp only [Option.getD_none, Option.isSome_none] at hsp
    repeat' (first | ((with_reducible first | refine execL_step (fun K' hK' => ?_)); (first | with_reducible refine s_none rfl ?_ | refine s_some2 rfl ?_); simp only [go_sem]) | (with_reducible refine hK' _ ?_; clear hK' K') | (with_reducible refine hK _ ?_; clear hK K; try simp only [go_sem]) | with_reducible (first | refine stp ?_ | refine pw_seq_opsK kl50 G_ok (fun K hK => ?_) | refine pw_ops G_ok (fun K hK => ?_)) | ((with_reducible first | apply CallK.eq); (focus (with_reducible first | exact hsp)); (focus (first | exact rfl | (simp [RV.flat, D.sc, datI]; done))); try simp only [go_sem]) | refine inBlockA_other (by decide) ?_ | (with_reducible refine pK_mk (fun hc => ?_) (fun hc => ?_) <;> (try simp only [go_sem]) <;> (try simp at hc) <;> (try (exfalso; omega))) | ((first | refine pw_seq (pw_cond rfl (fun hc => ?_) (fun hc => ?_)) | refine pw_cond rfl (fun hc => ?_) (fun hc => ?_)) <;> (try simp at hc) <;> (try (exfalso; omega))) | with_reducible refine And.intro (by first | omega | (unfold inI; omega) | exact andI_inI _) ?_)
    all_goals (refine retQ_ret rfl rfl (by simp [rowsOf, lk]) ?_; rfl)
  | some v =>
    obtain ⟨⟨hask, hp, hv⟩, hv0, hv1⟩ := ans_bd hr
    rw [hr] at hsp
    simp only [Option.getD_some, Option.isSome_some] at hsp
    have hi0 := hask.1.2.1
    have hi1 := hask.1.2.2
    have hs0 := hask.2.2.2.1
    have hiN : a1.toNat < xs0.length := by omega
    have hx := List.getElem?_eq_getElem hiN
    generalize xs0[a1.toNat] = x at hx
    obtain ⟨hsN, hsv⟩ := hask.2.score hx
    have hsc : scoreOf xs0 a1 a2 = sgAt a2 x := by unfold scoreOf; rw [hx]
    have hsb := (hask.1.1.2 _ _ hx).1.1 _ _ hsv
    have hsb1 := hsb.1
    have hsb2 := hsb.2.1
    by_cases h0 : 0 ≤ sgAt a2 x
    · have e : ansSafeScore xs0 a1 a2 a3 = some (max (v - sgAt a2 x) 0) := by unfold ansSafeScore; rw [hr, hsc]; simp [h0]
      rw [e]
      repeat' (first | ((with_reducible first | refine execL_step (fun K' hK' => ?_)); (first | with_reducible refine s_none rfl ?_ | refine s_some2 rfl ?_); simp only [go_sem, List.getElem?_map, hx, hsv, hiN, hsN, Option.map_some, ResultD.dat, datI]) | (with_reducible refine hK' _ ?_; clear hK' K') | (with_reducible refine hK _ ?_; clear hK K; try simp only [go_sem, List.getElem?_map, hx, hsv, hiN, hsN, Option.map_some, ResultD.dat, datI]) | with_reducible (first | refine stp ?_ | refine pw_seq_opsK kl50 G_ok (fun K hK => ?_) | refine pw_ops G_ok (fun K hK => ?_)) | ((with_reducible first | apply CallK.eq); (focus (with_reducible first | exact hsp | exact l1Most_ok _ _)); (focus (first | exact rfl | (simp [RV.flat, D.sc, datI]; done))); try simp only [go_sem, List.getElem?_map, hx, hsv, hiN, hsN, Option.map_some, ResultD.dat, datI]) | refine inBlockA_other (by decide) ?_ | (with_reducible refine pK_mk (fun hc => ?_) (fun hc => ?_) <;> (try simp only [go_sem, List.getElem?_map, hx, hsv, hiN, hsN, Option.map_some, ResultD.dat, datI]) <;> (try simp at hc) <;> (try (exfalso; omega))) | ((first | refine pw_seq (pw_cond rfl (fun hc => ?_) (fun hc => ?_)) | refine pw_cond rfl (fun hc => ?_) (fun hc => ?_)) <;> (try simp at hc) <;> (try (exfalso; omega))) | with_reducible refine And.intro (by first | omega | (unfold inI; omega) | exact andI_inI _) ?_)
      all_goals first
        | (exfalso; omega)
        | (refine retQ_ret rfl rfl (by simp [rowsOf, lk]) ?_; rfl)
    · have e : ansSafeScore xs0 a1 a2 a3 = none := by unfold ansSafeScore; rw [hr, hsc]; simp [h0]
      rw [e]
      repeat' (first | ((with_reducible first | refine execL_step (fun K' hK' => ?_)); (first | with_reducible refine s_none rfl ?_ | refine s_some2 rfl ?_); simp only [go_sem, List.getElem?_map, hx, hsv, hiN, hsN, Option.map_some, ResultD.dat, datI]) | (with_reducible refine hK' _ ?_; clear hK' K') | (with_reducible refine hK _ ?_; clear hK K; try simp only [go_sem, List.getElem?_map, hx, hsv, hiN, hsN, Option.map_some, ResultD.dat, datI]) | with_reducible (first | refine stp ?_ | refine pw_seq_opsK kl50 G_ok (fun K hK => ?_) | refine pw_ops G_ok (fun K hK => ?_)) | ((with_reducible first | apply CallK.eq); (focus (with_reducible first | exact hsp)); (focus (first | exact rfl | (simp [RV.flat, D.sc, datI]; done))); try simp only [go_sem, List.getElem?_map, hx, hsv, hiN, hsN, Option.map_some, ResultD.dat, datI]) | refine inBlockA_other (by decide) ?_ | (with_reducible refine pK_mk (fun hc => ?_) (fun hc => ?_) <;> (try simp only [go_sem, List.getElem?_map, hx, hsv, hiN, hsN, Option.map_some, ResultD.dat, datI]) <;> (try simp at hc) <;> (try (exfalso; omega))) | ((first | refine pw_seq (pw_cond rfl (fun hc => ?_) (fun hc => ?_)) | refine pw_cond rfl (fun hc => ?_) (fun hc => ?_)) <;> (try simp at hc) <;> (try (exfalso; omega))) | with_reducible refine And.intro (by first | omega | (unfold inI; omega) | exact andI_inI _) ?_)
      all_goals first
        | (exfalso; omega)
        | (refine retQ_ret rfl rfl (by simp [rowsOf, lk]) ?_; rfl)
theorem impl_SafeScore_ok (xs0 : List ResultD) (a1 : Int) (a2 : Int) (a3 : Int) (hl0 : xs0.length ≤ 1048576) (hk0 : ∀ r ∈ xs0, r.scores.length ≤ 1048576) : FnEq Try.prog 49 [.d (.lst 2 (xs0.map ResultD.dat)), .d (.int .i64 a1), .d (.int .i64 a2), .d (.int .i64 a3)] [.d (.int .i64 ((ansSafeScore xs0 a1 a2 a3).getD 0)), .d (.bool (ansSafeScore xs0 a1 a2 a3).isSome)] := by
  refine fn_ok G_ok Try.func49 rfl rfl ?_; simp only [Try.ntmps49, List.length_cons, List.length_nil, Nat.reduceAdd, Nat.reduceSub, enm]
  by_cases hr : HasR xs0 a1
  · have h1 := bP_true hr
    by_cases hg : SegOk xs0 a2
    · have h2 := bP_true hg
      have hask : AskR xs0 a1 a2 := ⟨hr, hg⟩
      have hi0 := hr.2.1
      have hi1 := hr.2.2
      have hs0 := hg.2.2.1
      have hiN : a1.toNat < xs0.length := by omega
      have hx := List.getElem?_eq_getElem hiN
      generalize xs0[a1.toNat] = x at hx
      obtain ⟨hsN, hsv⟩ := hg.score hx
      have hsc : scoreOf xs0 a1 a2 = sgAt a2 x := by unfold scoreOf; rw [hx]
      have hsb := (hr.1.2 _ _ hx).1.1 _ _ hsv
      have hsb1 := hsb.1
      have hsb2 := hsb.2.1
      have hsl := same_len hask hx
      have ei : ((a1.toNat : Nat) : Int) = a1 := by omega
      have es : ((a2.toNat : Nat) : Int) = a2 := by omega
      by_cases hp : 1 ≤ a3 ∧ a3 ≤ 40
      · by_cases h0 : 0 ≤ sgAt a2 x
        · by_cases hv : ResultsOk (wsD xs0 a1.toNat a2.toNat 0)
          · have hw := neededFor_ok xs0 a1.toNat a2.toNat a3 x hx hsN hl0 hk0 hsl hv
            rw [ei, es] at hw
            have hyes := ansNeededFor_yes (l := xs0) ⟨hask, hp, hv⟩
            cases hlw : leastW xs0 a1.toNat a2.toNat a3 with
            | none =>
              have e : ansSafeScore xs0 a1 a2 a3 = none := by unfold ansSafeScore; rw [hyes, hlw]
              rw [e]
              rw [hlw] at hw
              simp only [Option.getD_none, Option.isSome_none] at hw
              repeat' (first | ((with_reducible first | refine execL_step (fun K' hK' => ?_)); (first | with_reducible refine s_none rfl ?_ | refine s_some2 rfl ?_); simp only [go_sem, h1, h2, List.getElem?_map, hx, hsv, hiN, hsN, Option.map_some, ResultD.dat, datI]) | (with_reducible refine hK' _ ?_; clear hK' K') | (with_reducible refine hK _ ?_; clear hK K; try simp only [go_sem, h1, h2, List.getElem?_map, hx, hsv, hiN, hsN, Option.map_some, ResultD.dat, datI]) | with_reducible (first | refine stp ?_ | refine pw_seq_opsK kl49 G_ok (fun K hK => ?_) | refine pw_ops G_ok (fun K hK => ?_)) | ((with_reducible first | apply CallK.eq); (focus (with_reducible first | exact hasResult_ok xs0 a1 hl0 hk0 | exact hasSegment_ok xs0 a2 hl0 hk0 | exact isField_ok _ | exact hw)); (focus (first | exact rfl | (simp [RV.flat, D.sc, datI]; done))); try simp only [go_sem, h1, h2, List.getElem?_map, hx, hsv, hiN, hsN, Option.map_some, ResultD.dat, datI]) | refine inBlockA_other (by decide) ?_ | (with_reducible refine pK_mk (fun hc => ?_) (fun hc => ?_) <;> (try simp only [go_sem, h1, h2, List.getElem?_map, hx, hsv, hiN, hsN, Option.map_some, ResultD.dat, datI]) <;> (try simp at hc) <;> (try (exfalso; omega))) | ((first | refine pw_seq (pw_cond rfl (fun hc => ?_) (fun hc => ?_)) | refine pw_cond rfl (fun hc => ?_) (fun hc => ?_)) <;> (try simp at hc) <;> (try (exfalso; omega))) | with_reducible refine And.intro (by first | omega | (unfold inI; omega) | exact andI_inI _) ?_)
              all_goals first
                | (exfalso; omega)
                | (refine retQ_ret rfl rfl (by simp [rowsOf, lk]) ?_; rfl)
            | some v =>
              have hb := leastW_bd hlw
              have e : ansSafeScore xs0 a1 a2 a3 = some (max (v - sgAt a2 x) 0) := by unfold ansSafeScore; rw [hyes, hlw, hsc]; simp [h0]
              rw [e]
              rw [hlw] at hw
              simp only [Option.getD_some, Option.isSome_some] at hw
              repeat' (first | ((with_reducible first | refine execL_step (fun K' hK' => ?_)); (first | with_reducible refine s_none rfl ?_ | refine s_some2 rfl ?_); simp only [go_sem, h1, h2, List.getElem?_map, hx, hsv, hiN, hsN, Option.map_some, ResultD.dat, datI]) | (with_reducible refine hK' _ ?_; clear hK' K') | (with_reducible refine hK _ ?_; clear hK K; try simp only [go_sem, h1, h2, List.getElem?_map, hx, hsv, hiN, hsN, Option.map_some, ResultD.dat, datI]) | with_reducible (first | refine stp ?_ | refine pw_seq_opsK kl49 G_ok (fun K hK => ?_) | refine pw_ops G_ok (fun K hK => ?_)) | ((with_reducible first | apply CallK.eq); (focus (with_reducible first | exact hasResult_ok xs0 a1 hl0 hk0 | exact hasSegment_ok xs0 a2 hl0 hk0 | exact isField_ok _ | exact hw)); (focus (first | exact rfl | (simp [RV.flat, D.sc, datI]; done))); try simp only [go_sem, h1, h2, List.getElem?_map, hx, hsv, hiN, hsN, Option.map_some, ResultD.dat, datI]) | refine inBlockA_other (by decide) ?_ | (with_reducible refine pK_mk (fun hc => ?_) (fun hc => ?_) <;> (try simp only [go_sem, h1, h2, List.getElem?_map, hx, hsv, hiN, hsN, Option.map_some, ResultD.dat, datI]) <;> (try simp at hc) <;> (try (exfalso; omega))) | ((first | refine pw_seq (pw_cond rfl (fun hc => ?_) (fun hc => ?_)) | refine pw_cond rfl (fun hc => ?_) (fun hc => ?_)) <;> (try simp at hc) <;> (try (exfalso; omega))) | with_reducible refine And.intro (by first | omega | (unfold inI; omega) | exact andI_inI _) ?_)
              all_goals first
                | (exfalso; omega)
                | (refine retQ_ret rfl rfl (by simp [rowsOf, lk]) ?_; rfl)
          · have hw := neededFor_no xs0 a1.toNat a2.toNat a3 x hx hsN hl0 hk0 hv
            rw [ei, es] at hw
            have e : ansSafeScore xs0 a1 a2 a3 = none := by unfold ansSafeScore; rw [ansNeededFor_no fun h => hv h.2.2]
            rw [e]
            repeat' (first | ((with_reducible first | refine execL_step (fun K' hK' => ?_)); (first | with_reducible refine s_none rfl ?_ | refine s_some2 rfl ?_); simp only [go_sem, h1, h2, List.getElem?_map, hx, hsv, hiN, hsN, Option.map_some, ResultD.dat, datI]) | (with_reducible refine hK' _ ?_; clear hK' K') | (with_reducible refine hK _ ?_; clear hK K; try simp only [go_sem, h1, h2, List.getElem?_map, hx, hsv, hiN, hsN, Option.map_some, ResultD.dat, datI]) | with_reducible (first | refine stp ?_ | refine pw_seq_opsK kl49 G_ok (fun K hK => ?_) | refine pw_ops G_ok (fun K hK => ?_)) | ((with_reducible first | apply CallK.eq); (focus (with_reducible first | exact hasResult_ok xs0 a1 hl0 hk0 | exact hasSegment_ok xs0 a2 hl0 hk0 | exact isField_ok _ | exact hw)); (focus (first | exact rfl | (simp [RV.flat, D.sc, datI]; done))); try simp only [go_sem, h1, h2, List.getElem?_map, hx, hsv, hiN, hsN, Option.map_some, ResultD.dat, datI]) | refine inBlockA_other (by decide) ?_ | (with_reducible refine pK_mk (fun hc => ?_) (fun hc => ?_) <;> (try simp only [go_sem, h1, h2, List.getElem?_map, hx, hsv, hiN, hsN, Option.map_some, ResultD.dat, datI]) <;> (try simp at hc) <;> (try (exfalso; omega))) | ((first | refine pw_seq (pw_cond rfl (fun hc => ?_) (fun hc => ?_)) | refine pw_cond rfl (fun hc => ?_) (fun hc => ?_)) <;> (try simp at hc) <;> (try (exfalso; omega))) | with_reducible refine And.intro (by first | omega | (unfold inI; omega) | exact andI_inI _) ?_)
            all_goals first
              | (exfalso; omega)
              | (refine retQ_ret rfl rfl (by simp [rowsOf, lk]) ?_; rfl)
        · have e : ansSafeScore xs0 a1 a2 a3 = none := by
            unfold ansSafeScore
            cases ansNeededFor xs0 a1 a2 a3 with
            | none => rfl
            | some v => simp [hsc, h0]
          rw [e]
          repeat' (first | ((with_reducible first | refine execL_step (fun K' hK' => ?_)); (first | with_reducible refine s_none rfl ?_ | refine s_some2 rfl ?_); simp only [go_sem, h1, h2, List.getElem?_map, hx, hsv, hiN, hsN, Option.map_some, ResultD.dat, datI]) | (with_reducible refine hK' _ ?_; clear hK' K') | (with_reducible refine hK _ ?_; clear hK K; try simp only [go_sem, h1, h2, List.getElem?_map, hx, hsv, hiN, hsN, Option.map_some, ResultD.dat, datI]) | with_reducible (first | refine stp ?_ | refine pw_seq_opsK kl49 G_ok (fun K hK => ?_) | refine pw_ops G_ok (fun K hK => ?_)) | ((with_reducible first | apply CallK.eq); (focus (with_reducible first | exact hasResult_ok xs0 a1 hl0 hk0 | exact hasSegment_ok xs0 a2 hl0 hk0 | exact isField_ok _)); (focus (first | exact rfl | (simp [RV.flat, D.sc, datI]; done))); try simp only [go_sem, h1, h2, List.getElem?_map, hx, hsv, hiN, hsN, Option.map_some, ResultD.dat, datI]) | refine inBlockA_other (by decide) ?_ | (with_reducible refine pK_mk (fun hc => ?_) (fun hc => ?_) <;> (try simp only [go_sem, h1, h2, List.getElem?_map, hx, hsv, hiN, hsN, Option.map_some, ResultD.dat, datI]) <;> (try simp at hc) <;> (try (exfalso; omega))) | ((first | refine pw_seq (pw_cond rfl (fun hc => ?_) (fun hc => ?_)) | refine pw_cond rfl (fun hc => ?_) (fun hc => ?_)) <;> (try simp at hc) <;> (try (exfalso; omega))) | with_reducible refine And.intro (by first | omega | (unfold inI; omega) | exact andI_inI _) ?_)
          all_goals first
            | (exfalso; omega)
            | (refine retQ_ret rfl rfl (by simp [rowsOf, lk]) ?_; rfl)
      · have e : ansSafeScore xs0 a1 a2 a3 = none := by unfold ansSafeScore; rw [ansNeededFor_no fun h => hp h.2.1]
        rw [e]
        repeat' (first | ((with_reducible first | refine execL_step (fun K' hK' => ?_)); (first | with_reducible refine s_none rfl ?_ | refine s_some2 rfl ?_); simp only [go_sem, h1, h2, List.getElem?_map, hx, hsv, hiN, hsN, Option.map_some, ResultD.dat, datI]) | (with_reducible refine hK' _ ?_; clear hK' K') | (with_reducible refine hK _ ?_; clear hK K; try simp only [go_sem, h1, h2, List.getElem?_map, hx, hsv, hiN, hsN, Option.map_some, ResultD.dat, datI]) | with_reducible (first | refine stp ?_ | refine pw_seq_opsK kl49 G_ok (fun K hK => ?_) | refine pw_ops G_ok (fun K hK => ?_)) | ((with_reducible first | apply CallK.eq); (focus (with_reducible first | exact hasResult_ok xs0 a1 hl0 hk0 | exact hasSegment_ok xs0 a2 hl0 hk0 | exact isField_ok _)); (focus (first | exact rfl | (simp [RV.flat, D.sc, datI]; done))); try simp only [go_sem, h1, h2, List.getElem?_map, hx, hsv, hiN, hsN, Option.map_some, ResultD.dat, datI]) | refine inBlockA_other (by decide) ?_ | (with_reducible refine pK_mk (fun hc => ?_) (fun hc => ?_) <;> (try simp only [go_sem, h1, h2, List.getElem?_map, hx, hsv, hiN, hsN, Option.map_some, ResultD.dat, datI]) <;> (try simp at hc) <;> (try (exfalso; omega))) | ((first | refine pw_seq (pw_cond rfl (fun hc => ?_) (fun hc => ?_)) | refine pw_cond rfl (fun hc => ?_) (fun hc => ?_)) <;> (try simp at hc) <;> (try (exfalso; omega))) | with_reducible refine And.intro (by first | omega | (unfold inI; omega) | exact andI_inI _) ?_)
        all_goals first
          | (exfalso; omega)
          | (refine retQ_ret rfl rfl (by simp [rowsOf, lk]) ?_; rfl)
    · have h2 := bP_false hg
      have e : ansSafeScore xs0 a1 a2 a3 = none := by unfold ansSafeScore; rw [ansNeededFor_no fun h => hg h.1.2]
      rw [e]
      repeat' (first | ((with_reducible first | refine execL_step (fun K' hK' => ?_)); (first | with_reducible refine s_none rfl ?_ | refine s_some2 rfl ?_); simp only [go_sem, h1, h2]) | (with_reducible refine hK' _ ?_; clear hK' K') | (with_reducible refine hK _ ?_; clear hK K; try simp only [go_sem, h1, h2]) | with_reducible (first | refine stp ?_ | refine pw_seq_opsK kl49 G_ok (fun K hK => ?_) | refine pw_ops G_ok (fun K hK => ?_)) | ((with_reducible first | apply CallK.eq); (focus (with_reducible first | exact hasResult_ok xs0 a1 hl0 hk0 | exact hasSegment_ok xs0 a2 hl0 hk0)); (focus (first | exact rfl | (simp [RV.flat, D.sc, datI]; done))); try simp only [go_sem, h1, h2]) | refine inBlockA_other (by decide) ?_ | (with_reducible refine pK_mk (fun hc => ?_) (fun hc => ?_) <;> (try simp only [go_sem, h1, h2]) <;> (try simp at hc) <;> (try (exfalso; omega))) | ((first | refine pw_seq (pw_cond rfl (fun hc => ?_) (fun hc => ?_)) | refine pw_cond rfl (fun hc => ?_) (fun hc => ?_)) <;> (try simp at hc) <;> (try (exfalso; omega))) | with_reducible refine And.intro (by first | omega | (unfold inI; omega) | exact andI_inI _) ?_)
      all_goals (refine retQ_ret rfl rfl (by simp [rowsOf, lk]) ?_; rfl)
  · have h1 := bP_false hr
    have e : ansSafeScore xs0 a1 a2 a3 = none := by unfold ansSafeScore; rw [ansNeededFor_no fun h => hr h.1.1]
    rw [e]
    repeat' (first | ((with_reducible first | refine execL_step (fun K' hK' => ?_)); (first | with_reducible refine s_none rfl ?_ | refine s_some2 rfl ?_); simp only [go_sem, h1]) | (with_reducible refine hK' _ ?_; clear hK' K') | (with_reducible refine hK _ ?_; clear hK K; try simp only [go_sem, h1]) | with_reducible (first | refine stp ?_ | refine pw_seq_opsK kl49 G_ok (fun K hK => ?_) | refine pw_ops G_ok (fun K hK => ?_)) | ((with_reducible first | apply CallK.eq); (focus (with_reducible first | exact hasResult_ok xs0 a1 hl0 hk0)); (focus (first | exact rfl | (simp [RV.flat, D.sc, datI]; done))); try simp only [go_sem, h1]) | refine inBlockA_other (by decide) ?_ | (with_reducible refine pK_mk (fun hc => ?_) (fun hc => ?_) <;> (try simp only [go_sem, h1]) <;> (try simp at hc) <;> (try (exfalso; omega))) | ((first | refine pw_seq (pw_cond rfl (fun hc => ?_) (fun hc => ?_)) | refine pw_cond rfl (fun hc => ?_) (fun hc => ?_)) <;> (try simp at hc) <;> (try (exfalso; omega))) | with_reducible refine And.intro (by first | omega | (unfold inI; omega) | exact andI_inI _) ?_)
    all_goals (refine retQ_ret rfl rfl (by simp [rowsOf, lk]) ?_; rfl)
end Go.Proofs.Ythkkpiodligmiaa
