/-
  EdgeOf: the last place of those who go on, and who has it; the program's function and the reference's, in the abstract machine.
-/
import Derived.Test.YthkkpiodligmiaaQf
set_option linter.unusedSimpArgs false
set_option linter.unusedVariables false
set_option maxHeartbeats 2000000
set_option maxRecDepth 100000
namespace Go.Proofs.Ythkkpiodligmiaa
open Go.RowKit

def lastZ (l : List ResultD) (n : Int) : Int := plcR l (resAt l ((quR l n).getD ((quR l n).length - 1) 0))
def edZ (l : List ResultD) (n : Int) : List Int := fm (eqZ l (lastZ l n)) id (quR l n)
noncomputable abbrev ansEdgeOf (l : List ResultD) (n : Int) : Option (Int × List Int) := optP (ResultsOk l ∧ FldOk n ∧ 0 < (quR l n).length) (lastZ l n, (edZ l n).map (skZ l))

theorem impl_EdgeOf_ok (xs0 : List ResultD) (a1 : Int) (hl0 : xs0.length ≤ 1048576) (hk0 : ∀ r ∈ xs0, r.scores.length ≤ 1048576) : FnEq Try.prog 41 [.d (.lst 2 (xs0.map ResultD.dat)), .d (.int .i64 a1)] [.d (.int .i64 ((ansEdgeOf xs0 a1).getD (0, [])).1), .row 3 1 (((ansEdgeOf xs0 a1).getD (0, [])).2.map datI), .d (.bool (ansEdgeOf xs0 a1).isSome)] := by
  refine fn_ok G_ok Try.func41 rfl rfl ?_; simp only [Try.ntmps41, List.length_cons, List.length_nil, Nat.reduceAdd, Nat.reduceSub, enm]
  by_cases hv : ResultsOk xs0
  · have hb := bP_true hv
    have h40 := hv.1
    by_cases hf : FldOk a1
    · have hf1 := hf.1
      have hf2 := hf.2
      have hqc := qualified_ok xs0 a1 hv
      have hql := quR_len xs0 a1
      have hqi := quR_in xs0 a1
      have hans : 0 < (quR xs0 a1).length → ansEdgeOf xs0 a1 = some (lastZ xs0 a1, (edZ xs0 a1).map (skZ xs0)) := fun h => optP_pos ⟨hv, hf, h⟩
      have hans0 : ¬ 0 < (quR xs0 a1).length → ansEdgeOf xs0 a1 = none := fun h => optP_neg fun h' => h h'.2.2
      have hed : edZ xs0 a1 = fm (eqZ xs0 (lastZ xs0 a1)) id (quR xs0 a1) := rfl
      have hlz : lastZ xs0 a1 = plcR xs0 (resAt xs0 ((quR xs0 a1).getD ((quR xs0 a1).length - 1) 0)) := rfl
      generalize edZ xs0 a1 = ed at hed hans
      generalize lastZ xs0 a1 = pl at hed hans hlz
      generalize quR xs0 a1 = q at hqc hql hqi hans hans0 hed hlz
      by_cases h0 : 0 < q.length
      · have hans := hans h0
        have hne : ¬ (q.length : Int) = 0 := by omega
        have hq : ¬ q = [] := fun e => by subst e; simp at h0
        have hyl := List.getElem?_eq_getElem (show q.length - 1 < q.length by omega)
        generalize q[q.length - 1] = yl at hyl
        have hyl' : q[((q.length : Int) - 1).toNat]? = some yl := by rw [show ((q.length : Int) - 1).toNat = q.length - 1 by omega]; exact hyl
        have hlt2 : ((q.length : Int) - 1).toNat < q.length := by omega
        rw [List.getD_eq_getElem?_getD, hyl, Option.getD_some] at hlz
        have hyi := hqi yl (List.mem_of_getElem? hyl)
        have hyi0 := hyi.1
        have hyi1 := hyi.2
        have hyn : yl.toNat < xs0.length := by omega
        have hrl := List.getElem?_eq_getElem hyn
        generalize xs0[yl.toNat] = rl at hrl
        have hpl := placeOf_ok xs0 yl.toNat rl hrl hv
        rw [Int.toNat_of_nonneg hyi0] at hpl
        rw [hyi.res hrl] at hlz
        rw [← hlz] at hpl
        repeat' (first | ((with_reducible first | refine execL_step (fun K' hK' => ?_)); (first | with_reducible refine s_none rfl ?_ | refine s_some2 rfl ?_); simp only [go_sem, hb, hne, List.length_map, List.getElem?_map, hyl', hlt2, Option.map_some, datI]) | (with_reducible refine hK' _ ?_; clear hK' K') | (with_reducible refine hK _ ?_; clear hK K; try simp only [go_sem, hb, hne, List.length_map, List.getElem?_map, hyl', hlt2, Option.map_some, datI]) | with_reducible (first | refine stp ?_ | refine pw_seq_opsK kl41 G_ok (fun K hK => ?_) | refine pw_ops G_ok (fun K hK => ?_)) | ((with_reducible first | apply CallK.eq); (focus (with_reducible first | exact AreResults_ok xs0 hl0 hk0 | exact isField2_ok _ | exact hqc | exact hpl)); (focus (first | exact rfl | (simp [RV.flat, D.sc, datI]; done))); try simp only [go_sem, hb, hne, List.length_map, List.getElem?_map, hyl', hlt2, Option.map_some, datI]) | refine inBlockA_other (by decide) ?_ | (with_reducible refine pK_mk (fun hc => ?_) (fun hc => ?_) <;> (try simp only [go_sem, hb, hne, List.length_map, List.getElem?_map, hyl', hlt2, Option.map_some, datI]) <;> (try simp at hc) <;> (try (exfalso; omega))) | ((first | refine pw_seq (pw_cond rfl (fun hc => ?_) (fun hc => ?_)) | refine pw_cond rfl (fun hc => ?_) (fun hc => ?_)) <;> (try simp at hc) <;> (try (exfalso; omega))) | with_reducible refine And.intro (by first | omega | (unfold inI; omega) | exact andI_inI _) ?_)
        all_goals first
          | (exfalso; omega)
          | exact absurd (by assumption) hq
          | skip
        refine pw_loop_over [4, 5, 6, 9, 11, 37, 38, 39, 40, 41, 42, 43, 44, 45, 46, 47, 48, 49, 50] (fun k : Nat => [(37, .d (.int .i64 (k : Int))), (9, .row 1 (fm (eqZ xs0 pl) id (q.take k)).length), (35, .row 0 q.length), (7, .row 0 q.length)]) (fun k : Nat => [(0, .row 3 1 (q.map datI)), (1, .row 3 1 ((fm (eqZ xs0 pl) id (q.take k)).map datI))]) 2 (fun k : Nat => k ≤ q.length) (fun k : Nat => q.length - k) 0 (Nat.zero_le _) (fits_mk [] (by simp [renL_d, bdL_d, sg, over, wipe, wl, memN, ins, rm, lk, fitFr, fit1, ren, renL, bd, bdL, app, fitHp, hget, renB, bdB, fm_nil] <;> omega)) ?_
        intro k hk
        have hL := fm_take_len (eqZ xs0 pl) id q k
        simp only [over, wipe, wl, memN, ins, rm, if_true, if_false, Nat.reduceEqDiff, Bool.false_eq_true, reduceCtorEq]
        by_cases hlt : k < q.length
        · have hx := List.getElem?_eq_getElem hlt
          generalize q[k] = y at hx
          have hy := hqi y (List.mem_of_getElem? hx)
          have hy0 := hy.1
          have hy1 := hy.2
          have hyn2 : y.toNat < xs0.length := by omega
          have hr := List.getElem?_eq_getElem hyn2
          generalize xs0[y.toNat] = r at hr
          have hp2 := placeOf_ok xs0 y.toNat r hr hv
          rw [Int.toNat_of_nonneg hy0] at hp2
          have hsb : eqZ xs0 pl y = decide (plcR xs0 r = pl) := by unfold eqZ; rw [hy.res hr]
          repeat' (first | ((with_reducible first | refine execL_step (fun K' hK' => ?_)); (first | with_reducible refine s_none rfl ?_ | refine s_some2 rfl ?_); simp only [go_sem, hlt, List.getElem?_map, hx, Option.map_some, datI]) | (with_reducible refine hK' _ ?_; clear hK' K') | (with_reducible refine hK _ ?_; clear hK K; try simp only [go_sem, hlt, List.getElem?_map, hx, Option.map_some, datI]) | with_reducible (first | refine stp ?_ | refine pw_seq_opsK kl41 G_ok (fun K hK => ?_) | refine pw_ops G_ok (fun K hK => ?_)) | ((with_reducible first | apply CallK.eq); (focus (with_reducible first | exact hp2)); (focus (first | exact rfl | (simp [RV.flat, D.sc, datI]; done))); try simp only [go_sem, hlt, List.getElem?_map, hx, Option.map_some, datI]) | refine inBlockA_other (by decide) ?_ | (with_reducible refine pK_mk (fun hc => ?_) (fun hc => ?_) <;> (try simp only [go_sem, hlt, List.getElem?_map, hx, Option.map_some, datI]) <;> (try simp at hc) <;> (try (exfalso; omega))) | ((first | refine pw_seq (pw_cond rfl (fun hc => ?_) (fun hc => ?_)) | refine pw_cond rfl (fun hc => ?_) (fun hc => ?_)) <;> (try simp at hc) <;> (try (exfalso; omega))) | with_reducible refine And.intro (by first | omega | (unfold inI; omega) | exact andI_inI _) ?_)
          · have e1 := fm_yes (p := eqZ xs0 pl) (f := id) hx (by rw [hsb]; simpa using hc)
            exact ⟨k + 1, by omega, by omega, (fits_mk [] (by simp [renL_d, bdL_d, sg, over, wipe, wl, memN, ins, rm, lk, fitFr, fit1, ren, renL, bd, bdL, app, fitHp, hget, renB, bdB, e1, id_eq, datI] <;> omega))⟩
          · have e1 := fm_no (p := eqZ xs0 pl) (f := id) hx (by rw [hsb]; simpa using hc)
            exact ⟨k + 1, by omega, by omega, (fits_mk [] (by simp [renL_d, bdL_d, sg, over, wipe, wl, memN, ins, rm, lk, fitFr, fit1, ren, renL, bd, bdL, app, fitHp, hget, renB, bdB, e1] <;> omega))⟩
        · have e : fm (eqZ xs0 pl) id (q.take k) = ed := by rw [List.take_of_length_le (by omega), hed]
          have hei : ∀ y ∈ ed, inL xs0 y := by rw [hed]; exact fm_in hqi
          have hel : ed.length ≤ q.length := by rw [hed]; exact fm_len _ _ _
          rw [e]
          have hsl : (ed.map (skZ xs0)).length = ed.length := by simp
          repeat' (first | ((with_reducible first | refine execL_step (fun K' hK' => ?_)); (first | with_reducible refine s_none rfl ?_ | refine s_some2 rfl ?_); simp only [go_sem, List.length_map]) | (with_reducible refine hK' _ ?_; clear hK' K') | (with_reducible refine hK _ ?_; clear hK K; try simp only [go_sem, List.length_map]) | with_reducible (first | refine stp ?_ | refine pw_seq_opsK kl41 G_ok (fun K hK => ?_) | refine pw_ops G_ok (fun K hK => ?_)) | ((with_reducible first | apply CallK.eq); (focus (with_reducible first | exact skatersOf_ok xs0 ed hl0 (by omega) hei)); (focus (first | exact rfl | (simp [RV.flat, D.sc, datI]; done))); try simp only [go_sem, List.length_map]) | refine inBlockA_other (by decide) ?_ | (with_reducible refine pK_mk (fun hc => ?_) (fun hc => ?_) <;> (try simp only [go_sem, List.length_map]) <;> (try simp at hc) <;> (try (exfalso; omega))) | ((first | refine pw_seq (pw_cond rfl (fun hc => ?_) (fun hc => ?_)) | refine pw_cond rfl (fun hc => ?_) (fun hc => ?_)) <;> (try simp at hc) <;> (try (exfalso; omega))) | with_reducible refine And.intro (by first | omega | (unfold inI; omega) | exact andI_inI _) ?_)
          refine retQ_ret rfl (by simp only [hsl, retL, ret1, hget, lk, List.length_map, List.length_nil, List.length_append, List.length_take, if_true, if_false, Nat.reduceEqDiff, Nat.reduceBEq, Bool.false_eq_true, Option.some.injEq]; rfl) (by simp [rowsOf, lk]) ?_; rw [hans]; rfl
      · have hans0 := hans0 h0
        have he : (q.length : Int) = 0 := by omega
        have hq : q = [] := List.eq_nil_of_length_eq_zero (by omega)
        repeat' (first | ((with_reducible first | refine execL_step (fun K' hK' => ?_)); (first | with_reducible refine s_none rfl ?_ | refine s_some2 rfl ?_); simp only [go_sem, hb, he, List.length_map]) | (with_reducible refine hK' _ ?_; clear hK' K') | (with_reducible refine hK _ ?_; clear hK K; try simp only [go_sem, hb, he, List.length_map]) | with_reducible (first | refine stp ?_ | refine pw_seq_opsK kl41 G_ok (fun K hK => ?_) | refine pw_ops G_ok (fun K hK => ?_)) | ((with_reducible first | apply CallK.eq); (focus (with_reducible first | exact AreResults_ok xs0 hl0 hk0 | exact isField2_ok _ | exact hqc)); (focus (first | exact rfl | (simp [RV.flat, D.sc, datI]; done))); try simp only [go_sem, hb, he, List.length_map]) | refine inBlockA_other (by decide) ?_ | (with_reducible refine pK_mk (fun hc => ?_) (fun hc => ?_) <;> (try simp only [go_sem, hb, he, List.length_map]) <;> (try simp at hc) <;> (try (exfalso; omega))) | ((first | refine pw_seq (pw_cond rfl (fun hc => ?_) (fun hc => ?_)) | refine pw_cond rfl (fun hc => ?_) (fun hc => ?_)) <;> (try simp at hc) <;> (try (exfalso; omega))) | with_reducible refine And.intro (by first | omega | (unfold inI; omega) | exact andI_inI _) ?_)
        all_goals first
          | (exfalso; omega)
          | exact absurd hq (by assumption)
          | (refine retQ_ret rfl (by simp only [retL, ret1, hget, lk, List.length_map, List.length_nil, List.length_append, List.length_take, if_true, if_false, Nat.reduceEqDiff, Nat.reduceBEq, Bool.false_eq_true, Option.some.injEq]; rfl) (by simp [rowsOf, lk]) ?_; rw [hans0]; rfl)
    · have hans : ansEdgeOf xs0 a1 = none := optP_neg fun h => hf h.2.1
      have hf' : ¬ (1 ≤ a1 ∧ a1 ≤ 40) := hf
      repeat' (first | ((with_reducible first | refine execL_step (fun K' hK' => ?_)); (first | with_reducible refine s_none rfl ?_ | refine s_some2 rfl ?_); simp only [go_sem, hb]) | (with_reducible refine hK' _ ?_; clear hK' K') | (with_reducible refine hK _ ?_; clear hK K; try simp only [go_sem, hb]) | with_reducible (first | refine stp ?_ | refine pw_seq_opsK kl41 G_ok (fun K hK => ?_) | refine pw_ops G_ok (fun K hK => ?_)) | ((with_reducible first | apply CallK.eq); (focus (with_reducible first | exact AreResults_ok xs0 hl0 hk0 | exact isField2_ok _)); (focus (first | exact rfl | (simp [RV.flat, D.sc, datI]; done))); try simp only [go_sem, hb]) | refine inBlockA_other (by decide) ?_ | (with_reducible refine pK_mk (fun hc => ?_) (fun hc => ?_) <;> (try simp only [go_sem, hb]) <;> (try simp at hc) <;> (try (exfalso; omega))) | ((first | refine pw_seq (pw_cond rfl (fun hc => ?_) (fun hc => ?_)) | refine pw_cond rfl (fun hc => ?_) (fun hc => ?_)) <;> (try simp at hc) <;> (try (exfalso; omega))) | with_reducible refine And.intro (by first | omega | (unfold inI; omega) | exact andI_inI _) ?_)
      all_goals first
        | (exfalso; omega)
        | (refine retQ_ret rfl (by simp only [retL, ret1, hget, lk, List.length_map, List.length_nil, List.length_append, List.length_take, if_true, if_false, Nat.reduceEqDiff, Nat.reduceBEq, Bool.false_eq_true, Option.some.injEq]; rfl) (by simp [rowsOf, lk]) ?_; rw [hans]; rfl)
  · have hb := bP_false hv
    have hans : ansEdgeOf xs0 a1 = none := optP_neg fun h => hv h.1
    repeat' (first | ((with_reducible first | refine execL_step (fun K' hK' => ?_)); (first | with_reducible refine s_none rfl ?_ | refine s_some2 rfl ?_); simp only [go_sem, hb]) | (with_reducible refine hK' _ ?_; clear hK' K') | (with_reducible refine hK _ ?_; clear hK K; try simp only [go_sem, hb]) | with_reducible (first | refine stp ?_ | refine pw_seq_opsK kl41 G_ok (fun K hK => ?_) | refine pw_ops G_ok (fun K hK => ?_)) | ((with_reducible first | apply CallK.eq); (focus (with_reducible first | exact AreResults_ok xs0 hl0 hk0)); (focus (first | exact rfl | (simp [RV.flat, D.sc, datI]; done))); try simp only [go_sem, hb]) | refine inBlockA_other (by decide) ?_ | (with_reducible refine pK_mk (fun hc => ?_) (fun hc => ?_) <;> (try simp only [go_sem, hb]) <;> (try simp at hc) <;> (try (exfalso; omega))) | ((first | refine pw_seq (pw_cond rfl (fun hc => ?_) (fun hc => ?_)) | refine pw_cond rfl (fun hc => ?_) (fun hc => ?_)) <;> (try simp at hc) <;> (try (exfalso; omega))) | with_reducible refine And.intro (by first | omega | (unfold inI; omega) | exact andI_inI _) ?_)
    all_goals (refine retQ_ret rfl (by simp only [retL, ret1, hget, lk, List.length_map, List.length_nil, List.length_append, List.length_take, if_true, if_false, Nat.reduceEqDiff, Nat.reduceBEq, Bool.false_eq_true, Option.some.injEq]; rfl) (by simp [rowsOf, lk]) ?_; rw [hans]; rfl)
theorem spec_EdgeOf_ok (xs0 : List ResultD) (a1 : Int) (hl0 : xs0.length ≤ 1048576) (hk0 : ∀ r ∈ xs0, r.scores.length ≤ 1048576) : FnEq Try.prog 42 [.d (.lst 2 (xs0.map ResultD.dat)), .d (.int .i64 a1)] [.d (.int .i64 ((ansEdgeOf xs0 a1).getD (0, [])).1), .row 3 1 (((ansEdgeOf xs0 a1).getD (0, [])).2.map datI), .d (.bool (ansEdgeOf xs0 a1).isSome)] := by
  refine fn_ok G_ok Try.func42 rfl rfl ?_; simp only [Try.ntmps42, List.length_cons, List.length_nil, Nat.reduceAdd, Nat.reduceSub, enm]
  by_cases hv : ResultsOk xs0
  · have hb := bP_true hv
    have h40 := hv.1
    by_cases hf : FldOk a1
    · have hf1 := hf.1
      have hf2 := hf.2
      have hqc := quFor_ok xs0 a1 hv
      have hql := quR_len xs0 a1
      have hqi := quR_in xs0 a1
      have hans : 0 < (quR xs0 a1).length → ansEdgeOf xs0 a1 = some (lastZ xs0 a1, (edZ xs0 a1).map (skZ xs0)) := fun h => optP_pos ⟨hv, hf, h⟩
      have hans0 : ¬ 0 < (quR xs0 a1).length → ansEdgeOf xs0 a1 = none := fun h => optP_neg fun h' => h h'.2.2
      have hed : edZ xs0 a1 = fm (eqZ xs0 (lastZ xs0 a1)) id (quR xs0 a1) := rfl
      have hlz : lastZ xs0 a1 = plcR xs0 (resAt xs0 ((quR xs0 a1).getD ((quR xs0 a1).length - 1) 0)) := rfl
      generalize edZ xs0 a1 = ed at hed hans
      generalize lastZ xs0 a1 = pl at hed hans hlz
      generalize quR xs0 a1 = q at hqc hql hqi hans hans0 hed hlz
      by_cases h0 : 0 < q.length
      · have hans := hans h0
        have hne : ¬ (q.length : Int) = 0 := by omega
        have hq : ¬ q = [] := fun e => by subst e; simp at h0
        have hyl := List.getElem?_eq_getElem (show q.length - 1 < q.length by omega)
        generalize q[q.length - 1] = yl at hyl
        have hyl' : q[((q.length : Int) - 1).toNat]? = some yl := by rw [show ((q.length : Int) - 1).toNat = q.length - 1 by omega]; exact hyl
        have hlt2 : ((q.length : Int) - 1).toNat < q.length := by omega
        rw [List.getD_eq_getElem?_getD, hyl, Option.getD_some] at hlz
        have hyi := hqi yl (List.mem_of_getElem? hyl)
        have hyi0 := hyi.1
        have hyi1 := hyi.2
        have hyn : yl.toNat < xs0.length := by omega
        have hrl := List.getElem?_eq_getElem hyn
        generalize xs0[yl.toNat] = rl at hrl
        have hpl := rkPlace_ok xs0 yl.toNat rl hrl hv
        rw [Int.toNat_of_nonneg hyi0] at hpl
        rw [hyi.res hrl] at hlz
        rw [← hlz] at hpl
        repeat' (first | ((with_reducible first | refine execL_step (fun K' hK' => ?_)); (first | with_reducible refine s_none rfl ?_ | refine s_some2 rfl ?_); simp only [go_sem, hb, hne, List.length_map, List.getElem?_map, hyl', hlt2, Option.map_some, datI]) | (with_reducible refine hK' _ ?_; clear hK' K') | (with_reducible refine hK _ ?_; clear hK K; try simp only [go_sem, hb, hne, List.length_map, List.getElem?_map, hyl', hlt2, Option.map_some, datI]) | with_reducible (first | refine stp ?_ | refine pw_seq_opsK kl42 G_ok (fun K hK => ?_) | refine pw_ops G_ok (fun K hK => ?_)) | ((with_reducible first | apply CallK.eq); (focus (with_reducible first | exact rkGood_ok xs0 hl0 hk0 | exact quNumber_ok _ | exact hqc | exact hpl)); (focus (first | exact rfl | (simp [RV.flat, D.sc, datI]; done))); try simp only [go_sem, hb, hne, List.length_map, List.getElem?_map, hyl', hlt2, Option.map_some, datI]) | refine inBlockA_other (by decide) ?_ | (with_reducible refine pK_mk (fun hc => ?_) (fun hc => ?_) <;> (try simp only [go_sem, hb, hne, List.length_map, List.getElem?_map, hyl', hlt2, Option.map_some, datI]) <;> (try simp at hc) <;> (try (exfalso; omega))) | ((first | refine pw_seq (pw_cond rfl (fun hc => ?_) (fun hc => ?_)) | refine pw_cond rfl (fun hc => ?_) (fun hc => ?_)) <;> (try simp at hc) <;> (try (exfalso; omega))) | with_reducible refine And.intro (by first | omega | (unfold inI; omega) | exact andI_inI _) ?_)
        all_goals first
          | (exfalso; omega)
          | exact absurd (by assumption) hq
          | skip
        refine pw_loop_over [4, 5, 6, 9, 11, 40, 41, 42, 43, 44, 45, 46, 47, 48, 49, 50, 51, 52, 53] (fun k : Nat => [(40, .d (.int .i64 (k : Int))), (9, .row 1 (fm (eqZ xs0 pl) id (q.take k)).length), (38, .row 0 q.length), (7, .row 0 q.length)]) (fun k : Nat => [(0, .row 3 1 (q.map datI)), (1, .row 3 1 ((fm (eqZ xs0 pl) id (q.take k)).map datI))]) 2 (fun k : Nat => k ≤ q.length) (fun k : Nat => q.length - k) 0 (Nat.zero_le _) (fits_mk [] (by simp [renL_d, bdL_d, sg, over, wipe, wl, memN, ins, rm, lk, fitFr, fit1, ren, renL, bd, bdL, app, fitHp, hget, renB, bdB, fm_nil] <;> omega)) ?_
        intro k hk
        have hL := fm_take_len (eqZ xs0 pl) id q k
        simp only [over, wipe, wl, memN, ins, rm, if_true, if_false, Nat.reduceEqDiff, Bool.false_eq_true, reduceCtorEq]
        by_cases hlt : k < q.length
        · have hx := List.getElem?_eq_getElem hlt
          generalize q[k] = y at hx
          have hy := hqi y (List.mem_of_getElem? hx)
          have hy0 := hy.1
          have hy1 := hy.2
          have hyn2 : y.toNat < xs0.length := by omega
          have hr := List.getElem?_eq_getElem hyn2
          generalize xs0[y.toNat] = r at hr
          have hp2 := rkPlace_ok xs0 y.toNat r hr hv
          rw [Int.toNat_of_nonneg hy0] at hp2
          have hsb : eqZ xs0 pl y = decide (plcR xs0 r = pl) := by unfold eqZ; rw [hy.res hr]
          repeat' (first | ((with_reducible first | refine execL_step (fun K' hK' => ?_)); (first | with_reducible refine s_none rfl ?_ | refine s_some2 rfl ?_); simp only [go_sem, hlt, List.getElem?_map, hx, Option.map_some, datI]) | (with_reducible refine hK' _ ?_; clear hK' K') | (with_reducible refine hK _ ?_; clear hK K; try simp only [go_sem, hlt, List.getElem?_map, hx, Option.map_some, datI]) | with_reducible (first | refine stp ?_ | refine pw_seq_opsK kl42 G_ok (fun K hK => ?_) | refine pw_ops G_ok (fun K hK => ?_)) | ((with_reducible first | apply CallK.eq); (focus (with_reducible first | exact hp2)); (focus (first | exact rfl | (simp [RV.flat, D.sc, datI]; done))); try simp only [go_sem, hlt, List.getElem?_map, hx, Option.map_some, datI]) | refine inBlockA_other (by decide) ?_ | (with_reducible refine pK_mk (fun hc => ?_) (fun hc => ?_) <;> (try simp only [go_sem, hlt, List.getElem?_map, hx, Option.map_some, datI]) <;> (try simp at hc) <;> (try (exfalso; omega))) | ((first | refine pw_seq (pw_cond rfl (fun hc => ?_) (fun hc => ?_)) | refine pw_cond rfl (fun hc => ?_) (fun hc => ?_)) <;> (try simp at hc) <;> (try (exfalso; omega))) | with_reducible refine And.intro (by first | omega | (unfold inI; omega) | exact andI_inI _) ?_)
          · have e1 := fm_yes (p := eqZ xs0 pl) (f := id) hx (by rw [hsb]; simpa using hc)
            exact ⟨k + 1, by omega, by omega, (fits_mk [] (by simp [renL_d, bdL_d, sg, over, wipe, wl, memN, ins, rm, lk, fitFr, fit1, ren, renL, bd, bdL, app, fitHp, hget, renB, bdB, e1, id_eq, datI] <;> omega))⟩
          · have e1 := fm_no (p := eqZ xs0 pl) (f := id) hx (by rw [hsb]; simpa using hc)
            exact ⟨k + 1, by omega, by omega, (fits_mk [] (by simp [renL_d, bdL_d, sg, over, wipe, wl, memN, ins, rm, lk, fitFr, fit1, ren, renL, bd, bdL, app, fitHp, hget, renB, bdB, e1] <;> omega))⟩
        · have e : fm (eqZ xs0 pl) id (q.take k) = ed := by rw [List.take_of_length_le (by omega), hed]
          have hei : ∀ y ∈ ed, inL xs0 y := by rw [hed]; exact fm_in hqi
          have hel : ed.length ≤ q.length := by rw [hed]; exact fm_len _ _ _
          rw [e]
          have hsl : (ed.map (skZ xs0)).length = ed.length := by simp
          repeat' (first | ((with_reducible first | refine execL_step (fun K' hK' => ?_)); (first | with_reducible refine s_none rfl ?_ | refine s_some2 rfl ?_); simp only [go_sem, List.length_map]) | (with_reducible refine hK' _ ?_; clear hK' K') | (with_reducible refine hK _ ?_; clear hK K; try simp only [go_sem, List.length_map]) | with_reducible (first | refine stp ?_ | refine pw_seq_opsK kl42 G_ok (fun K hK => ?_) | refine pw_ops G_ok (fun K hK => ?_)) | ((with_reducible first | apply CallK.eq); (focus (with_reducible first | exact quSkaters_ok xs0 ed hl0 (by omega) hei)); (focus (first | exact rfl | (simp [RV.flat, D.sc, datI]; done))); try simp only [go_sem, List.length_map]) | refine inBlockA_other (by decide) ?_ | (with_reducible refine pK_mk (fun hc => ?_) (fun hc => ?_) <;> (try simp only [go_sem, List.length_map]) <;> (try simp at hc) <;> (try (exfalso; omega))) | ((first | refine pw_seq (pw_cond rfl (fun hc => ?_) (fun hc => ?_)) | refine pw_cond rfl (fun hc => ?_) (fun hc => ?_)) <;> (try simp at hc) <;> (try (exfalso; omega))) | with_reducible refine And.intro (by first | omega | (unfold inI; omega) | exact andI_inI _) ?_)
          refine retQ_ret rfl (by simp only [hsl, retL, ret1, hget, lk, List.length_map, List.length_nil, List.length_append, List.length_take, if_true, if_false, Nat.reduceEqDiff, Nat.reduceBEq, Bool.false_eq_true, Option.some.injEq]; rfl) (by simp [rowsOf, lk]) ?_; rw [hans]; rfl
      · have hans0 := hans0 h0
        have he : (q.length : Int) = 0 := by omega
        have hq : q = [] := List.eq_nil_of_length_eq_zero (by omega)
        repeat' (first | ((with_reducible first | refine execL_step (fun K' hK' => ?_)); (first | with_reducible refine s_none rfl ?_ | refine s_some2 rfl ?_); simp only [go_sem, hb, he, List.length_map]) | (with_reducible refine hK' _ ?_; clear hK' K') | (with_reducible refine hK _ ?_; clear hK K; try simp only [go_sem, hb, he, List.length_map]) | with_reducible (first | refine stp ?_ | refine pw_seq_opsK kl42 G_ok (fun K hK => ?_) | refine pw_ops G_ok (fun K hK => ?_)) | ((with_reducible first | apply CallK.eq); (focus (with_reducible first | exact rkGood_ok xs0 hl0 hk0 | exact quNumber_ok _ | exact hqc)); (focus (first | exact rfl | (simp [RV.flat, D.sc, datI]; done))); try simp only [go_sem, hb, he, List.length_map]) | refine inBlockA_other (by decide) ?_ | (with_reducible refine pK_mk (fun hc => ?_) (fun hc => ?_) <;> (try simp only [go_sem, hb, he, List.length_map]) <;> (try simp at hc) <;> (try (exfalso; omega))) | ((first | refine pw_seq (pw_cond rfl (fun hc => ?_) (fun hc => ?_)) | refine pw_cond rfl (fun hc => ?_) (fun hc => ?_)) <;> (try simp at hc) <;> (try (exfalso; omega))) | with_reducible refine And.intro (by first | omega | (unfold inI; omega) | exact andI_inI _) ?_)
        all_goals first
          | (exfalso; omega)
          | exact absurd hq (by assumption)
          | (refine retQ_ret rfl (by simp only [retL, ret1, hget, lk, List.length_map, List.length_nil, List.length_append, List.length_take, if_true, if_false, Nat.reduceEqDiff, Nat.reduceBEq, Bool.false_eq_true, Option.some.injEq]; rfl) (by simp [rowsOf, lk]) ?_; rw [hans0]; rfl)
    · have hans : ansEdgeOf xs0 a1 = none := optP_neg fun h => hf h.2.1
      have hf' : ¬ (1 ≤ a1 ∧ a1 ≤ 40) := hf
      repeat' (first | ((with_reducible first | refine execL_step (fun K' hK' => ?_)); (first | with_reducible refine s_none rfl ?_ | refine s_some2 rfl ?_); simp only [go_sem, hb]) | (with_reducible refine hK' _ ?_; clear hK' K') | (with_reducible refine hK _ ?_; clear hK K; try simp only [go_sem, hb]) | with_reducible (first | refine stp ?_ | refine pw_seq_opsK kl42 G_ok (fun K hK => ?_) | refine pw_ops G_ok (fun K hK => ?_)) | ((with_reducible first | apply CallK.eq); (focus (with_reducible first | exact rkGood_ok xs0 hl0 hk0 | exact quNumber_ok _)); (focus (first | exact rfl | (simp [RV.flat, D.sc, datI]; done))); try simp only [go_sem, hb]) | refine inBlockA_other (by decide) ?_ | (with_reducible refine pK_mk (fun hc => ?_) (fun hc => ?_) <;> (try simp only [go_sem, hb]) <;> (try simp at hc) <;> (try (exfalso; omega))) | ((first | refine pw_seq (pw_cond rfl (fun hc => ?_) (fun hc => ?_)) | refine pw_cond rfl (fun hc => ?_) (fun hc => ?_)) <;> (try simp at hc) <;> (try (exfalso; omega))) | with_reducible refine And.intro (by first | omega | (unfold inI; omega) | exact andI_inI _) ?_)
      all_goals first
        | (exfalso; omega)
        | (refine retQ_ret rfl (by simp only [retL, ret1, hget, lk, List.length_map, List.length_nil, List.length_append, List.length_take, if_true, if_false, Nat.reduceEqDiff, Nat.reduceBEq, Bool.false_eq_true, Option.some.injEq]; rfl) (by simp [rowsOf, lk]) ?_; rw [hans]; rfl)
  · have hb := bP_false hv
    have hans : ansEdgeOf xs0 a1 = none := optP_neg fun h => hv h.1
    repeat' (first | ((with_reducible first | refine execL_step (fun K' hK' => ?_)); (first | with_reducible refine s_none rfl ?_ | refine s_some2 rfl ?_); simp only [go_sem, hb]) | (with_reducible refine hK' _ ?_; clear hK' K') | (with_reducible refine hK _ ?_; clear hK K; try simp only [go_sem, hb]) | with_reducible (first | refine stp ?_ | refine pw_seq_opsK kl42 G_ok (fun K hK => ?_) | refine pw_ops G_ok (fun K hK => ?_)) | ((with_reducible first | apply CallK.eq); (focus (with_reducible first | exact rkGood_ok xs0 hl0 hk0)); (focus (first | exact rfl | (simp [RV.flat, D.sc, datI]; done))); try simp only [go_sem, hb]) | refine inBlockA_other (by decide) ?_ | (with_reducible refine pK_mk (fun hc => ?_) (fun hc => ?_) <;> (try simp only [go_sem, hb]) <;> (try simp at hc) <;> (try (exfalso; omega))) | ((first | refine pw_seq (pw_cond rfl (fun hc => ?_) (fun hc => ?_)) | refine pw_cond rfl (fun hc => ?_) (fun hc => ?_)) <;> (try simp at hc) <;> (try (exfalso; omega))) | with_reducible refine And.intro (by first | omega | (unfold inI; omega) | exact andI_inI _) ?_)
    all_goals (refine retQ_ret rfl (by simp only [retL, ret1, hget, lk, List.length_map, List.length_nil, List.length_append, List.length_take, if_true, if_false, Nat.reduceEqDiff, Nat.reduceBEq, Bool.false_eq_true, Option.some.injEq]; rfl) (by simp [rowsOf, lk]) ?_; rw [hans]; rfl)
end Go.Proofs.Ythkkpiodligmiaa
