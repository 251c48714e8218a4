/-
  Scores of items in lists: the program's functions and the reference's, in the abstract machine.
-/
import Derived.Test.YtphakidbddamfaaGreatZSx
set_option linter.unusedSimpArgs false
set_option linter.unusedVariables false
set_option maxHeartbeats 2000000
set_option maxRecDepth 100000
namespace Go.Proofs.YtphakidbddamfaaGreat
open Go.RowKit

theorem scoreI_of {c : CodeD} {l : List ItemD} {G : List (List Int)} {k : Nat} {g : List Int} (hg : G[k]? = some g) : scoreI c l G k = itemW c l k + ptsW c l k g := by unfold scoreI; rw [List.getD_eq_getElem?_getD, hg]; rfl
theorem itemScore_ok (c : CodeD) (l : List ItemD) (m : MarksD) (k : Nat) (g : List Int) (hc : CodeOk c) (hl : ItsOk l) (hk : KnownL c l) (hlt : k < l.length) (hgx : m.grades[k]? = some g) (hg : GrOk g) : FnEq Tryz.prog 217 [.agg c.cs, .d (.lst 3 (l.map ItemD.dat)), .agg m.cs, .d (.int .i64 (k : Int))] [.d (.int .i64 (scoreI c l m.grades k))] := by
  have hgl := (List.getElem?_eq_some_iff.1 hgx).1
  have h14 := hl.1
  have hib := itemBase_ok c l k hc hl hk hlt
  have hpo := pointsFor_ok c l k g hc hl hk hlt hg
  have hb1 := itemW_bd hc hl hk k
  have hb2 := ptsW_bd hc hl hk (k := k) hg
  rw [scoreI_of hgx]
  refine fn_ok G_ok Tryz.func217 rfl rfl ?_; simp only [Tryz.ntmps217, List.length_cons, List.length_nil, Nat.reduceAdd, Nat.reduceSub, enm]
  generalize itemW c l k = a at hib hb1
  generalize ptsW c l k g = b at hpo hb2
  repeat' (first | ((with_reducible first | (refine hK _ ?_; clear hK K) | refine stq fun K' hK' => ?_ | refine stc ?_); try simp only [go_sem, List.getElem?_map, hgx, Option.map_some, datL, hgl]) | (with_reducible first | refine stp ?_ | (refine hK' _ ?_; clear hK' K') | refine kN kl217 fun K hK => ?_ | refine kO fun K hK => ?_) | ((with_reducible first | apply CallK.eq | apply CallQ.eqs); (· with_reducible first | exact hib | exact hpo); (· first | exact rfl | (simp [RV.flat, D.sc, datI]; done)); try simp only [go_sem, List.getElem?_map, hgx, Option.map_some, datL, hgl]) | (with_reducible refine pw_seq_drawK kl217 G_ok mixed (by kernel_rfl) (fun K hK => ?_)) | (with_reducible refine pw_draw G_ok mixed (by kernel_rfl) ?_) | (with_reducible refine pK_mk ?_ ?_ <;> (intro hc; (try simp only [go_sem, List.getElem?_map, hgx, Option.map_some, datL, hgl]); (try simp at hc); try (exfalso; omega))) | with_reducible refine And.intro (by first | omega | (unfold inI; omega)) ?_)
  all_goals first
    | (exfalso; omega)
    | (refine retQ_ret rfl rfl (by simp [rowsOf, lk]) ?_; rfl)
theorem elOf_ok (c : CodeD) (l : List ItemD) (k : Nat) (g : List Int) (hc : CodeOk c) (hl : ItsOk l) (hk : KnownL c l) (hlt : k < l.length) (hg : GrOk g) : FnEq Tryz.prog 226 [.agg c.cs, .d (.lst 3 (l.map ItemD.dat)), .d (.int .i64 (k : Int)), .d (.lst 1 (g.map datI))] [.d (.int .i64 (itemW c l k + ptsW c l k g))] := by
  have h14 := hl.1
  have hib := bsItem_ok c l k hc hl hk hlt
  have hpo := elPoints_ok c l k g hc hl hk hlt hg
  have hb1 := itemW_bd hc hl hk k
  have hb2 := ptsW_bd hc hl hk (k := k) hg
  refine fn_ok G_ok Tryz.func226 rfl rfl ?_; simp only [Tryz.ntmps226, List.length_cons, List.length_nil, Nat.reduceAdd, Nat.reduceSub, enm]
  generalize itemW c l k = a at hib hb1
  generalize ptsW c l k g = b at hpo hb2
  repeat' (first | ((with_reducible first | (refine hK _ ?_; clear hK K) | refine stq fun K' hK' => ?_ | refine stc ?_); try simp only [go_sem]) | (with_reducible first | refine stp ?_ | (refine hK' _ ?_; clear hK' K') | refine kN kl226 fun K hK => ?_ | refine kO fun K hK => ?_) | ((with_reducible first | apply CallK.eq | apply CallQ.eqs); (· with_reducible first | exact hib | exact hpo); (· first | exact rfl | (simp [RV.flat, D.sc, datI]; done)); try simp only [go_sem]) | (with_reducible refine pw_seq_drawK kl226 G_ok mixed (by kernel_rfl) (fun K hK => ?_)) | (with_reducible refine pw_draw G_ok mixed (by kernel_rfl) ?_) | (with_reducible refine pK_mk ?_ ?_ <;> (intro hc; (try simp only [go_sem]); (try simp at hc); try (exfalso; omega))) | with_reducible refine And.intro (by first | omega | (unfold inI; omega)) ?_)
  all_goals first
    | (exfalso; omega)
    | (refine retQ_ret rfl rfl (by simp [rowsOf, lk]) ?_; rfl)
theorem elScore_ok (c : CodeD) (l : List ItemD) (m : MarksD) (k : Nat) (g : List Int) (hc : CodeOk c) (hl : ItsOk l) (hk : KnownL c l) (hlt : k < l.length) (hgx : m.grades[k]? = some g) (hg : GrOk g) : FnEq Tryz.prog 214 [.agg c.cs, .d (.lst 3 (l.map ItemD.dat)), .agg m.cs, .d (.int .i64 (k : Int))] [.d (.int .i64 (scoreI c l m.grades k))] := by
  have hgl := (List.getElem?_eq_some_iff.1 hgx).1
  have h14 := hl.1
  have heo := elOf_ok c l k g hc hl hk hlt hg
  rw [scoreI_of hgx]
  refine fn_ok G_ok Tryz.func214 rfl rfl ?_; simp only [Tryz.ntmps214, List.length_cons, List.length_nil, Nat.reduceAdd, Nat.reduceSub, enm]
  generalize itemW c l k + ptsW c l k g = a at heo
  repeat' (first | ((with_reducible first | (refine hK _ ?_; clear hK K) | refine stq fun K' hK' => ?_ | refine stc ?_); try simp only [go_sem, List.getElem?_map, hgx, Option.map_some, datL, hgl]) | (with_reducible first | refine stp ?_ | (refine hK' _ ?_; clear hK' K') | refine kN kl214 fun K hK => ?_ | refine kO fun K hK => ?_) | ((with_reducible first | apply CallK.eq | apply CallQ.eqs); (· with_reducible first | exact heo); (· first | exact rfl | (simp [RV.flat, D.sc, datI]; done)); try simp only [go_sem, List.getElem?_map, hgx, Option.map_some, datL, hgl]) | (with_reducible refine pw_seq_drawK kl214 G_ok mixed (by kernel_rfl) (fun K hK => ?_)) | (with_reducible refine pw_draw G_ok mixed (by kernel_rfl) ?_) | (with_reducible refine pK_mk ?_ ?_ <;> (intro hc; (try simp only [go_sem, List.getElem?_map, hgx, Option.map_some, datL, hgl]); (try simp at hc); try (exfalso; omega))) | with_reducible refine And.intro (by first | omega | (unfold inI; omega)) ?_)
  all_goals first
    | (exfalso; omega)
    | (refine retQ_ret rfl rfl (by simp [rowsOf, lk]) ?_; rfl)
theorem scoresW_get (c : CodeD) (l : List ItemD) (G : List (List Int)) {k : Nat} (h : k < l.length) : (scoresW c l G)[k]? = some (scoreI c l G k) := by unfold scoresW; rw [List.getElem?_map, List.getElem?_range h]; rfl
theorem scoresW_lenG (c : CodeD) (l : List ItemD) (G : List (List Int)) : (scoresW c l G).length = l.length := by simp [scoresW]
theorem itemScores_ok (c : CodeD) (l : List ItemD) (m : MarksD) (hc : CodeOk c) (hl : ItsOk l) (hk : KnownL c l) (hm : MarksOk m) (hml : m.grades.length = l.length) : FnEq Tryz.prog 191 [.agg c.cs, .d (.lst 3 (l.map ItemD.dat)), .agg m.cs] [.row 3 1 ((scoresW c l m.grades).map datI)] := by
  have h14 := hl.1
  have hsl := scoresW_lenG c l m.grades
  refine fn_ok G_ok Tryz.func191 rfl rfl ?_; simp only [Tryz.ntmps191, List.length_cons, List.length_nil, Nat.reduceAdd, Nat.reduceSub, enm]
  repeat' (first | ((with_reducible first | (refine hK _ ?_; clear hK K) | refine stq fun K' hK' => ?_ | refine stc ?_); try simp only [go_sem]) | (with_reducible first | refine stp ?_ | (refine hK' _ ?_; clear hK' K') | refine kN kl191 fun K hK => ?_ | refine kO fun K hK => ?_) | refine iB ?_ | (with_reducible refine pK_mk ?_ ?_ <;> (intro hc; (try simp only [go_sem]); (try simp at hc); try (exfalso; omega))) | with_reducible refine And.intro (by first | omega | (unfold inI; omega)) ?_)
  refine pw_loop_over [6, 7, 8, 12, 13, 14, 15, 16, 17, 18, 19, 20, 21, 22, 23] (fun k : Nat => [(12, .d (.int .i64 (k : Int))), (7, .row 2 k)]) (fun k : Nat => [(0, .box 42 [.d (.lst 4 (c.elements.map ElementD.dat)), .d (.lst 1 (c.limits.map datI)), .d (.int .i64 c.repeats), .d (.int .i64 c.bonus), .d (.int .i64 c.keeps), .d (.int .i64 c.fall)]), (1, .box 45 [.d (.lst 1 (m.grades.map (datL 1 datI))), .d (.lst 1 (m.components.map (datL 1 datI)))]), (2, .row 3 1 (((scoresW c l m.grades).take k).map datI))]) 3 (fun k : Nat => k ≤ l.length) (fun k : Nat => l.length - k) 0 (Nat.zero_le _) (fits_mk [] (by simp [renL_d, bdL_d, sg, over, wipe, wl, memN, ins, rm, lk, fitFr, fit1, ren, renL, bd, bdL, app, fitHp, hget, renB, bdB, List.take_zero, List.map_nil] <;> omega)) ?_
  intro k hkl
  simp only [over, wipe, wl, memN, ins, rm, if_true, if_false, Nat.reduceEqDiff, Bool.false_eq_true, reduceCtorEq]
  by_cases hlt : k < l.length
  · have hgx := List.getElem?_eq_getElem (show k < m.grades.length by omega)
    generalize m.grades[k] = g at hgx
    have hsc := itemScore_ok c l m k g hc hl hk hlt hgx (hm.grade hgx)
    have hgt0 := scoresW_get c l m.grades hlt
    have hsn := map_snoc (f := datI) hgt0
    have htl : (List.map datI (List.take k (scoresW c l m.grades))).length = k := by simp; omega
    generalize scoreI c l m.grades k = sc at hsc hgt0 hsn
    repeat' (first | ((with_reducible first | (refine hK _ ?_; clear hK K) | refine stq fun K' hK' => ?_ | refine stc ?_); try simp only [go_sem, htl]) | (with_reducible first | refine stp ?_ | (refine hK' _ ?_; clear hK' K') | refine kN kl191 fun K hK => ?_ | refine kO fun K hK => ?_) | ((with_reducible apply CallK.eq); (· with_reducible first | exact hsc); (· simp [RV.flat, D.sc, datI]); try simp only [go_sem, htl]) | refine iB ?_ | (with_reducible refine pK_mk ?_ ?_ <;> (intro hc; (try simp only [go_sem, htl]); (try simp at hc); try (exfalso; omega))) | with_reducible refine And.intro (by first | omega | (unfold inI; omega)) ?_)
    all_goals first
      | (exfalso; omega)
      | exact ⟨k + 1, by omega, by omega, (fits_mk [] (by simp [renL_d, bdL_d, sg, over, wipe, wl, memN, ins, rm, lk, fitFr, fit1, ren, renL, bd, bdL, app, fitHp, hget, renB, bdB, hsn, datI, -List.map_take] <;> omega))⟩
  · obtain rfl : k = l.length := by omega
    have e : (scoresW c l m.grades).take l.length = scoresW c l m.grades := List.take_of_length_le (by omega)
    rw [e]
    repeat' (first | ((with_reducible first | (refine hK _ ?_; clear hK K) | refine stq fun K' hK' => ?_ | refine stc ?_); try simp only [go_sem]) | (with_reducible first | refine stp ?_ | (refine hK' _ ?_; clear hK' K') | refine kN kl191 fun K hK => ?_ | refine kO fun K hK => ?_) | refine iB ?_ | (with_reducible refine pK_mk ?_ ?_ <;> (intro hc; (try simp only [go_sem]); (try simp at hc); try (exfalso; omega))) | with_reducible refine And.intro (by first | omega | (unfold inI; omega)) ?_)
    all_goals first
      | (exfalso; omega)
      | (refine retQ_ret rfl (by simp only [hsl, retL, ret1, hget, lk, List.length_map, List.length_nil, List.length_append, List.length_take, if_true, if_false, Nat.reduceEqDiff, Nat.reduceBEq, Bool.false_eq_true, Option.some.injEq]; rfl) (by simp [rowsOf, lk]) ?_; rfl)
theorem elScores_ok (c : CodeD) (l : List ItemD) (m : MarksD) (hc : CodeOk c) (hl : ItsOk l) (hk : KnownL c l) (hm : MarksOk m) (hml : m.grades.length = l.length) : FnEq Tryz.prog 186 [.agg c.cs, .d (.lst 3 (l.map ItemD.dat)), .agg m.cs] [.row 3 1 ((scoresW c l m.grades).map datI)] := by
  have h14 := hl.1
  have hsl := scoresW_lenG c l m.grades
  refine fn_ok G_ok Tryz.func186 rfl rfl ?_; simp only [Tryz.ntmps186, List.length_cons, List.length_nil, Nat.reduceAdd, Nat.reduceSub, enm]
  repeat' (first | ((with_reducible first | (refine hK _ ?_; clear hK K) | refine stq fun K' hK' => ?_ | refine stc ?_); try simp only [go_sem]) | (with_reducible first | refine stp ?_ | (refine hK' _ ?_; clear hK' K') | refine kN kl186 fun K hK => ?_ | refine kO fun K hK => ?_) | refine iB ?_ | (with_reducible refine pK_mk ?_ ?_ <;> (intro hc; (try simp only [go_sem]); (try simp at hc); try (exfalso; omega))) | with_reducible refine And.intro (by first | omega | (unfold inI; omega)) ?_)
  refine pw_loop_over [6, 7, 8, 11, 12, 13, 14, 15, 16, 17, 18, 19, 20, 21, 22] (fun k : Nat => [(11, .d (.int .i64 (k : Int))), (7, .row 2 k)]) (fun k : Nat => [(0, .box 42 [.d (.lst 4 (c.elements.map ElementD.dat)), .d (.lst 1 (c.limits.map datI)), .d (.int .i64 c.repeats), .d (.int .i64 c.bonus), .d (.int .i64 c.keeps), .d (.int .i64 c.fall)]), (1, .box 45 [.d (.lst 1 (m.grades.map (datL 1 datI))), .d (.lst 1 (m.components.map (datL 1 datI)))]), (2, .row 3 1 (((scoresW c l m.grades).take k).map datI))]) 3 (fun k : Nat => k ≤ l.length) (fun k : Nat => l.length - k) 0 (Nat.zero_le _) (fits_mk [] (by simp [renL_d, bdL_d, sg, over, wipe, wl, memN, ins, rm, lk, fitFr, fit1, ren, renL, bd, bdL, app, fitHp, hget, renB, bdB, List.take_zero, List.map_nil] <;> omega)) ?_
  intro k hkl
  simp only [over, wipe, wl, memN, ins, rm, if_true, if_false, Nat.reduceEqDiff, Bool.false_eq_true, reduceCtorEq]
  by_cases hlt : k < l.length
  · have hgx := List.getElem?_eq_getElem (show k < m.grades.length by omega)
    generalize m.grades[k] = g at hgx
    have hsc := elScore_ok c l m k g hc hl hk hlt hgx (hm.grade hgx)
    have hgt0 := scoresW_get c l m.grades hlt
    have hsn := map_snoc (f := datI) hgt0
    have htl : (List.map datI (List.take k (scoresW c l m.grades))).length = k := by simp; omega
    generalize scoreI c l m.grades k = sc at hsc hgt0 hsn
    repeat' (first | ((with_reducible first | (refine hK _ ?_; clear hK K) | refine stq fun K' hK' => ?_ | refine stc ?_); try simp only [go_sem, htl]) | (with_reducible first | refine stp ?_ | (refine hK' _ ?_; clear hK' K') | refine kN kl186 fun K hK => ?_ | refine kO fun K hK => ?_) | ((with_reducible apply CallK.eq); (· with_reducible first | exact hsc); (· simp [RV.flat, D.sc, datI]); try simp only [go_sem, htl]) | refine iB ?_ | (with_reducible refine pK_mk ?_ ?_ <;> (intro hc; (try simp only [go_sem, htl]); (try simp at hc); try (exfalso; omega))) | with_reducible refine And.intro (by first | omega | (unfold inI; omega)) ?_)
    all_goals first
      | (exfalso; omega)
      | exact ⟨k + 1, by omega, by omega, (fits_mk [] (by simp [renL_d, bdL_d, sg, over, wipe, wl, memN, ins, rm, lk, fitFr, fit1, ren, renL, bd, bdL, app, fitHp, hget, renB, bdB, hsn, datI, -List.map_take] <;> omega))⟩
  · obtain rfl : k = l.length := by omega
    have e : (scoresW c l m.grades).take l.length = scoresW c l m.grades := List.take_of_length_le (by omega)
    rw [e]
    repeat' (first | ((with_reducible first | (refine hK _ ?_; clear hK K) | refine stq fun K' hK' => ?_ | refine stc ?_); try simp only [go_sem]) | (with_reducible first | refine stp ?_ | (refine hK' _ ?_; clear hK' K') | refine kN kl186 fun K hK => ?_ | refine kO fun K hK => ?_) | refine iB ?_ | (with_reducible refine pK_mk ?_ ?_ <;> (intro hc; (try simp only [go_sem]); (try simp at hc); try (exfalso; omega))) | with_reducible refine And.intro (by first | omega | (unfold inI; omega)) ?_)
    all_goals first
      | (exfalso; omega)
      | (refine retQ_ret rfl (by simp only [hsl, retL, ret1, hget, lk, List.length_map, List.length_nil, List.length_append, List.length_take, if_true, if_false, Nat.reduceEqDiff, Nat.reduceBEq, Bool.false_eq_true, Option.some.injEq]; rfl) (by simp [rowsOf, lk]) ?_; rfl)
end Go.Proofs.YtphakidbddamfaaGreat
