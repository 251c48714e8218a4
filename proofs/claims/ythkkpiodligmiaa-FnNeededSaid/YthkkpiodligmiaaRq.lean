/-
  Places of results in one segment: the program's functions and the reference's, in the abstract machine.
-/
import Derived.Test.YthkkpiodligmiaaRg
set_option linter.unusedSimpArgs false
set_option linter.unusedVariables false
set_option maxHeartbeats 2000000
set_option maxRecDepth 100000
namespace Go.Proofs.Ythkkpiodligmiaa
open Go.RowKit

/-- how many of a list are greater -/
def grN (l : List Int) (n : Int) : Nat := cn (fun y => decide (n < y)) l
theorem grN_le (l : List Int) (n : Int) (k : Nat) : grN (l.take k) n ≤ k := cn_take_le _ _ _
theorem grN_yes {l : List Int} {k : Nat} {n y : Int} (hy : l[k]? = some y) (h : n < y) : grN (l.take (k + 1)) n = grN (l.take k) n + 1 := cn_yes hy (by simpa using h)
theorem grN_no {l : List Int} {k : Nat} {n y : Int} (hy : l[k]? = some y) (h : ¬ n < y) : grN (l.take (k + 1)) n = grN (l.take k) n := cn_no hy (by simpa using h)
def plN (l : List Int) (n : Int) : Int := 1 + (grN l n : Int)
def plNs (l : List Int) (k : Nat) : List Int := (l.take k).map (plN l)
theorem plNs_zero (l : List Int) : plNs l 0 = [] := rfl
theorem plNs_snoc {l : List Int} {k : Nat} {x : Int} (hx : l[k]? = some x) : plNs l (k + 1) = plNs l k ++ [plN l x] := by unfold plNs; rw [take_snoc hx]; simp
theorem plNs_len (l : List Int) (k : Nat) : (plNs l k).length ≤ l.length := by unfold plNs; simp; omega
theorem plNs_full (l : List Int) : (plNs l l.length).length = l.length := by unfold plNs; simp
/-- the same, -1 for those below 0 -/
def plI (l : List Int) (x : Int) : Int := if x < 0 then -1 else plN l x
def plIs (l : List Int) (k : Nat) : List Int := (l.take k).map (plI l)
theorem plIs_zero (l : List Int) : plIs l 0 = [] := rfl
theorem plIs_snoc {l : List Int} {k : Nat} {x : Int} (hx : l[k]? = some x) : plIs l (k + 1) = plIs l k ++ [plI l x] := by unfold plIs; rw [take_snoc hx]; simp
theorem plIs_len (l : List Int) (k : Nat) : (plIs l k).length ≤ l.length := by unfold plIs; simp; omega
/-- the first k of them looked at -/
def plTo (l : List Int) (k : Nat) : List Int := plIs l k ++ (plNs l l.length).drop k
theorem plTo_zero (l : List Int) : plTo l 0 = plNs l l.length := rfl
theorem plTo_end (l : List Int) : plTo l l.length = plIs l l.length := by unfold plTo; rw [List.drop_of_length_le (by rw [plNs_full]; exact Nat.le_refl _), List.append_nil]
theorem plIs_at {l : List Int} {k : Nat} (hk : k ≤ l.length) : (plIs l k).length = k := by unfold plIs; simp; omega
theorem plTo_len {l : List Int} {k : Nat} (hk : k ≤ l.length) : (plTo l k).length = l.length := by unfold plTo; rw [List.length_append, plIs_at hk, List.length_drop, plNs_full]; omega
theorem plNs_get {l : List Int} {k : Nat} {x : Int} (hx : l[k]? = some x) : (plNs l l.length)[k]? = some (plN l x) := by unfold plNs; rw [List.take_length, List.getElem?_map, hx]; rfl
theorem plTo_get {l : List Int} {k : Nat} {x : Int} (hx : l[k]? = some x) : (plTo l k)[k]? = some (plN l x) := by
  have hk := (List.getElem?_eq_some_iff.1 hx).1
  unfold plTo
  rw [List.getElem?_append_right (by rw [plIs_at (by omega)]; exact Nat.le_refl _), plIs_at (by omega), Nat.sub_self, List.getElem?_drop]
  exact plNs_get hx
theorem plTo_split {l : List Int} {k : Nat} {x : Int} (hx : l[k]? = some x) : (plNs l l.length).drop k = plN l x :: (plNs l l.length).drop (k + 1) := by
  have hk := (List.getElem?_eq_some_iff.1 hx).1
  have hk' : k < (plNs l l.length).length := by rw [plNs_full]; exact hk
  rw [List.drop_eq_getElem_cons hk']
  congr 1
  have h1 := plNs_get hx
  rw [List.getElem?_eq_getElem hk'] at h1
  exact Option.some.inj h1
theorem plTo_neg {l : List Int} {k : Nat} {x : Int} (hx : l[k]? = some x) (h : x < 0) : (plTo l k).set k (-1) = plTo l (k + 1) := by
  have hk := (List.getElem?_eq_some_iff.1 hx).1
  unfold plTo
  rw [List.set_append_right _ _ (by rw [plIs_at (by omega)]; exact Nat.le_refl _), plIs_at (by omega), Nat.sub_self, plTo_split hx, plIs_snoc hx, List.append_assoc]
  simp [plI, h]
theorem plTo_nn {l : List Int} {k : Nat} {x : Int} (hx : l[k]? = some x) (h : ¬ x < 0) : plTo l k = plTo l (k + 1) := by
  unfold plTo
  rw [plTo_split hx, plIs_snoc hx, List.append_assoc]
  simp [plI, h]
theorem placesOf_ok (l : List Int) (hn : l.length ≤ 1048576) : FnEq Try.prog 93 [.d (.lst 1 (l.map datI))] [.row 3 1 ((plNs l l.length).map datI)] := by
  refine fn_ok G_ok Try.func93 rfl rfl ?_; simp only [Try.ntmps93, List.length_cons, List.length_nil, Nat.reduceAdd, Nat.reduceSub, enm]
  repeat' (first | ((with_reducible first | refine execL_step (fun K' hK' => ?_)); (first | with_reducible refine s_none rfl ?_ | refine s_some2 rfl ?_); simp only [go_sem]) | (with_reducible refine hK' _ ?_; clear hK' K') | (with_reducible refine hK _ ?_; clear hK K; try simp only [go_sem]) | with_reducible (first | refine stp ?_ | refine pw_seq_opsK kl93 G_ok (fun K hK => ?_) | refine pw_ops G_ok (fun K hK => ?_)) | refine inBlockA_other (by decide) ?_ | (with_reducible refine pK_mk (fun hc => ?_) (fun hc => ?_) <;> (try simp only [go_sem]) <;> (try simp at hc) <;> (try (exfalso; omega))) | ((first | refine pw_seq (pw_cond rfl (fun hc => ?_) (fun hc => ?_)) | refine pw_cond rfl (fun hc => ?_) (fun hc => ?_)) <;> (try simp at hc) <;> (try (exfalso; omega))) | with_reducible refine And.intro (by first | omega | (unfold inI; omega) | exact andI_inI _) ?_)
  refine pw_loop_over [2, 3, 5, 6, 8, 12, 13, 14, 15, 16, 17, 18, 19, 20, 21, 22, 23, 24, 25, 26, 27, 28, 29, 30, 31, 32] (fun k : Nat => [(12, .d (.int .i64 (k : Int))), (3, .row 0 (plNs l k).length)]) (fun k : Nat => [(0, .row 3 1 ((plNs l k).map datI))]) 1 (fun k : Nat => k ≤ l.length) (fun k : Nat => l.length - k) 0 (Nat.zero_le _) (fits_mk [] (by simp [renL_d, bdL_d, sg, over, wipe, wl, memN, ins, rm, lk, fitFr, fit1, ren, renL, bd, bdL, app, fitHp, hget, renB, bdB, plNs_zero] <;> omega)) ?_
  intro k hk
  have hL := plNs_len l k
  simp only [over, wipe, wl, memN, ins, rm, if_true, if_false, Nat.reduceEqDiff, Bool.false_eq_true, reduceCtorEq]
  by_cases hlt : k < l.length
  · have hx := List.getElem?_eq_getElem hlt
    generalize l[k] = x at hx
    repeat' (first | ((with_reducible first | refine execL_step (fun K' hK' => ?_)); (first | with_reducible refine s_none rfl ?_ | refine s_some2 rfl ?_); simp only [go_sem, List.getElem?_map, hx, Option.map_some, datI]) | (with_reducible refine hK' _ ?_; clear hK' K') | (with_reducible refine hK _ ?_; clear hK K; try simp only [go_sem, List.getElem?_map, hx, Option.map_some, datI]) | with_reducible (first | refine stp ?_ | refine pw_seq_opsK kl93 G_ok (fun K hK => ?_) | refine pw_ops G_ok (fun K hK => ?_)) | refine inBlockA_other (by decide) ?_ | (with_reducible refine pK_mk (fun hc => ?_) (fun hc => ?_) <;> (try simp only [go_sem, List.getElem?_map, hx, Option.map_some, datI]) <;> (try simp at hc) <;> (try (exfalso; omega))) | ((first | refine pw_seq (pw_cond rfl (fun hc => ?_) (fun hc => ?_)) | refine pw_cond rfl (fun hc => ?_) (fun hc => ?_)) <;> (try simp at hc) <;> (try (exfalso; omega))) | with_reducible refine And.intro (by first | omega | (unfold inI; omega) | exact andI_inI _) ?_)
    refine pw_loop_over [2, 6, 8, 18, 19, 20, 21, 22, 23, 24, 25, 26, 27] (fun m : Nat => [(18, .d (.int .i64 (m : Int))), (6, .d (.int .i64 (1 + (grN (l.take m) x : Int))))]) (fun _ => [(0, .row 3 1 ((plNs l k).map datI))]) 1 (fun m => m ≤ l.length) (fun m => l.length - m) 0 (by omega) (fits_mk [] (by simp [renL_d, bdL_d, sg, over, wipe, wl, memN, ins, rm, lk, fitFr, fit1, ren, renL, bd, bdL, app, fitHp, hget, renB, bdB, grN, cn] <;> omega)) ?_
    intro m hm
    have hg := grN_le l x m
    simp only [over, wipe, wl, memN, ins, rm, if_true, if_false, Nat.reduceEqDiff, Bool.false_eq_true, reduceCtorEq]
    by_cases hlm : m < l.length
    · have hy := List.getElem?_eq_getElem hlm
      generalize l[m] = y at hy
      repeat' (first | ((with_reducible first | refine execL_step (fun K' hK' => ?_)); (first | with_reducible refine s_none rfl ?_ | refine s_some2 rfl ?_); simp only [go_sem, List.getElem?_map, hy, Option.map_some, datI]) | (with_reducible refine hK' _ ?_; clear hK' K') | (with_reducible refine hK _ ?_; clear hK K; try simp only [go_sem, List.getElem?_map, hy, Option.map_some, datI]) | with_reducible (first | refine stp ?_ | refine pw_seq_opsK kl93 G_ok (fun K hK => ?_) | refine pw_ops G_ok (fun K hK => ?_)) | refine inBlockA_other (by decide) ?_ | (with_reducible refine pK_mk (fun hc => ?_) (fun hc => ?_) <;> (try simp only [go_sem, List.getElem?_map, hy, Option.map_some, datI]) <;> (try simp at hc) <;> (try (exfalso; omega))) | ((first | refine pw_seq (pw_cond rfl (fun hc => ?_) (fun hc => ?_)) | refine pw_cond rfl (fun hc => ?_) (fun hc => ?_)) <;> (try simp at hc) <;> (try (exfalso; omega))) | with_reducible refine And.intro (by first | omega | (unfold inI; omega) | exact andI_inI _) ?_)
      · exact ⟨m + 1, by omega, by omega, (fits_mk [] (by simp [renL_d, bdL_d, sg, over, wipe, wl, memN, ins, rm, lk, fitFr, fit1, ren, renL, bd, bdL, app, fitHp, hget, renB, bdB, grN_yes hy hc, Int.add_assoc] <;> omega))⟩
      · exact ⟨m + 1, by omega, by omega, (fits_mk [] (by simp [renL_d, bdL_d, sg, over, wipe, wl, memN, ins, rm, lk, fitFr, fit1, ren, renL, bd, bdL, app, fitHp, hget, renB, bdB, grN_no hy (Int.not_lt.2 hc)] <;> omega))⟩
    · repeat' (first | ((with_reducible first | refine execL_step (fun K' hK' => ?_)); (first | with_reducible refine s_none rfl ?_ | refine s_some2 rfl ?_); simp only [go_sem, List.take_of_length_le (show l.length ≤ m by omega)]) | (with_reducible refine hK' _ ?_; clear hK' K') | (with_reducible refine hK _ ?_; clear hK K; try simp only [go_sem, List.take_of_length_le (show l.length ≤ m by omega)]) | with_reducible (first | refine stp ?_ | refine pw_seq_opsK kl93 G_ok (fun K hK => ?_) | refine pw_ops G_ok (fun K hK => ?_)) | refine inBlockA_other (by decide) ?_ | (with_reducible refine pK_mk (fun hc => ?_) (fun hc => ?_) <;> (try simp only [go_sem, List.take_of_length_le (show l.length ≤ m by omega)]) <;> (try simp at hc) <;> (try (exfalso; omega))) | ((first | refine pw_seq (pw_cond rfl (fun hc => ?_) (fun hc => ?_)) | refine pw_cond rfl (fun hc => ?_) (fun hc => ?_)) <;> (try simp at hc) <;> (try (exfalso; omega))) | with_reducible refine And.intro (by first | omega | (unfold inI; omega) | exact andI_inI _) ?_)
      exact ⟨k + 1, by omega, by omega, (fits_mk [] (by simp [renL_d, bdL_d, sg, over, wipe, wl, memN, ins, rm, lk, fitFr, fit1, ren, renL, bd, bdL, app, fitHp, hget, renB, bdB, plNs_snoc hx, datI, plN] <;> omega))⟩
  · obtain rfl : k = l.length := by omega
    repeat' (first | ((with_reducible first | refine execL_step (fun K' hK' => ?_)); (first | with_reducible refine s_none rfl ?_ | refine s_some2 rfl ?_); simp only [go_sem]) | (with_reducible refine hK' _ ?_; clear hK' K') | (with_reducible refine hK _ ?_; clear hK K; try simp only [go_sem]) | with_reducible (first | refine stp ?_ | refine pw_seq_opsK kl93 G_ok (fun K hK => ?_) | refine pw_ops G_ok (fun K hK => ?_)) | refine inBlockA_other (by decide) ?_ | (with_reducible refine pK_mk (fun hc => ?_) (fun hc => ?_) <;> (try simp only [go_sem]) <;> (try simp at hc) <;> (try (exfalso; omega))) | ((first | refine pw_seq (pw_cond rfl (fun hc => ?_) (fun hc => ?_)) | refine pw_cond rfl (fun hc => ?_) (fun hc => ?_)) <;> (try simp at hc) <;> (try (exfalso; omega))) | with_reducible refine And.intro (by first | omega | (unfold inI; omega) | exact andI_inI _) ?_)
    refine retQ_ret rfl (by simp only [retL, ret1, hget, lk, List.length_map, List.length_nil, List.length_append, List.length_take, if_true, if_false, Nat.reduceEqDiff, Nat.reduceBEq, Bool.false_eq_true, Option.some.injEq]; rfl) (by simp [rowsOf, lk]) ?_; rfl
noncomputable abbrev ansPlacesIn (l : List ResultD) (s : Int) : Option (List Int) := optP (SegOk l s) (plIs (l.map (sgAt s)) l.length)
theorem spec_PlacesIn_ok (xs0 : List ResultD) (a1 : Int) (hl0 : xs0.length ≤ 1048576) (hk0 : ∀ r ∈ xs0, r.scores.length ≤ 1048576) : FnEq Try.prog 32 [.d (.lst 2 (xs0.map ResultD.dat)), .d (.int .i64 a1)] [.row 3 1 (((ansPlacesIn xs0 a1).getD []).map datI), .d (.bool (ansPlacesIn xs0 a1).isSome)] := by
  refine fn_ok G_ok Try.func32 rfl rfl ?_; simp only [Try.ntmps32, List.length_cons, List.length_nil, Nat.reduceAdd, Nat.reduceSub, enm]
  by_cases hv : SegOk xs0 a1
  · have hb := bP_true hv
    have h40 := hv.1.1
    have hs0 := hv.2.2.1
    have hsl : (xs0.map (sgAt a1)).length = xs0.length := by simp
    repeat' (first | ((with_reducible first | refine execL_step (fun K' hK' => ?_) | refine quietL_step (fun K' hK' => ?_)); (first | with_reducible refine s_none rfl ?_ | refine s_some2 rfl ?_); simp only [go_sem, hb]) | (with_reducible refine hK' _ ?_; clear hK' K') | (with_reducible refine hK _ ?_; clear hK K; try simp only [go_sem, hb]) | with_reducible (first | refine stp ?_ | refine pw_seq_opsK kl32 G_ok (fun K hK => ?_) | refine pw_ops G_ok (fun K hK => ?_)) | ((with_reducible first | apply CallK.eq | apply CallQ.eqs); (focus (with_reducible first | exact rkSegment_ok xs0 a1 hl0 hk0)); (focus (first | exact rfl | (simp [RV.flat, D.sc, datI]; done))); try simp only [go_sem, hb]) | refine inBlockA_other (by decide) ?_ | (with_reducible refine pw_seq_drawK kl32 G_ok mixed (by kernel_rfl) (fun K hK => ?_)) | (with_reducible refine pw_draw G_ok mixed (by kernel_rfl) ?_) | (with_reducible refine pK_mk (fun hc => ?_) (fun hc => ?_) <;> (try simp only [go_sem, hb]) <;> (try simp at hc) <;> (try (exfalso; omega))) | ((first | refine pw_seq (pw_cond rfl (fun hc => ?_) (fun hc => ?_)) | refine pw_cond rfl (fun hc => ?_) (fun hc => ?_)) <;> (try simp at hc) <;> (try (exfalso; omega))) | with_reducible refine And.intro (by first | omega | (unfold inI; omega) | exact andI_inI _) ?_)
    refine pw_loop_over [4, 5, 6, 8, 9, 11, 18, 19, 20, 21, 22, 23, 24, 25, 26, 27, 28, 29, 30, 31, 32, 33, 34, 35, 36, 37, 38, 39, 40, 41, 42, 43, 44, 45, 46, 47, 48, 49, 50, 51, 52] (fun k : Nat => [(18, .d (.int .i64 (k : Int))), (6, .row 0 (plIs (xs0.map (sgAt a1)) k).length)]) (fun k : Nat => [(0, .row 3 1 ((plIs (xs0.map (sgAt a1)) k).map datI))]) 1 (fun k : Nat => k ≤ xs0.length) (fun k : Nat => xs0.length - k) 0 (Nat.zero_le _) (fits_mk [] (by simp [renL_d, bdL_d, sg, over, wipe, wl, memN, ins, rm, lk, fitFr, fit1, ren, renL, bd, bdL, app, fitHp, hget, renB, bdB, plIs_zero] <;> omega)) ?_
    intro k hk
    have hL := plIs_len (xs0.map (sgAt a1)) k
    simp only [over, wipe, wl, memN, ins, rm, if_true, if_false, Nat.reduceEqDiff, Bool.false_eq_true, reduceCtorEq]
    by_cases hlt : k < xs0.length
    · have hx := List.getElem?_eq_getElem hlt
      generalize xs0[k] = x at hx
      obtain ⟨hxl, hxs⟩ := hv.score hx
      have hxm : (xs0.map (sgAt a1))[k]? = some (sgAt a1 x) := by rw [List.getElem?_map, hx]; rfl
      repeat' (first | ((with_reducible first | refine execL_step (fun K' hK' => ?_) | refine quietL_step (fun K' hK' => ?_)); (first | with_reducible refine s_none rfl ?_ | refine s_some2 rfl ?_); simp only [go_sem, List.getElem?_map, hx, Option.map_some, ResultD.dat]) | (with_reducible refine hK' _ ?_; clear hK' K') | (with_reducible refine hK _ ?_; clear hK K; try simp only [go_sem, List.getElem?_map, hx, Option.map_some, ResultD.dat]) | with_reducible (first | refine stp ?_ | refine pw_seq_opsK kl32 G_ok (fun K hK => ?_) | refine pw_ops G_ok (fun K hK => ?_)) | refine inBlockA_other (by decide) ?_ | (with_reducible refine pw_seq_drawK kl32 G_ok mixed (by kernel_rfl) (fun K hK => ?_)) | (with_reducible refine pw_draw G_ok mixed (by kernel_rfl) ?_) | (with_reducible refine pK_mk (fun hc => ?_) (fun hc => ?_) <;> (try simp only [go_sem, List.getElem?_map, hx, Option.map_some, ResultD.dat]) <;> (try simp at hc) <;> (try (exfalso; omega))) | ((first | refine pw_seq (pw_cond rfl (fun hc => ?_) (fun hc => ?_)) | refine pw_cond rfl (fun hc => ?_) (fun hc => ?_)) <;> (try simp at hc) <;> (try (exfalso; omega))) | with_reducible refine And.intro (by first | omega | (unfold inI; omega) | exact andI_inI _) ?_)
      refine pw_loop_over [4, 5, 9, 11, 24, 25, 26, 27, 28, 29, 30, 31, 32, 33, 34, 35, 36, 37, 38, 39, 40, 41] (fun m : Nat => [(24, .d (.int .i64 (m : Int))), (9, .d (.int .i64 (1 + (grN ((xs0.map (sgAt a1)).take m) (sgAt a1 x) : Int))))]) (fun _ => [(0, .row 3 1 ((plIs (xs0.map (sgAt a1)) k).map datI)), (1, .box 29 [.d (.int .i64 x.skater), .d (.lst 1 (x.scores.map datI))])]) 2 (fun m => m ≤ xs0.length) (fun m => xs0.length - m) 0 (by omega) (fits_mk [] (by simp [renL_d, bdL_d, sg, over, wipe, wl, memN, ins, rm, lk, fitFr, fit1, ren, renL, bd, bdL, app, fitHp, hget, renB, bdB, grN, cn] <;> omega)) ?_
      intro m hm
      have hg := grN_le (xs0.map (sgAt a1)) (sgAt a1 x) m
      simp only [over, wipe, wl, memN, ins, rm, if_true, if_false, Nat.reduceEqDiff, Bool.false_eq_true, reduceCtorEq]
      by_cases hlm : m < xs0.length
      · have hy := List.getElem?_eq_getElem hlm
        generalize xs0[m] = y at hy
        obtain ⟨hyl, hys⟩ := hv.score hy
        have hym : (xs0.map (sgAt a1))[m]? = some (sgAt a1 y) := by rw [List.getElem?_map, hy]; rfl
        repeat' (first | ((with_reducible first | refine execL_step (fun K' hK' => ?_) | refine quietL_step (fun K' hK' => ?_)); (first | with_reducible refine s_none rfl ?_ | refine s_some2 rfl ?_); simp only [go_sem, List.getElem?_map, hy, hxs, hys, hxl, hyl, Option.map_some, ResultD.dat, datI]) | (with_reducible refine hK' _ ?_; clear hK' K') | (with_reducible refine hK _ ?_; clear hK K; try simp only [go_sem, List.getElem?_map, hy, hxs, hys, hxl, hyl, Option.map_some, ResultD.dat, datI]) | with_reducible (first | refine stp ?_ | refine pw_seq_opsK kl32 G_ok (fun K hK => ?_) | refine pw_ops G_ok (fun K hK => ?_)) | refine inBlockA_other (by decide) ?_ | (with_reducible refine pw_seq_drawK kl32 G_ok mixed (by kernel_rfl) (fun K hK => ?_)) | (with_reducible refine pw_draw G_ok mixed (by kernel_rfl) ?_) | (with_reducible refine pK_mk (fun hc => ?_) (fun hc => ?_) <;> (try simp only [go_sem, List.getElem?_map, hy, hxs, hys, hxl, hyl, Option.map_some, ResultD.dat, datI]) <;> (try simp at hc) <;> (try (exfalso; omega))) | ((first | refine pw_seq (pw_cond rfl (fun hc => ?_) (fun hc => ?_)) | refine pw_cond rfl (fun hc => ?_) (fun hc => ?_)) <;> (try simp at hc) <;> (try (exfalso; omega))) | with_reducible refine And.intro (by first | omega | (unfold inI; omega) | exact andI_inI _) ?_)
        · have e1 := grN_yes hym hc
          exact ⟨m + 1, by omega, by omega, (fits_mk [] (by simp [renL_d, bdL_d, sg, over, wipe, wl, memN, ins, rm, lk, fitFr, fit1, ren, renL, bd, bdL, app, fitHp, hget, renB, bdB, e1, Int.add_assoc, -List.map_take] <;> omega))⟩
        · have e1 := grN_no hym (Int.not_lt.2 hc)
          exact ⟨m + 1, by omega, by omega, (fits_mk [] (by simp [renL_d, bdL_d, sg, over, wipe, wl, memN, ins, rm, lk, fitFr, fit1, ren, renL, bd, bdL, app, fitHp, hget, renB, bdB, e1, -List.map_take] <;> omega))⟩
      · have e2 : (xs0.map (sgAt a1)).take m = xs0.map (sgAt a1) := List.take_of_length_le (by omega)
        repeat' (first | ((with_reducible first | refine execL_step (fun K' hK' => ?_) | refine quietL_step (fun K' hK' => ?_)); (first | with_reducible refine s_none rfl ?_ | refine s_some2 rfl ?_); simp only [go_sem, e2, List.getElem?_map, hxs, hxl, Option.map_some, datI]) | (with_reducible refine hK' _ ?_; clear hK' K') | (with_reducible refine hK _ ?_; clear hK K; try simp only [go_sem, e2, List.getElem?_map, hxs, hxl, Option.map_some, datI]) | with_reducible (first | refine stp ?_ | refine pw_seq_opsK kl32 G_ok (fun K hK => ?_) | refine pw_ops G_ok (fun K hK => ?_)) | refine inBlockA_other (by decide) ?_ | (with_reducible refine pw_seq_drawK kl32 G_ok mixed (by kernel_rfl) (fun K hK => ?_)) | (with_reducible refine pw_draw G_ok mixed (by kernel_rfl) ?_) | (with_reducible refine pK_mk (fun hc => ?_) (fun hc => ?_) <;> (try simp only [go_sem, e2, List.getElem?_map, hxs, hxl, Option.map_some, datI]) <;> (try simp at hc) <;> (try (exfalso; omega))) | ((first | refine pw_seq (pw_cond rfl (fun hc => ?_) (fun hc => ?_)) | refine pw_cond rfl (fun hc => ?_) (fun hc => ?_)) <;> (try simp at hc) <;> (try (exfalso; omega))) | with_reducible refine And.intro (by first | omega | (unfold inI; omega) | exact andI_inI _) ?_)
        · exact ⟨k + 1, by omega, by omega, (fits_mk [] (by simp [renL_d, bdL_d, sg, over, wipe, wl, memN, ins, rm, lk, fitFr, fit1, ren, renL, bd, bdL, app, fitHp, hget, renB, bdB, plIs_snoc hxm, datI, plI, if_pos hc] <;> omega))⟩
        · exact ⟨k + 1, by omega, by omega, (fits_mk [] (by simp [renL_d, bdL_d, sg, over, wipe, wl, memN, ins, rm, lk, fitFr, fit1, ren, renL, bd, bdL, app, fitHp, hget, renB, bdB, plIs_snoc hxm, datI, plI, if_neg (Int.not_lt.2 hc), plN] <;> omega))⟩
    · obtain rfl : k = xs0.length := by omega
      repeat' (first | ((with_reducible first | refine execL_step (fun K' hK' => ?_) | refine quietL_step (fun K' hK' => ?_)); (first | with_reducible refine s_none rfl ?_ | refine s_some2 rfl ?_); simp only [go_sem]) | (with_reducible refine hK' _ ?_; clear hK' K') | (with_reducible refine hK _ ?_; clear hK K; try simp only [go_sem]) | with_reducible (first | refine stp ?_ | refine pw_seq_opsK kl32 G_ok (fun K hK => ?_) | refine pw_ops G_ok (fun K hK => ?_)) | refine inBlockA_other (by decide) ?_ | (with_reducible refine pw_seq_drawK kl32 G_ok mixed (by kernel_rfl) (fun K hK => ?_)) | (with_reducible refine pw_draw G_ok mixed (by kernel_rfl) ?_) | (with_reducible refine pK_mk (fun hc => ?_) (fun hc => ?_) <;> (try simp only [go_sem]) <;> (try simp at hc) <;> (try (exfalso; omega))) | ((first | refine pw_seq (pw_cond rfl (fun hc => ?_) (fun hc => ?_)) | refine pw_cond rfl (fun hc => ?_) (fun hc => ?_)) <;> (try simp at hc) <;> (try (exfalso; omega))) | with_reducible refine And.intro (by first | omega | (unfold inI; omega) | exact andI_inI _) ?_)
      refine retQ_ret rfl (by simp only [retL, ret1, hget, lk, List.length_map, List.length_nil, List.length_append, List.length_take, if_true, if_false, Nat.reduceEqDiff, Nat.reduceBEq, Bool.false_eq_true, Option.some.injEq]; rfl) (by simp [rowsOf, lk]) ?_; simp only [ansPlacesIn]; rw [optP_pos hv]; rfl
  · have hb := bP_false hv
    repeat' (first | ((with_reducible first | refine execL_step (fun K' hK' => ?_) | refine quietL_step (fun K' hK' => ?_)); (first | with_reducible refine s_none rfl ?_ | refine s_some2 rfl ?_); simp only [go_sem, hb]) | (with_reducible refine hK' _ ?_; clear hK' K') | (with_reducible refine hK _ ?_; clear hK K; try simp only [go_sem, hb]) | with_reducible (first | refine stp ?_ | refine pw_seq_opsK kl32 G_ok (fun K hK => ?_) | refine pw_ops G_ok (fun K hK => ?_)) | ((with_reducible first | apply CallK.eq | apply CallQ.eqs); (focus (with_reducible first | exact rkSegment_ok xs0 a1 hl0 hk0)); (focus (first | exact rfl | (simp [RV.flat, D.sc, datI]; done))); try simp only [go_sem, hb]) | refine inBlockA_other (by decide) ?_ | (with_reducible refine pw_seq_drawK kl32 G_ok mixed (by kernel_rfl) (fun K hK => ?_)) | (with_reducible refine pw_draw G_ok mixed (by kernel_rfl) ?_) | (with_reducible refine pK_mk (fun hc => ?_) (fun hc => ?_) <;> (try simp only [go_sem, hb]) <;> (try simp at hc) <;> (try (exfalso; omega))) | ((first | refine pw_seq (pw_cond rfl (fun hc => ?_) (fun hc => ?_)) | refine pw_cond rfl (fun hc => ?_) (fun hc => ?_)) <;> (try simp at hc) <;> (try (exfalso; omega))) | with_reducible refine And.intro (by first | omega | (unfold inI; omega) | exact andI_inI _) ?_)
    refine retQ_ret rfl (by simp only [retL, ret1, hget, lk, List.length_map, List.length_nil, List.length_append, List.length_take, if_true, if_false, Nat.reduceEqDiff, Nat.reduceBEq, Bool.false_eq_true, Option.some.injEq]; rfl) (by simp [rowsOf, lk]) ?_; simp only [ansPlacesIn]; rw [optP_neg hv]; rfl
theorem impl_PlacesIn_ok (xs0 : List ResultD) (a1 : Int) (hl0 : xs0.length ≤ 1048576) (hk0 : ∀ r ∈ xs0, r.scores.length ≤ 1048576) : FnEq Try.prog 31 [.d (.lst 2 (xs0.map ResultD.dat)), .d (.int .i64 a1)] [.row 3 1 (((ansPlacesIn xs0 a1).getD []).map datI), .d (.bool (ansPlacesIn xs0 a1).isSome)] := by
  refine fn_ok G_ok Try.func31 rfl rfl ?_; simp only [Try.ntmps31, List.length_cons, List.length_nil, Nat.reduceAdd, Nat.reduceSub, enm]
  by_cases hv : SegOk xs0 a1
  · have hb := bP_true hv
    have h40 := hv.1.1
    have hs0 := hv.2.2.1
    repeat' (first | ((with_reducible first | refine execL_step (fun K' hK' => ?_)); (first | with_reducible refine s_none rfl ?_ | refine s_some2 rfl ?_); simp only [go_sem, hb]) | (with_reducible refine hK' _ ?_; clear hK' K') | (with_reducible refine hK _ ?_; clear hK K; try simp only [go_sem, hb]) | with_reducible (first | refine stp ?_ | refine pw_seq_opsK kl31 G_ok (fun K hK => ?_) | refine pw_ops G_ok (fun K hK => ?_)) | ((with_reducible first | apply CallK.eq); (focus (with_reducible first | exact hasSegment_ok xs0 a1 hl0 hk0)); (focus (first | exact rfl | (simp [RV.flat, D.sc, datI]; done))); try simp only [go_sem, hb]) | refine inBlockA_other (by decide) ?_ | (with_reducible refine pK_mk (fun hc => ?_) (fun hc => ?_) <;> (try simp only [go_sem, hb]) <;> (try simp at hc) <;> (try (exfalso; omega))) | ((first | refine pw_seq (pw_cond rfl (fun hc => ?_) (fun hc => ?_)) | refine pw_cond rfl (fun hc => ?_) (fun hc => ?_)) <;> (try simp at hc) <;> (try (exfalso; omega))) | with_reducible refine And.intro (by first | omega | (unfold inI; omega) | exact andI_inI _) ?_)
    refine pw_loop_over [4, 5, 6, 8, 19, 20, 21, 22, 23, 24, 25, 26, 27, 28, 29, 30, 31] (fun k : Nat => [(19, .d (.int .i64 (k : Int))), (6, .row 0 k)]) (fun k : Nat => [(0, .row 3 1 (((xs0.map (sgAt a1)).take k).map datI))]) 1 (fun k : Nat => k ≤ xs0.length) (fun k : Nat => xs0.length - k) 0 (Nat.zero_le _) (fits_mk [] (by simp [renL_d, bdL_d, sg, over, wipe, wl, memN, ins, rm, lk, fitFr, fit1, ren, renL, bd, bdL, app, fitHp, hget, renB, bdB] <;> omega)) ?_
    intro k hk
    have hL : ((xs0.map (sgAt a1)).take k).length = k := by simp; omega
    simp only [over, wipe, wl, memN, ins, rm, if_true, if_false, Nat.reduceEqDiff, Bool.false_eq_true, reduceCtorEq]
    by_cases hlt : k < xs0.length
    · have hx := List.getElem?_eq_getElem hlt
      generalize xs0[k] = x at hx
      obtain ⟨hxl, hxs⟩ := hv.score hx
      have hxm : (xs0.map (sgAt a1))[k]? = some (sgAt a1 x) := by rw [List.getElem?_map, hx]; rfl
      have hsn := take_snoc hxm
      repeat' (first | ((with_reducible first | refine execL_step (fun K' hK' => ?_)); (first | with_reducible refine s_none rfl ?_ | refine s_some2 rfl ?_); simp only [go_sem, List.getElem?_map, hx, hxs, hxl, Option.map_some, ResultD.dat, datI]) | (with_reducible refine hK' _ ?_; clear hK' K') | (with_reducible refine hK _ ?_; clear hK K; try simp only [go_sem, List.getElem?_map, hx, hxs, hxl, Option.map_some, ResultD.dat, datI]) | with_reducible (first | refine stp ?_ | refine pw_seq_opsK kl31 G_ok (fun K hK => ?_) | refine pw_ops G_ok (fun K hK => ?_)) | refine inBlockA_other (by decide) ?_ | (with_reducible refine pK_mk (fun hc => ?_) (fun hc => ?_) <;> (try simp only [go_sem, List.getElem?_map, hx, hxs, hxl, Option.map_some, ResultD.dat, datI]) <;> (try simp at hc) <;> (try (exfalso; omega))) | ((first | refine pw_seq (pw_cond rfl (fun hc => ?_) (fun hc => ?_)) | refine pw_cond rfl (fun hc => ?_) (fun hc => ?_)) <;> (try simp at hc) <;> (try (exfalso; omega))) | with_reducible refine And.intro (by first | omega | (unfold inI; omega) | exact andI_inI _) ?_)
      exact ⟨k + 1, by omega, by omega, (fits_mk [] (by simp [renL_d, bdL_d, sg, over, wipe, wl, memN, ins, rm, lk, fitFr, fit1, ren, renL, bd, bdL, app, fitHp, hget, renB, bdB, hsn, datI, -List.map_take] <;> omega))⟩
    · obtain rfl : k = xs0.length := by omega
      have hsl : (xs0.map (sgAt a1)).length = xs0.length := by simp
      have hst : (xs0.map (sgAt a1)).take xs0.length = xs0.map (sgAt a1) := List.take_of_length_le (by omega)
      rw [hst]
      generalize hst3 : xs0.map (sgAt a1) = l at hsl hst
      have hpl : (plNs l xs0.length).length = xs0.length := by rw [← hsl, plNs_full]
      have hz : plTo l 0 = plNs l xs0.length := by rw [← hsl]; rfl
      have hplt : plTo l xs0.length = plIs l l.length := by rw [← hsl]; exact plTo_end l
      repeat' (first | ((with_reducible first | refine execL_step (fun K' hK' => ?_)); (first | with_reducible refine s_none rfl ?_ | refine s_some2 rfl ?_); simp only [go_sem, hsl, hpl]) | (with_reducible refine hK' _ ?_; clear hK' K') | (with_reducible refine hK _ ?_; clear hK K; try simp only [go_sem, hsl, hpl]) | with_reducible (first | refine stp ?_ | refine pw_seq_opsK kl31 G_ok (fun K hK => ?_) | refine pw_ops G_ok (fun K hK => ?_)) | ((with_reducible first | apply CallK.eq); (focus (with_reducible first | exact placesOf_ok l (by omega))); (focus (first | exact rfl | (simp [RV.flat, D.sc, datI]; done))); try simp only [go_sem, hsl, hpl]) | refine inBlockA_other (by decide) ?_ | (with_reducible refine pK_mk (fun hc => ?_) (fun hc => ?_) <;> (try simp only [go_sem, hsl, hpl]) <;> (try simp at hc) <;> (try (exfalso; omega))) | ((first | refine pw_seq (pw_cond rfl (fun hc => ?_) (fun hc => ?_)) | refine pw_cond rfl (fun hc => ?_) (fun hc => ?_)) <;> (try simp at hc) <;> (try (exfalso; omega))) | with_reducible refine And.intro (by first | omega | (unfold inI; omega) | exact andI_inI _) ?_)
      refine pw_loop_over [4, 5, 10, 11, 36, 37, 38, 39, 40, 41, 42, 43, 44, 45, 46] (fun k : Nat => [(36, .d (.int .i64 (k : Int))), (34, .row 0 xs0.length), (9, .row 1 xs0.length)]) (fun k : Nat => [(0, .row 3 1 (l.map datI)), (1, .row 3 1 ((plTo l k).map datI))]) 2 (fun k : Nat => k ≤ xs0.length) (fun k : Nat => xs0.length - k) 0 (Nat.zero_le _) (fits_mk [] (by simp [renL_d, bdL_d, sg, over, wipe, wl, memN, ins, rm, lk, fitFr, fit1, ren, renL, bd, bdL, app, fitHp, hget, renB, bdB, hz, hpl] <;> omega)) ?_
      intro k hk
      have hL : (plTo l k).length = xs0.length := by rw [plTo_len (by omega), hsl]
      simp only [over, wipe, wl, memN, ins, rm, if_true, if_false, Nat.reduceEqDiff, Bool.false_eq_true, reduceCtorEq]
      by_cases hlt : k < xs0.length
      · have hx := List.getElem?_eq_getElem (show k < l.length by omega)
        generalize l[k] = x at hx
        have hx2 := plTo_get hx
        have hst2 : ((plTo l k).map datI).set k [.int .i64 (-1)] = ((plTo l k).set k (-1)).map datI := by rw [List.map_set]; rfl
        repeat' (first | ((with_reducible first | refine execL_step (fun K' hK' => ?_)); (first | with_reducible refine s_none rfl ?_ | refine s_some2 rfl ?_); simp only [go_sem, hL, hlt, List.getElem?_map, hx, hx2, Option.map_some, datI]) | (with_reducible refine hK' _ ?_; clear hK' K') | (with_reducible refine hK _ ?_; clear hK K; try simp only [go_sem, hL, hlt, List.getElem?_map, hx, hx2, Option.map_some, datI]) | with_reducible (first | refine stp ?_ | refine pw_seq_opsK kl31 G_ok (fun K hK => ?_) | refine pw_ops G_ok (fun K hK => ?_)) | refine inBlockA_other (by decide) ?_ | (with_reducible refine pK_mk (fun hc => ?_) (fun hc => ?_) <;> (try simp only [go_sem, hL, hlt, List.getElem?_map, hx, hx2, Option.map_some, datI]) <;> (try simp at hc) <;> (try (exfalso; omega))) | ((first | refine pw_seq (pw_cond rfl (fun hc => ?_) (fun hc => ?_)) | refine pw_cond rfl (fun hc => ?_) (fun hc => ?_)) <;> (try simp at hc) <;> (try (exfalso; omega))) | with_reducible refine And.intro (by first | omega | (unfold inI; omega) | exact andI_inI _) ?_)
        · have e1 := plTo_neg hx hc
          exact ⟨k + 1, by omega, by omega, (fits_mk [] (by simp [renL_d, bdL_d, sg, over, wipe, wl, memN, ins, rm, lk, fitFr, fit1, ren, renL, bd, bdL, app, fitHp, hget, renB, bdB, hst2, e1] <;> omega))⟩
        · have e1 := plTo_nn hx (Int.not_lt.2 hc)
          exact ⟨k + 1, by omega, by omega, (fits_mk [] (by simp [renL_d, bdL_d, sg, over, wipe, wl, memN, ins, rm, lk, fitFr, fit1, ren, renL, bd, bdL, app, fitHp, hget, renB, bdB, ← e1] <;> omega))⟩
      · obtain rfl : k = xs0.length := by omega
        repeat' (first | ((with_reducible first | refine execL_step (fun K' hK' => ?_)); (first | with_reducible refine s_none rfl ?_ | refine s_some2 rfl ?_); simp only [go_sem, hplt]) | (with_reducible refine hK' _ ?_; clear hK' K') | (with_reducible refine hK _ ?_; clear hK K; try simp only [go_sem, hplt]) | with_reducible (first | refine stp ?_ | refine pw_seq_opsK kl31 G_ok (fun K hK => ?_) | refine pw_ops G_ok (fun K hK => ?_)) | refine inBlockA_other (by decide) ?_ | (with_reducible refine pK_mk (fun hc => ?_) (fun hc => ?_) <;> (try simp only [go_sem, hplt]) <;> (try simp at hc) <;> (try (exfalso; omega))) | ((first | refine pw_seq (pw_cond rfl (fun hc => ?_) (fun hc => ?_)) | refine pw_cond rfl (fun hc => ?_) (fun hc => ?_)) <;> (try simp at hc) <;> (try (exfalso; omega))) | with_reducible refine And.intro (by first | omega | (unfold inI; omega) | exact andI_inI _) ?_)
        have hpz : (plIs l l.length).length = xs0.length := by rw [← hplt]; exact hL
        refine retQ_ret rfl (by simp only [hpz, retL, ret1, hget, lk, List.length_map, List.length_nil, List.length_append, List.length_take, if_true, if_false, Nat.reduceEqDiff, Nat.reduceBEq, Bool.false_eq_true, Option.some.injEq]; rfl) (by simp [rowsOf, lk]) ?_; simp only [ansPlacesIn]; rw [optP_pos hv, hst3, ← hsl]; rfl
  · have hb := bP_false hv
    repeat' (first | ((with_reducible first | refine execL_step (fun K' hK' => ?_)); (first | with_reducible refine s_none rfl ?_ | refine s_some2 rfl ?_); simp only [go_sem, hb]) | (with_reducible refine hK' _ ?_; clear hK' K') | (with_reducible refine hK _ ?_; clear hK K; try simp only [go_sem, hb]) | with_reducible (first | refine stp ?_ | refine pw_seq_opsK kl31 G_ok (fun K hK => ?_) | refine pw_ops G_ok (fun K hK => ?_)) | ((with_reducible first | apply CallK.eq); (focus (with_reducible first | exact hasSegment_ok xs0 a1 hl0 hk0)); (focus (first | exact rfl | (simp [RV.flat, D.sc, datI]; done))); try simp only [go_sem, hb]) | refine inBlockA_other (by decide) ?_ | (with_reducible refine pK_mk (fun hc => ?_) (fun hc => ?_) <;> (try simp only [go_sem, hb]) <;> (try simp at hc) <;> (try (exfalso; omega))) | ((first | refine pw_seq (pw_cond rfl (fun hc => ?_) (fun hc => ?_)) | refine pw_cond rfl (fun hc => ?_) (fun hc => ?_)) <;> (try simp at hc) <;> (try (exfalso; omega))) | with_reducible refine And.intro (by first | omega | (unfold inI; omega) | exact andI_inI _) ?_)
    refine retQ_ret rfl (by simp only [retL, ret1, hget, lk, List.length_map, List.length_nil, List.length_append, List.length_take, if_true, if_false, Nat.reduceEqDiff, Nat.reduceBEq, Bool.false_eq_true, Option.some.injEq]; rfl) (by simp [rowsOf, lk]) ?_; simp only [ansPlacesIn]; rw [optP_neg hv]; rfl
end Go.Proofs.Ythkkpiodligmiaa
