/-
  Notes: what the laws' helpers give (szNoteS, toNoteS, eqNoteS, markNoteS), in the abstract machine; notes opened as arguments.
-/
import Derived.Test.YtjgpbbdapjjmiaaDoorNote
import Derived.Test.YtjgpbbdapjjmiaaDoorIs0
set_option linter.unusedSimpArgs false
set_option linter.unusedVariables false
set_option maxHeartbeats 2000000
set_option maxRecDepth 100000
namespace Go.Proofs.YtjgpbbdapjjmiaaDoor
open Go.ChangeShapes Go.WideShapes Go.ChangeAt Go.RowKit Go.Deep

theorem NoteD.extM {x y : NoteD} (h0 : x.skater = y.skater) (h1 : x.before = y.before) (h2 : x.inn = y.inn) : x = y := by cases x; cases y; cases h0; cases h1; cases h2; rfl
theorem flatE_Note (xs : List NoteD) : flatE (xs.map NoteD.dat) := by
  intro e he d hd
  obtain ⟨x, _, rfl⟩ := List.mem_map.1 he
  simp only [NoteD.dat, List.mem_cons, List.not_mem_nil, or_false] at hd
  rcases hd with rfl | rfl | rfl <;> simp [D.sc]
theorem szNoteS_ok (xs : List NoteD) (hn : xs.length ≤ 9223372036854775807) (left : Int) (h0 : 0 ≤ left) (h1 : left ≤ 1048576) : FnEq Tryd.prog 11 [.d (.lst 3 (xs.map NoteD.dat)), .d (.int .i64 left)] [.d (.int .i64 (szOf left xs.length))] := by
  refine fn_ok G_ok Tryd.func11 rfl rfl ?_; simp only [Tryd.ntmps11, List.length_cons, List.length_nil, Nat.reduceAdd, Nat.reduceSub, enm]
  repeat' (first | ((with_reducible first | (refine hK _ ?_; clear hK K) | refine stq fun K' hK' => ?_ | refine stc ?_); try simp only [go_sem]) | (with_reducible first | refine stp ?_ | (refine hK' _ ?_; clear hK' K') | refine kN kl11 fun K hK => ?_ | refine kO fun K hK => ?_) | (with_reducible refine pK_mk ?_ ?_ <;> (intro hc; (try simp only [go_sem]); (try simp at hc); try (exfalso; omega))) | with_reducible refine And.intro (by first | omega | (unfold inI; omega)) ?_)
  · refine retQ_ret rfl rfl (by simp [rowsOf, lk]) ?_; rw [szOf_lt (by omega)]
  · refine retQ_ret rfl rfl (by simp [rowsOf, lk]) ?_; rw [szOf_ge (by omega)]
theorem eqNote_ok (x y : NoteD) : FnEq Tryd.prog 30 [.agg [.d (.int .i64 x.skater), .d (.int .i64 x.before), .d (.int .i64 x.inn)], .agg [.d (.int .i64 y.skater), .d (.int .i64 y.before), .d (.int .i64 y.inn)]] [.d (.bool (bP (x = y)))] := by
  refine fn_ok G_ok Tryd.func30 rfl rfl ?_; simp only [Tryd.ntmps30, List.length_cons, List.length_nil, Nat.reduceAdd, Nat.reduceSub, enm]
  repeat' (first | ((with_reducible first | (refine hK _ ?_; clear hK K) | refine stq fun K' hK' => ?_ | refine stc ?_); try simp only [go_sem]) | (with_reducible first | refine stp ?_ | (refine hK' _ ?_; clear hK' K') | refine kN kl30 fun K hK => ?_ | refine kO fun K hK => ?_) | (with_reducible refine pK_mk ?_ ?_ <;> (intro hc; (try simp only [go_sem]); (try simp at hc); try (exfalso; omega))) | with_reducible refine And.intro (by first | omega | (unfold inI; omega)) ?_)
  all_goals first
    | (refine retQ_ret rfl rfl (by simp [rowsOf, lk]) ?_; rw [bP_true (NoteD.extM (by assumption) (by assumption) (by assumption))])
    | (refine retQ_ret rfl rfl (by simp [rowsOf, lk]) ?_; rw [bP_false fun h => by subst h; simp_all])
theorem eqNoteS_ok (xs ys : List NoteD) (hn : xs.length ≤ 1048576) (hn' : ys.length ≤ 9223372036854775807) : FnEq Tryd.prog 15 [.d (.lst 3 (xs.map NoteD.dat)), .d (.lst 3 (ys.map NoteD.dat))] [.d (.bool (bP (xs = ys)))] := by
  refine fn_ok G_ok Tryd.func15 rfl rfl ?_; simp only [Tryd.ntmps15, List.length_cons, List.length_nil, Nat.reduceAdd, Nat.reduceSub, enm]
  repeat' (first | ((with_reducible first | (refine hK _ ?_; clear hK K) | refine stq fun K' hK' => ?_ | refine stc ?_); try simp only [go_sem]) | (with_reducible first | refine stp ?_ | (refine hK' _ ?_; clear hK' K') | refine kN kl15 fun K hK => ?_ | refine kO fun K hK => ?_) | refine iB ?_ | (with_reducible refine pw_seq_drawK kl15 G_ok mixed (by kernel_rfl) (fun K hK => ?_)) | (with_reducible refine pw_draw G_ok mixed (by kernel_rfl) ?_) | (with_reducible refine pK_mk ?_ ?_ <;> (intro hc; (try simp only [go_sem]); (try simp at hc); try (exfalso; omega))) | with_reducible refine And.intro (by first | omega | (unfold inI; omega)) ?_)
  · refine retQ_ret rfl rfl (by simp [rowsOf, lk]) ?_; rw [bP_false fun h => absurd (congrArg List.length h) (by omega)]
  · refine pw_loop_over [4, 5, 11, 12, 13, 14, 15, 16, 17, 18, 19, 20, 21, 22, 23, 24, 25, 26] (fun k : Nat => [(5, .d (.int .i64 (k : Int)))]) (fun k : Nat => []) 0 (fun k : Nat => k ≤ xs.length ∧ xs.take k = ys.take k) (fun k : Nat => xs.length - k) 0 ⟨Nat.zero_le _, by simp⟩ (fits_mk [] (by simp [renL_d, bdL_d, sg, over, wipe, wl, memN, ins, rm, lk, fitFr, fit1, ren, renL, bd, bdL, app, fitHp, hget, renB, bdB] <;> omega)) ?_
    rintro k ⟨hk, hJ⟩
    simp only [over, wipe, wl, memN, ins, rm, if_true, if_false, Nat.reduceEqDiff, Bool.false_eq_true, reduceCtorEq]
    by_cases hlt : k < xs.length
    · have hx := List.getElem?_eq_getElem hlt
      generalize xs[k] = x at hx
      have hy := List.getElem?_eq_getElem (show k < ys.length by omega)
      generalize ys[k] = y at hy
      repeat' (first | ((with_reducible first | (refine hK _ ?_; clear hK K) | refine stq fun K' hK' => ?_ | refine stc ?_); try simp only [go_sem, List.getElem?_map, hx, hy, Option.map_some, NoteD.dat]) | (with_reducible first | refine stp ?_ | (refine hK' _ ?_; clear hK' K') | refine kN kl15 fun K hK => ?_ | refine kO fun K hK => ?_) | ((with_reducible first | apply CallK.eq | apply CallQ.eqs); (· with_reducible first | exact eqNote_ok x y); (· first | exact rfl | (simp [RV.flat, D.sc, datI]; done)); try simp only [go_sem, List.getElem?_map, hx, hy, Option.map_some, NoteD.dat]) | refine iB ?_ | (with_reducible refine pw_seq_drawK kl15 G_ok mixed (by kernel_rfl) (fun K hK => ?_)) | (with_reducible refine pw_draw G_ok mixed (by kernel_rfl) ?_) | (with_reducible refine pK_mk ?_ ?_ <;> (intro hc; (try simp only [go_sem, List.getElem?_map, hx, hy, Option.map_some, NoteD.dat]); (try simp at hc); try (exfalso; omega))) | with_reducible refine And.intro (by first | omega | (unfold inI; omega)) ?_)
      · refine retQ_ret rfl rfl (by simp [rowsOf, lk]) ?_; rw [bP_false fun h => by rw [h, hy] at hx; exact not_bP (show bP (x = y) = false by assumption) (Option.some.inj hx).symm]
      · exact ⟨k + 1, ⟨by omega, by rw [take_snoc hx, take_snoc hy, hJ, of_bP (show bP (x = y) = true by assumption)]⟩, by omega, (fits_mk [] (by simp [renL_d, bdL_d, sg, over, wipe, wl, memN, ins, rm, lk, fitFr, fit1, ren, renL, bd, bdL, app, fitHp, hget, renB, bdB] <;> omega))⟩
    · repeat' (first | ((with_reducible first | (refine hK _ ?_; clear hK K) | refine stq fun K' hK' => ?_ | refine stc ?_); try simp only [go_sem]) | (with_reducible first | refine stp ?_ | (refine hK' _ ?_; clear hK' K') | refine kN kl15 fun K hK => ?_ | refine kO fun K hK => ?_) | refine iB ?_ | (with_reducible refine pw_seq_drawK kl15 G_ok mixed (by kernel_rfl) (fun K hK => ?_)) | (with_reducible refine pw_draw G_ok mixed (by kernel_rfl) ?_) | (with_reducible refine pK_mk ?_ ?_ <;> (intro hc; (try simp only [go_sem]); (try simp at hc); try (exfalso; omega))) | with_reducible refine And.intro (by first | omega | (unfold inI; omega)) ?_)
      refine retQ_ret rfl rfl (by simp [rowsOf, lk]) ?_; rw [bP_true (by rwa [List.take_of_length_le (by omega), List.take_of_length_le (by omega)] at hJ)]
theorem toNote_ok (x : NoteD) : FnEq Tryd.prog 25 [.agg [.d (.int .i64 x.skater), .d (.int .i64 x.before), .d (.int .i64 x.inn)]] [.agg [.int .i64 x.skater, .int .i64 x.before, .int .i64 x.inn]] := by
  refine fn_ok G_ok Tryd.func25 rfl rfl ?_; simp only [Tryd.ntmps25, List.length_cons, List.length_nil, Nat.reduceAdd, Nat.reduceSub, enm]
  repeat' (first | ((with_reducible first | (refine hK _ ?_; clear hK K) | refine stq fun K' hK' => ?_ | refine stc ?_); try simp only [go_sem]) | (with_reducible first | refine stp ?_ | (refine hK' _ ?_; clear hK' K') | refine kN kl25 fun K hK => ?_ | refine kO fun K hK => ?_) | (with_reducible refine pK_mk ?_ ?_ <;> (intro hc; (try simp only [go_sem]); (try simp at hc); try (exfalso; omega))) | with_reducible refine And.intro (by first | omega | (unfold inI; omega)) ?_)
  refine retQ_ret rfl rfl (by simp [rowsOf, rowIds, lk]) ?_
  rfl
theorem toNoteS_ok (xs : List NoteD) (hn : xs.length ≤ 1048576) : FnEq Tryd.prog 13 [.d (.lst 3 (xs.map NoteD.dat))] [.row 46 3 (xs.map NoteD.dat)] := by
  refine fn_ok G_ok Tryd.func13 rfl rfl ?_; simp only [Tryd.ntmps13, List.length_cons, List.length_nil, Nat.reduceAdd, Nat.reduceSub, enm]
  repeat' (first | ((with_reducible first | (refine hK _ ?_; clear hK K) | refine stq fun K' hK' => ?_ | refine stc ?_); try simp only [go_sem]) | (with_reducible first | refine stp ?_ | (refine hK' _ ?_; clear hK' K') | refine kN kl13 fun K hK => ?_ | refine kO fun K hK => ?_) | refine iB ?_ | (with_reducible refine pK_mk ?_ ?_ <;> (intro hc; (try simp only [go_sem]); (try simp at hc); try (exfalso; omega))) | with_reducible refine And.intro (by first | omega | (unfold inI; omega)) ?_)
  refine pw_loop_over [2, 4, 8, 9, 10, 11, 12, 13, 14, 15, 16, 17, 18, 19, 20, 21] (fun k : Nat => [(4, .d (.int .i64 (k : Int))), (3, .row 0 xs.length)]) (fun k : Nat => [(0, .row 46 3 ((fillTo (⟨0, 0, 0⟩ : NoteD) xs k).map NoteD.dat))]) 1 (fun k : Nat => k ≤ xs.length) (fun k : Nat => xs.length - k) 0 (Nat.zero_le _) (fits_mk [] (by simp [renL_d, bdL_d, sg, over, wipe, wl, memN, ins, rm, lk, fitFr, fit1, ren, renL, bd, bdL, app, fitHp, hget, renB, bdB, fillTo_zero, NoteD.dat] <;> omega)) ?_
  intro k hk
  have hL := fillTo_len (⟨0, 0, 0⟩ : NoteD) xs k hk
  simp only [over, wipe, wl, memN, ins, rm, if_true, if_false, Nat.reduceEqDiff, Bool.false_eq_true, reduceCtorEq]
  by_cases hlt : k < xs.length
  · have hx := List.getElem?_eq_getElem hlt
    generalize xs[k] = x at hx
    have hg := fillTo_get (⟨0, 0, 0⟩ : NoteD) hlt
    have hset : List.set ((fillTo (⟨0, 0, 0⟩ : NoteD) xs k).map NoteD.dat) k [.int .i64 x.skater, .int .i64 x.before, .int .i64 x.inn] = (fillTo (⟨0, 0, 0⟩ : NoteD) xs (k + 1)).map NoteD.dat := by rw [← fillTo_set (⟨0, 0, 0⟩ : NoteD) hx, List.map_set]; rfl
    repeat' (first | ((with_reducible first | (refine hK _ ?_; clear hK K) | refine stq fun K' hK' => ?_ | refine stc ?_); try simp only [go_sem, List.getElem?_map, hx, hg, Option.map_some, NoteD.dat, hlt]) | (with_reducible first | refine stp ?_ | (refine hK' _ ?_; clear hK' K') | refine kN kl13 fun K hK => ?_ | refine kO fun K hK => ?_) | ((with_reducible apply CallK.eq); (· with_reducible first | exact toNote_ok x); (· simp [RV.flat, D.sc, datI]); try simp only [go_sem, List.getElem?_map, hx, hg, Option.map_some, NoteD.dat, hlt]) | refine iB ?_ | (with_reducible refine pK_mk ?_ ?_ <;> (intro hc; (try simp only [go_sem, List.getElem?_map, hx, hg, Option.map_some, NoteD.dat, hlt]); (try simp at hc); try (exfalso; omega))) | with_reducible refine And.intro (by first | omega | (unfold inI; omega)) ?_)
    exact ⟨k + 1, by omega, by omega, (fits_mk [] (by simp [renL_d, bdL_d, sg, over, wipe, wl, memN, ins, rm, lk, fitFr, fit1, ren, renL, bd, bdL, app, fitHp, hget, renB, bdB, hset] <;> omega))⟩
  · have e : k = xs.length := by omega
    subst e
    rw [fillTo_end]
    repeat' (first | ((with_reducible first | (refine hK _ ?_; clear hK K) | refine stq fun K' hK' => ?_ | refine stc ?_); try simp only [go_sem]) | (with_reducible first | refine stp ?_ | (refine hK' _ ?_; clear hK' K') | refine kN kl13 fun K hK => ?_ | refine kO fun K hK => ?_) | refine iB ?_ | (with_reducible refine pK_mk ?_ ?_ <;> (intro hc; (try simp only [go_sem]); (try simp at hc); try (exfalso; omega))) | with_reducible refine And.intro (by first | omega | (unfold inI; omega)) ?_)
    refine retQ_ret rfl (by simp only [retL, ret1, hget, lk, List.length_map, List.length_nil, List.length_append, List.length_take, if_true, if_false, Nat.reduceEqDiff, Nat.reduceBEq, Bool.false_eq_true, Option.some.injEq]; rfl) (by simp [rowsOf, lk]) ?_; rfl
def nAtNote (q : Int) (k : Nat) : Int := q + 3 * (k : Int)
def mkNote (q : Int) (n : Nat) : List NoteD := (List.range n).map fun k => ⟨nAtNote q k, nAtNote q k + 1, nAtNote q k + 1 + 1⟩
theorem mkNote_len (q : Int) (n : Nat) : (mkNote q n).length = n := by simp [mkNote]
theorem mkNote_succ (q : Int) (k : Nat) : mkNote q (k + 1) = mkNote q k ++ [⟨nAtNote q k, nAtNote q k + 1, nAtNote q k + 1 + 1⟩] := by unfold mkNote; rw [List.range_succ]; simp
theorem nAtNote_zero (q : Int) : nAtNote q 0 = q := by simp [nAtNote]
theorem nAtNote_succ (q : Int) (k : Nat) : nAtNote q (k + 1) = nAtNote q k + 1 + 1 + 1 := by unfold nAtNote; omega
def mkNoteTo (q : Int) (l : List NoteD) (k : Nat) : List NoteD := mkNote q k ++ l.drop k
def mkNoteH (q : Int) (l : List NoteD) (k : Nat) (y : NoteD) : List NoteD := mkNote q k ++ y :: l.drop (k + 1)
theorem mkNoteTo_zero (q : Int) (l : List NoteD) : mkNoteTo q l 0 = l := rfl
theorem mkNoteTo_end (q : Int) (l : List NoteD) : mkNoteTo q l l.length = mkNote q l.length := by unfold mkNoteTo; rw [List.drop_length, List.append_nil]
theorem mkNoteTo_len {q : Int} {l : List NoteD} {k : Nat} (hk : k ≤ l.length) : (mkNoteTo q l k).length = l.length := by unfold mkNoteTo; rw [List.length_append, mkNote_len, List.length_drop]; omega
theorem mkNoteH_len {q : Int} {l : List NoteD} {k : Nat} {y : NoteD} (hk : k < l.length) : (mkNoteH q l k y).length = l.length := by unfold mkNoteH; rw [List.length_append, mkNote_len, List.length_cons, List.length_drop]; omega
theorem mkNoteTo_get {q : Int} {l : List NoteD} {k : Nat} {x : NoteD} (hx : l[k]? = some x) : (mkNoteTo q l k)[k]? = some x := by
  unfold mkNoteTo
  rw [List.getElem?_append_right (by rw [mkNote_len]; exact Nat.le_refl _), mkNote_len, Nat.sub_self, List.getElem?_drop]
  exact hx
theorem mkNoteH_get {q : Int} {l : List NoteD} {k : Nat} {y : NoteD} : (mkNoteH q l k y)[k]? = some y := by
  unfold mkNoteH
  rw [List.getElem?_append_right (by rw [mkNote_len]; exact Nat.le_refl _), mkNote_len, Nat.sub_self]
  rfl
theorem mkNoteTo_set {q : Int} {l : List NoteD} {k : Nat} (y : NoteD) (hk : k < l.length) : (mkNoteTo q l k).set k y = mkNoteH q l k y := by
  unfold mkNoteTo mkNoteH
  rw [List.set_append_right _ _ (by rw [mkNote_len]; exact Nat.le_refl _), mkNote_len, Nat.sub_self, List.drop_eq_getElem_cons hk]
  rfl
theorem mkNoteH_set {q : Int} {l : List NoteD} {k : Nat} {y : NoteD} (z : NoteD) : (mkNoteH q l k y).set k z = mkNoteH q l k z := by
  unfold mkNoteH
  rw [List.set_append_right _ _ (by rw [mkNote_len]; exact Nat.le_refl _), mkNote_len, Nat.sub_self]
  rfl
theorem mkNoteH_end (q : Int) (l : List NoteD) (k : Nat) : mkNoteH q l k ⟨nAtNote q k, nAtNote q k + 1, nAtNote q k + 1 + 1⟩ = mkNoteTo q l (k + 1) := by unfold mkNoteH mkNoteTo; rw [mkNote_succ, List.append_assoc]; rfl
theorem markNoteS_ok (l : List NoteD) (q : Int) (hk : 0 ≤ q) (hb : q + 3 * (l.length : Int) ≤ 1099511627776) : FnM Tryd.prog 18 3 (l.map NoteD.dat) [.int .i64 q] ((mkNote q l.length).map NoteD.dat) [.int .i64 (nAtNote q l.length)] := by
  refine fn_okM G_ok Tryd.func18 rfl rfl (by simp [D.sc]) (by simp [D.sc]) fun ty => ?_; simp only [Tryd.ntmps18, List.length_cons, List.length_nil, Nat.reduceAdd, Nat.reduceSub, List.map_cons, List.map_nil, List.length_map, enm]
  repeat' (first | ((with_reducible first | (refine hK _ ?_; clear hK K) | refine stq fun K' hK' => ?_ | refine stc ?_); try simp only [go_sem]) | (with_reducible first | refine stp ?_ | (refine hK' _ ?_; clear hK' K') | refine kN kl18 fun K hK => ?_ | refine kO fun K hK => ?_) | refine iB ?_ | (with_reducible refine pK_mk ?_ ?_ <;> (intro hc; (try simp only [go_sem]); (try simp at hc); try (exfalso; omega))) | with_reducible refine And.intro (by first | omega | (unfold inI; omega)) ?_)
  refine pw_loop_over [1, 4, 5, 6, 7, 8, 9, 10, 11, 12, 13, 14, 15, 16, 17, 18, 19, 20, 21, 22, 23, 24, 25, 26, 27, 28, 29, 30, 31, 32] (fun k : Nat => [(5, .d (.int .i64 (k : Int))), (1, .d (.int .i64 (nAtNote q k)))]) (fun k : Nat => [(0, .deep 1 ty 3 ((mkNoteTo q l k).map NoteD.dat))]) 1 (fun k : Nat => k ≤ l.length) (fun k : Nat => l.length - k) 0 (Nat.zero_le _) (fits_mk [] (by simp [renL_d, bdL_d, sg, over, wipe, wl, memN, ins, rm, lk, fitFr, fit1, ren, renL, bd, bdL, app, fitHp, hget, renB, bdB, mkNoteTo_zero, nAtNote_zero] <;> omega)) ?_
  intro k hk
  have hL := mkNoteTo_len (q := q) hk
  have hat : nAtNote q k = q + 3 * (k : Int) := rfl
  simp only [over, wipe, wl, memN, ins, rm, if_true, if_false, Nat.reduceEqDiff, Bool.false_eq_true, reduceCtorEq]
  by_cases hlt : k < l.length
  · have hx0 := List.getElem?_eq_getElem hlt
    generalize l[k] = x at hx0
    have hg0 := mkNoteTo_get (q := q) hx0
    have hl0 := hL
    have hs1 : ((mkNoteTo q l k).map NoteD.dat).set k [.int .i64 (nAtNote q k), .int .i64 x.before, .int .i64 x.inn] = (mkNoteH q l k ⟨nAtNote q k, x.before, x.inn⟩).map NoteD.dat := by rw [← mkNoteTo_set ⟨nAtNote q k, x.before, x.inn⟩ hlt, List.map_set]; rfl
    have hg1 := mkNoteH_get (q := q) (l := l) (k := k) (y := ⟨nAtNote q k, x.before, x.inn⟩)
    have hl1 := mkNoteH_len (q := q) (y := ⟨nAtNote q k, x.before, x.inn⟩) hlt
    have hs2 : ((mkNoteH q l k ⟨nAtNote q k, x.before, x.inn⟩).map NoteD.dat).set k [.int .i64 (nAtNote q k), .int .i64 (nAtNote q k + 1), .int .i64 x.inn] = (mkNoteH q l k ⟨nAtNote q k, nAtNote q k + 1, x.inn⟩).map NoteD.dat := by rw [← mkNoteH_set ⟨nAtNote q k, nAtNote q k + 1, x.inn⟩, List.map_set]; rfl
    have hg2 := mkNoteH_get (q := q) (l := l) (k := k) (y := ⟨nAtNote q k, nAtNote q k + 1, x.inn⟩)
    have hl2 := mkNoteH_len (q := q) (y := ⟨nAtNote q k, nAtNote q k + 1, x.inn⟩) hlt
    have hs3 : ((mkNoteH q l k ⟨nAtNote q k, nAtNote q k + 1, x.inn⟩).map NoteD.dat).set k [.int .i64 (nAtNote q k), .int .i64 (nAtNote q k + 1), .int .i64 (nAtNote q k + 1 + 1)] = (mkNoteTo q l (k + 1)).map NoteD.dat := by rw [← mkNoteH_end, ← mkNoteH_set ⟨nAtNote q k, nAtNote q k + 1, nAtNote q k + 1 + 1⟩, List.map_set]; rfl
    repeat' (first | ((with_reducible first | (refine hK _ ?_; clear hK K) | refine stq fun K' hK' => ?_ | refine stc ?_); try simp only [go_sem, hL, hl0, hlt, List.getElem?_map, hg0, Option.map_some, NoteD.dat, spl, List.length_map]) | (with_reducible first | refine stp ?_ | (refine hK' _ ?_; clear hK' K') | refine kN kl18 fun K hK => ?_ | refine kO fun K hK => ?_) | refine iB ?_ | (with_reducible refine pK_mk ?_ ?_ <;> (intro hc; (try simp only [go_sem, hL, hl0, hlt, List.getElem?_map, hg0, Option.map_some, NoteD.dat, spl, List.length_map]); (try simp at hc); try (exfalso; omega))) | with_reducible refine And.intro (by first | omega | (unfold inI; omega)) ?_)
    refine po_store_deep (e := x.dat) (ds := [.int .i64 (nAtNote q k)]) rfl (G_ok _ _ G3) rfl rfl (by rw [List.getElem?_map, hg0]; rfl) rfl rfl rfl rfl (by simp [NoteD.dat] <;> decide) ?_
    repeat' (first | ((with_reducible first | (refine hK _ ?_; clear hK K) | refine stq fun K' hK' => ?_ | refine stc ?_); try simp only [go_sem, hs1, hL, hl1, hlt, List.getElem?_map, hg1, Option.map_some, NoteD.dat, spl, List.length_map]) | (with_reducible first | refine stp ?_ | (refine hK' _ ?_; clear hK' K') | refine kN kl18 fun K hK => ?_ | refine kO fun K hK => ?_) | refine iB ?_ | (with_reducible refine pK_mk ?_ ?_ <;> (intro hc; (try simp only [go_sem, hs1, hL, hl1, hlt, List.getElem?_map, hg1, Option.map_some, NoteD.dat, spl, List.length_map]); (try simp at hc); try (exfalso; omega))) | with_reducible refine And.intro (by first | omega | (unfold inI; omega)) ?_)
    refine po_store_deep (e := NoteD.dat ⟨nAtNote q k, x.before, x.inn⟩) (ds := [.int .i64 (nAtNote q k + 1)]) rfl (G_ok _ _ G3) rfl rfl (by rw [List.getElem?_map, hg1]; rfl) rfl rfl rfl rfl (by simp [NoteD.dat] <;> decide) ?_
    repeat' (first | ((with_reducible first | (refine hK _ ?_; clear hK K) | refine stq fun K' hK' => ?_ | refine stc ?_); try simp only [go_sem, hs2, hL, hl2, hlt, List.getElem?_map, hg2, Option.map_some, NoteD.dat, spl, List.length_map]) | (with_reducible first | refine stp ?_ | (refine hK' _ ?_; clear hK' K') | refine kN kl18 fun K hK => ?_ | refine kO fun K hK => ?_) | refine iB ?_ | (with_reducible refine pK_mk ?_ ?_ <;> (intro hc; (try simp only [go_sem, hs2, hL, hl2, hlt, List.getElem?_map, hg2, Option.map_some, NoteD.dat, spl, List.length_map]); (try simp at hc); try (exfalso; omega))) | with_reducible refine And.intro (by first | omega | (unfold inI; omega)) ?_)
    refine po_store_deep (e := NoteD.dat ⟨nAtNote q k, nAtNote q k + 1, x.inn⟩) (ds := [.int .i64 (nAtNote q k + 1 + 1)]) rfl (G_ok _ _ G3) rfl rfl (by rw [List.getElem?_map, hg2]; rfl) rfl rfl rfl rfl (by simp [NoteD.dat] <;> decide) ?_
    repeat' (first | ((with_reducible first | (refine hK _ ?_; clear hK K) | refine stq fun K' hK' => ?_ | refine stc ?_); try simp only [go_sem, hs3, NoteD.dat, spl]) | (with_reducible first | refine stp ?_ | (refine hK' _ ?_; clear hK' K') | refine kN kl18 fun K hK => ?_ | refine kO fun K hK => ?_) | refine iB ?_ | (with_reducible refine pK_mk ?_ ?_ <;> (intro hc; (try simp only [go_sem, hs3, NoteD.dat, spl]); (try simp at hc); try (exfalso; omega))) | with_reducible refine And.intro (by first | omega | (unfold inI; omega)) ?_)
    have hsu := nAtNote_succ q k
    exact ⟨k + 1, by omega, by omega, (fits_mk [] (by simp [renL_d, bdL_d, sg, over, wipe, wl, memN, ins, rm, lk, fitFr, fit1, ren, renL, bd, bdL, app, fitHp, hget, renB, bdB, hsu, hs3] <;> omega))⟩
  · obtain rfl : k = l.length := by omega
    repeat' (first | ((with_reducible first | (refine hK _ ?_; clear hK K) | refine stq fun K' hK' => ?_ | refine stc ?_); try simp only [go_sem, hL]) | (with_reducible first | refine stp ?_ | (refine hK' _ ?_; clear hK' K') | refine kN kl18 fun K hK => ?_ | refine kO fun K hK => ?_) | refine iB ?_ | (with_reducible refine pK_mk ?_ ?_ <;> (intro hc; (try simp only [go_sem, hL]); (try simp at hc); try (exfalso; omega))) | with_reducible refine And.intro (by first | omega | (unfold inI; omega)) ?_)
    rw [mkNoteTo_end]
    exact ⟨rfl, 0, rfl⟩
theorem mkNote_get {q : Int} {n k : Nat} (h : k < n) : (mkNote q n)[k]? = some ⟨nAtNote q k, nAtNote q k + 1, nAtNote q k + 1 + 1⟩ := by unfold mkNote; rw [List.getElem?_map, List.getElem?_range h]; rfl
theorem heldNoteS_ok (q : Int) (n : Nat) (hk : 0 ≤ q) (hb : q + 3 * (n : Int) ≤ 1099511627776) : FnEq Tryd.prog 19 [.d (.lst 3 ((mkNote q n).map NoteD.dat)), .d (.int .i64 q)] [.d (.int .i64 (nAtNote q n))] := by
  refine fn_ok G_ok Tryd.func19 rfl rfl ?_; simp only [Tryd.ntmps19, List.length_cons, List.length_nil, Nat.reduceAdd, Nat.reduceSub, enm]
  have hl := mkNote_len q n
  have hde : ∀ z : Int, decide (z.tmod 3 = 0) = (z.tmod 3 == 0) := fun _ => rfl
  repeat' (first | ((with_reducible first | (refine hK _ ?_; clear hK K) | refine stq fun K' hK' => ?_ | refine stc ?_); try simp only [go_sem]) | (with_reducible first | refine stp ?_ | (refine hK' _ ?_; clear hK' K') | refine kN kl19 fun K hK => ?_ | refine kO fun K hK => ?_) | refine iB ?_ | (with_reducible refine pK_mk ?_ ?_ <;> (intro hc; (try simp only [go_sem]); (try simp at hc); try (exfalso; omega))) | with_reducible refine And.intro (by first | omega | (unfold inI; omega)) ?_)
  refine pw_loop_over [1, 4, 5, 6, 7, 8, 9, 10, 11, 12, 13, 14, 15, 16, 17, 18, 19, 20, 21, 22, 23, 24, 25, 26, 27, 28, 29, 30, 31, 32, 33, 34, 35, 36, 37, 38] (fun k : Nat => [(5, .d (.int .i64 (k : Int))), (1, .d (.int .i64 (nAtNote q k)))]) (fun k : Nat => []) 0 (fun k : Nat => k ≤ n) (fun k : Nat => n - k) 0 (Nat.zero_le _) (fits_mk [] (by simp [renL_d, bdL_d, sg, over, wipe, wl, memN, ins, rm, lk, fitFr, fit1, ren, renL, bd, bdL, app, fitHp, hget, renB, bdB, hl, nAtNote_zero] <;> omega)) ?_
  intro i hi
  have hat : nAtNote q i = q + 3 * (i : Int) := rfl
  have hsu := nAtNote_succ q i
  simp only [over, wipe, wl, memN, ins, rm, if_true, if_false, Nat.reduceEqDiff, Bool.false_eq_true, reduceCtorEq]
  by_cases hlt : i < n
  · have hx := mkNote_get (q := q) hlt
    repeat' (first | ((with_reducible first | (refine hK _ ?_; clear hK K) | refine stq fun K' hK' => ?_ | refine stc ?_); try simp only [go_sem, hl, List.getElem?_map, hx, Option.map_some, NoteD.dat, hde, beq_self_eq_true, bne_self_eq_false]) | (with_reducible first | refine stp ?_ | (refine hK' _ ?_; clear hK' K') | refine kN kl19 fun K hK => ?_ | refine kO fun K hK => ?_) | refine iB ?_ | (with_reducible refine pK_mk ?_ ?_ <;> (intro hc; (try simp only [go_sem, hl, List.getElem?_map, hx, Option.map_some, NoteD.dat, hde, beq_self_eq_true, bne_self_eq_false]); (try simp at hc); try (exfalso; omega))) | with_reducible refine And.intro (by first | omega | (unfold inI; omega)) ?_)
    all_goals first
      | (exfalso; omega)
      | exact ⟨i + 1, by omega, by omega, (fits_mk [] (by simp [renL_d, bdL_d, sg, over, wipe, wl, memN, ins, rm, lk, fitFr, fit1, ren, renL, bd, bdL, app, fitHp, hget, renB, bdB, hsu] <;> omega))⟩
  · repeat' (first | ((with_reducible first | (refine hK _ ?_; clear hK K) | refine stq fun K' hK' => ?_ | refine stc ?_); try simp only [go_sem, hl]) | (with_reducible first | refine stp ?_ | (refine hK' _ ?_; clear hK' K') | refine kN kl19 fun K hK => ?_ | refine kO fun K hK => ?_) | refine iB ?_ | (with_reducible refine pK_mk ?_ ?_ <;> (intro hc; (try simp only [go_sem, hl]); (try simp at hc); try (exfalso; omega))) | with_reducible refine And.intro (by first | omega | (unfold inI; omega)) ?_)
    refine retQ_ret rfl rfl (by simp [rowsOf, lk]) ?_; rw [show i = n by omega]
section
variable {H : Type} {enc : TypeId × Value → H} {w : World} {base : Nat} {spare : Nat → Bool} {held : Bool}
set_option maxRecDepth 100000 in
theorem open_Note : OpenK enc Tryd.prog w base spare held NoteD.dat (fun _ => True) 48 3 :=
  OpenK.map (OpenK.st (OpenFs.cons (OpenK.int Tryd.underlying3) rfl (by kernel_rfl) (OpenFs.cons (OpenK.int Tryd.underlying3) rfl (by kernel_rfl) (OpenFs.cons (OpenK.int Tryd.underlying3) rfl (by kernel_rfl) (OpenFs.nil 3)))) Tryd.underlying48 (by kernel_rfl))
    (fun p => (⟨p.1, p.2.1, p.2.2.1⟩ : NoteD)) NoteD.dat _ (fun _ => rfl) (fun _ => rfl) (fun _ _ => trivial)
set_option maxRecDepth 100000 in
theorem open_NoteS : OpenK enc Tryd.prog w base spare held (datL 3 NoteD.dat) (fun xs => xs.length ≤ maxLen ∧ ∀ r ∈ xs, True) 28 1 :=
  OpenK.slc open_Note Tryd.underlying28 (by kernel_rfl) (by decide)
end
end Go.Proofs.YtjgpbbdapjjmiaaDoor
