/-
  Codes, performances and lists of lists marked by the laws' helpers, in the abstract machine.
-/
import Derived.Test.YtphakidbddamfaaGreatZMi
import Derived.Test.YtphakidbddamfaaGreatZMm
import Derived.Test.YtphakidbddamfaaGreatZPt
set_option linter.unusedSimpArgs false
set_option linter.unusedVariables false
set_option maxHeartbeats 2000000
set_option maxRecDepth 100000
namespace Go.Proofs.YtphakidbddamfaaGreat
open Go.ChangeShapes Go.WideShapes Go.ChangeAt Go.RowKit Go.Deep

def nAtElement (q : Int) (k : Nat) : Int := q + 4 * (k : Int)
def mkElement (q : Int) (n : Nat) : List ElementD := (List.range n).map fun k => ⟨mkText (nAtElement q k), nAtElement q k + 1, nAtElement q k + 1 + 1, nAtElement q k + 1 + 1 + 1⟩
theorem mkElement_len (q : Int) (n : Nat) : (mkElement q n).length = n := by simp [mkElement]
theorem mkElement_succ (q : Int) (k : Nat) : mkElement q (k + 1) = mkElement q k ++ [⟨mkText (nAtElement q k), nAtElement q k + 1, nAtElement q k + 1 + 1, nAtElement q k + 1 + 1 + 1⟩] := by unfold mkElement; rw [List.range_succ]; simp
theorem nAtElement_zero (q : Int) : nAtElement q 0 = q := by simp [nAtElement]
theorem nAtElement_succ (q : Int) (k : Nat) : nAtElement q (k + 1) = nAtElement q k + 1 + 1 + 1 + 1 := by unfold nAtElement; omega
def mkElementTo (q : Int) (l : List ElementD) (k : Nat) : List ElementD := mkElement q k ++ l.drop k
def mkElementH (q : Int) (l : List ElementD) (k : Nat) (y : ElementD) : List ElementD := mkElement q k ++ y :: l.drop (k + 1)
theorem mkElementTo_zero (q : Int) (l : List ElementD) : mkElementTo q l 0 = l := rfl
theorem mkElementTo_end (q : Int) (l : List ElementD) : mkElementTo q l l.length = mkElement q l.length := by unfold mkElementTo; rw [List.drop_length, List.append_nil]
theorem mkElementTo_len {q : Int} {l : List ElementD} {k : Nat} (hk : k ≤ l.length) : (mkElementTo q l k).length = l.length := by unfold mkElementTo; rw [List.length_append, mkElement_len, List.length_drop]; omega
theorem mkElementH_len {q : Int} {l : List ElementD} {k : Nat} {y : ElementD} (hk : k < l.length) : (mkElementH q l k y).length = l.length := by unfold mkElementH; rw [List.length_append, mkElement_len, List.length_cons, List.length_drop]; omega
theorem mkElementTo_get {q : Int} {l : List ElementD} {k : Nat} {x : ElementD} (hx : l[k]? = some x) : (mkElementTo q l k)[k]? = some x := by
  unfold mkElementTo
  rw [List.getElem?_append_right (by rw [mkElement_len]; exact Nat.le_refl _), mkElement_len, Nat.sub_self, List.getElem?_drop]
  exact hx
theorem mkElementH_get {q : Int} {l : List ElementD} {k : Nat} {y : ElementD} : (mkElementH q l k y)[k]? = some y := by
  unfold mkElementH
  rw [List.getElem?_append_right (by rw [mkElement_len]; exact Nat.le_refl _), mkElement_len, Nat.sub_self]
  rfl
theorem mkElementTo_set {q : Int} {l : List ElementD} {k : Nat} (y : ElementD) (hk : k < l.length) : (mkElementTo q l k).set k y = mkElementH q l k y := by
  unfold mkElementTo mkElementH
  rw [List.set_append_right _ _ (by rw [mkElement_len]; exact Nat.le_refl _), mkElement_len, Nat.sub_self, List.drop_eq_getElem_cons hk]
  rfl
theorem mkElementH_set {q : Int} {l : List ElementD} {k : Nat} {y : ElementD} (z : ElementD) : (mkElementH q l k y).set k z = mkElementH q l k z := by
  unfold mkElementH
  rw [List.set_append_right _ _ (by rw [mkElement_len]; exact Nat.le_refl _), mkElement_len, Nat.sub_self]
  rfl
theorem mkElementH_end (q : Int) (l : List ElementD) (k : Nat) : mkElementH q l k ⟨mkText (nAtElement q k), nAtElement q k + 1, nAtElement q k + 1 + 1, nAtElement q k + 1 + 1 + 1⟩ = mkElementTo q l (k + 1) := by unfold mkElementH mkElementTo; rw [mkElement_succ, List.append_assoc]; rfl
theorem markElementS_ok (l : List ElementD) (q : Int) (hk : 0 ≤ q) (hb : q + 4 * (l.length : Int) ≤ 1099511627776) : FnM Tryz.prog 86 4 (l.map ElementD.dat) [.int .i64 q] ((mkElement q l.length).map ElementD.dat) [.int .i64 (nAtElement q l.length)] := by
  refine fn_okM G_ok Tryz.func86 rfl rfl (by simp [D.sc]) (by simp [D.sc]) fun ty => ?_; simp only [Tryz.ntmps86, List.length_cons, List.length_nil, Nat.reduceAdd, Nat.reduceSub, List.map_cons, List.map_nil, List.length_map, enm]
  repeat' (first | ((with_reducible first | (refine hK _ ?_; clear hK K) | refine stq fun K' hK' => ?_ | refine stc ?_); try simp only [go_sem]) | (with_reducible first | refine stp ?_ | (refine hK' _ ?_; clear hK' K') | refine kN kl86 fun K hK => ?_ | refine kO fun K hK => ?_) | refine iB ?_ | (with_reducible refine pK_mk ?_ ?_ <;> (intro hc; (try simp only [go_sem]); (try simp at hc); try (exfalso; omega))) | with_reducible refine And.intro (by first | omega | (unfold inI; omega)) ?_)
  refine pw_loop_over [1, 4, 5, 6, 7, 8, 9, 10, 11, 12, 13, 14, 15, 16, 17, 18, 19, 20, 21, 22, 23, 24, 25, 26, 27, 28, 29, 30, 31, 32, 33, 34, 35, 36, 37, 38, 39, 40] (fun k : Nat => [(5, .d (.int .i64 (k : Int))), (1, .d (.int .i64 (nAtElement q k)))]) (fun k : Nat => [(0, .deep 1 ty 4 ((mkElementTo q l k).map ElementD.dat))]) 1 (fun k : Nat => k ≤ l.length) (fun k : Nat => l.length - k) 0 (Nat.zero_le _) (fits_mk [] (by simp [renL_d, bdL_d, sg, over, wipe, wl, memN, ins, rm, lk, fitFr, fit1, ren, renL, bd, bdL, app, fitHp, hget, renB, bdB, mkElementTo_zero, nAtElement_zero] <;> omega)) ?_
  intro k hk
  have hL := mkElementTo_len (q := q) hk
  have hat : nAtElement q k = q + 4 * (k : Int) := rfl
  simp only [over, wipe, wl, memN, ins, rm, if_true, if_false, Nat.reduceEqDiff, Bool.false_eq_true, reduceCtorEq]
  by_cases hlt : k < l.length
  · have hx0 := List.getElem?_eq_getElem hlt
    generalize l[k] = x at hx0
    have hg0 := mkElementTo_get (q := q) hx0
    have hl0 := hL
    have hs1 : ((mkElementTo q l k).map ElementD.dat).set k [.str (mkText (nAtElement q k)), .int .i64 x.family, .int .i64 x.level, .int .i64 x.base] = (mkElementH q l k ⟨mkText (nAtElement q k), x.family, x.level, x.base⟩).map ElementD.dat := by rw [← mkElementTo_set ⟨mkText (nAtElement q k), x.family, x.level, x.base⟩ hlt, List.map_set]; rfl
    have hg1 := mkElementH_get (q := q) (l := l) (k := k) (y := ⟨mkText (nAtElement q k), x.family, x.level, x.base⟩)
    have hl1 := mkElementH_len (q := q) (y := ⟨mkText (nAtElement q k), x.family, x.level, x.base⟩) hlt
    have hs2 : ((mkElementH q l k ⟨mkText (nAtElement q k), x.family, x.level, x.base⟩).map ElementD.dat).set k [.str (mkText (nAtElement q k)), .int .i64 (nAtElement q k + 1), .int .i64 x.level, .int .i64 x.base] = (mkElementH q l k ⟨mkText (nAtElement q k), nAtElement q k + 1, x.level, x.base⟩).map ElementD.dat := by rw [← mkElementH_set ⟨mkText (nAtElement q k), nAtElement q k + 1, x.level, x.base⟩, List.map_set]; rfl
    have hg2 := mkElementH_get (q := q) (l := l) (k := k) (y := ⟨mkText (nAtElement q k), nAtElement q k + 1, x.level, x.base⟩)
    have hl2 := mkElementH_len (q := q) (y := ⟨mkText (nAtElement q k), nAtElement q k + 1, x.level, x.base⟩) hlt
    have hs3 : ((mkElementH q l k ⟨mkText (nAtElement q k), nAtElement q k + 1, x.level, x.base⟩).map ElementD.dat).set k [.str (mkText (nAtElement q k)), .int .i64 (nAtElement q k + 1), .int .i64 (nAtElement q k + 1 + 1), .int .i64 x.base] = (mkElementH q l k ⟨mkText (nAtElement q k), nAtElement q k + 1, nAtElement q k + 1 + 1, x.base⟩).map ElementD.dat := by rw [← mkElementH_set ⟨mkText (nAtElement q k), nAtElement q k + 1, nAtElement q k + 1 + 1, x.base⟩, List.map_set]; rfl
    have hg3 := mkElementH_get (q := q) (l := l) (k := k) (y := ⟨mkText (nAtElement q k), nAtElement q k + 1, nAtElement q k + 1 + 1, x.base⟩)
    have hl3 := mkElementH_len (q := q) (y := ⟨mkText (nAtElement q k), nAtElement q k + 1, nAtElement q k + 1 + 1, x.base⟩) hlt
    have hs4 : ((mkElementH q l k ⟨mkText (nAtElement q k), nAtElement q k + 1, nAtElement q k + 1 + 1, x.base⟩).map ElementD.dat).set k [.str (mkText (nAtElement q k)), .int .i64 (nAtElement q k + 1), .int .i64 (nAtElement q k + 1 + 1), .int .i64 (nAtElement q k + 1 + 1 + 1)] = (mkElementTo q l (k + 1)).map ElementD.dat := by rw [← mkElementH_end, ← mkElementH_set ⟨mkText (nAtElement q k), nAtElement q k + 1, nAtElement q k + 1 + 1, nAtElement q k + 1 + 1 + 1⟩, List.map_set]; rfl
    repeat' (first | ((with_reducible first | (refine hK _ ?_; clear hK K) | refine stq fun K' hK' => ?_ | refine stc ?_); try simp only [go_sem, hL, hl0, hlt, List.getElem?_map, hg0, Option.map_some, ElementD.dat, spl, List.length_map]) | (with_reducible first | refine stp ?_ | (refine hK' _ ?_; clear hK' K') | refine kN kl86 fun K hK => ?_ | refine kO fun K hK => ?_) | ((with_reducible apply CallK.eq); (· with_reducible first | exact markText_ok (nAtElement q k) (by omega)); (· simp [RV.flat, D.sc, datI]); try simp only [go_sem, hL, hl0, hlt, List.getElem?_map, hg0, Option.map_some, ElementD.dat, spl, List.length_map]) | refine iB ?_ | (with_reducible refine pK_mk ?_ ?_ <;> (intro hc; (try simp only [go_sem, hL, hl0, hlt, List.getElem?_map, hg0, Option.map_some, ElementD.dat, spl, List.length_map]); (try simp at hc); try (exfalso; omega))) | with_reducible refine And.intro (by first | omega | (unfold inI; omega)) ?_)
    refine po_store_deep (e := x.dat) (ds := [.str (mkText (nAtElement q k))]) rfl (G_ok _ _ G9) rfl rfl (by rw [List.getElem?_map, hg0]; rfl) rfl rfl rfl rfl (by simp [ElementD.dat] <;> decide) ?_
    repeat' (first | ((with_reducible first | (refine hK _ ?_; clear hK K) | refine stq fun K' hK' => ?_ | refine stc ?_); try simp only [go_sem, hs1, hL, hl1, hlt, List.getElem?_map, hg1, Option.map_some, ElementD.dat, spl, List.length_map]) | (with_reducible first | refine stp ?_ | (refine hK' _ ?_; clear hK' K') | refine kN kl86 fun K hK => ?_ | refine kO fun K hK => ?_) | refine iB ?_ | (with_reducible refine pK_mk ?_ ?_ <;> (intro hc; (try simp only [go_sem, hs1, hL, hl1, hlt, List.getElem?_map, hg1, Option.map_some, ElementD.dat, spl, List.length_map]); (try simp at hc); try (exfalso; omega))) | with_reducible refine And.intro (by first | omega | (unfold inI; omega)) ?_)
    refine po_store_deep (e := ElementD.dat ⟨mkText (nAtElement q k), x.family, x.level, x.base⟩) (ds := [.int .i64 (nAtElement q k + 1)]) rfl (G_ok _ _ G3) rfl rfl (by rw [List.getElem?_map, hg1]; rfl) rfl rfl rfl rfl (by simp [ElementD.dat] <;> decide) ?_
    repeat' (first | ((with_reducible first | (refine hK _ ?_; clear hK K) | refine stq fun K' hK' => ?_ | refine stc ?_); try simp only [go_sem, hs2, hL, hl2, hlt, List.getElem?_map, hg2, Option.map_some, ElementD.dat, spl, List.length_map]) | (with_reducible first | refine stp ?_ | (refine hK' _ ?_; clear hK' K') | refine kN kl86 fun K hK => ?_ | refine kO fun K hK => ?_) | refine iB ?_ | (with_reducible refine pK_mk ?_ ?_ <;> (intro hc; (try simp only [go_sem, hs2, hL, hl2, hlt, List.getElem?_map, hg2, Option.map_some, ElementD.dat, spl, List.length_map]); (try simp at hc); try (exfalso; omega))) | with_reducible refine And.intro (by first | omega | (unfold inI; omega)) ?_)
    refine po_store_deep (e := ElementD.dat ⟨mkText (nAtElement q k), nAtElement q k + 1, x.level, x.base⟩) (ds := [.int .i64 (nAtElement q k + 1 + 1)]) rfl (G_ok _ _ G3) rfl rfl (by rw [List.getElem?_map, hg2]; rfl) rfl rfl rfl rfl (by simp [ElementD.dat] <;> decide) ?_
    repeat' (first | ((with_reducible first | (refine hK _ ?_; clear hK K) | refine stq fun K' hK' => ?_ | refine stc ?_); try simp only [go_sem, hs3, hL, hl3, hlt, List.getElem?_map, hg3, Option.map_some, ElementD.dat, spl, List.length_map]) | (with_reducible first | refine stp ?_ | (refine hK' _ ?_; clear hK' K') | refine kN kl86 fun K hK => ?_ | refine kO fun K hK => ?_) | refine iB ?_ | (with_reducible refine pK_mk ?_ ?_ <;> (intro hc; (try simp only [go_sem, hs3, hL, hl3, hlt, List.getElem?_map, hg3, Option.map_some, ElementD.dat, spl, List.length_map]); (try simp at hc); try (exfalso; omega))) | with_reducible refine And.intro (by first | omega | (unfold inI; omega)) ?_)
    refine po_store_deep (e := ElementD.dat ⟨mkText (nAtElement q k), nAtElement q k + 1, nAtElement q k + 1 + 1, x.base⟩) (ds := [.int .i64 (nAtElement q k + 1 + 1 + 1)]) rfl (G_ok _ _ G3) rfl rfl (by rw [List.getElem?_map, hg3]; rfl) rfl rfl rfl rfl (by simp [ElementD.dat] <;> decide) ?_
    repeat' (first | ((with_reducible first | (refine hK _ ?_; clear hK K) | refine stq fun K' hK' => ?_ | refine stc ?_); try simp only [go_sem, hs4, ElementD.dat, spl]) | (with_reducible first | refine stp ?_ | (refine hK' _ ?_; clear hK' K') | refine kN kl86 fun K hK => ?_ | refine kO fun K hK => ?_) | refine iB ?_ | (with_reducible refine pK_mk ?_ ?_ <;> (intro hc; (try simp only [go_sem, hs4, ElementD.dat, spl]); (try simp at hc); try (exfalso; omega))) | with_reducible refine And.intro (by first | omega | (unfold inI; omega)) ?_)
    have hsu := nAtElement_succ q k
    exact ⟨k + 1, by omega, by omega, (fits_mk [] (by simp [renL_d, bdL_d, sg, over, wipe, wl, memN, ins, rm, lk, fitFr, fit1, ren, renL, bd, bdL, app, fitHp, hget, renB, bdB, hsu, hs4] <;> omega))⟩
  · obtain rfl : k = l.length := by omega
    repeat' (first | ((with_reducible first | (refine hK _ ?_; clear hK K) | refine stq fun K' hK' => ?_ | refine stc ?_); try simp only [go_sem, hL]) | (with_reducible first | refine stp ?_ | (refine hK' _ ?_; clear hK' K') | refine kN kl86 fun K hK => ?_ | refine kO fun K hK => ?_) | refine iB ?_ | (with_reducible refine pK_mk ?_ ?_ <;> (intro hc; (try simp only [go_sem, hL]); (try simp at hc); try (exfalso; omega))) | with_reducible refine And.intro (by first | omega | (unfold inI; omega)) ?_)
    rw [mkElementTo_end]
    exact ⟨rfl, 0, rfl⟩
def mkLs (q : Int) (x : List Int) : List Int := mkI q x.length
theorem markIntSS_ok (l : List (List Int)) (q : Int) (hk : 0 ≤ q) (hl : l.length ≤ 1099511627776) (hb : q + (gC List.length l : Int) ≤ 1099511627776) : FnM Tryz.prog 30 1 (l.map (datL 1 datI)) [.int .i64 q] ((gMk mkLs List.length q l).map (datL 1 datI)) [.int .i64 (q + (gC List.length l : Int))] := by
  refine fn_okM G_ok Tryz.func30 rfl rfl (by simp [D.sc]) (by simp [D.sc]) fun ty => ?_; simp only [Tryz.ntmps30, List.length_cons, List.length_nil, Nat.reduceAdd, Nat.reduceSub, List.map_cons, List.map_nil, List.length_map, enm]
  repeat' (first | ((with_reducible first | (refine hK _ ?_; clear hK K) | refine stq fun K' hK' => ?_ | refine stc ?_); try simp only [go_sem]) | (with_reducible first | refine stp ?_ | (refine hK' _ ?_; clear hK' K') | refine kN kl30 fun K hK => ?_ | refine kO fun K hK => ?_) | refine iB ?_ | (with_reducible refine pK_mk ?_ ?_ <;> (intro hc; (try simp only [go_sem]); (try simp at hc); try (exfalso; omega))) | with_reducible refine And.intro (by first | omega | (unfold inI; omega)) ?_)
  refine pw_loop_over [1, 4, 5, 6, 7, 8, 9, 10, 11, 12, 13, 14, 15, 16, 17] (fun k : Nat => [(5, .d (.int .i64 (k : Int))), (1, .d (.int .i64 (gAt List.length q l k)))]) (fun k : Nat => [(0, .deep 1 ty 1 ((gTo mkLs List.length q l k).map (datL 1 datI)))]) 1 (fun k : Nat => k ≤ l.length) (fun k : Nat => l.length - k) 0 (Nat.zero_le _) (fits_mk [] (by simp [renL_d, bdL_d, sg, over, wipe, wl, memN, ins, rm, lk, fitFr, fit1, ren, renL, bd, bdL, app, fitHp, hget, renB, bdB, gTo_zero, gAt_zero] <;> omega)) ?_
  intro k hk
  have hL := gTo_len (f := mkLs) (c := List.length) (q := q) hk
  have hct := gC_take (c := List.length) l k
  have hat : gAt List.length q l k = q + (gC List.length (l.take k) : Int) := rfl
  simp only [over, wipe, wl, memN, ins, rm, if_true, if_false, Nat.reduceEqDiff, Bool.false_eq_true, reduceCtorEq]
  by_cases hlt : k < l.length
  · have hx0 := List.getElem?_eq_getElem hlt
    generalize l[k] = x at hx0
    have hct1 := gC_take (c := List.length) l (k + 1)
    have hcs := gC_succ (c := List.length) hx0
    have hx := gTo_get (f := mkLs) (c := List.length) (q := q) hx0
    have hsu := gAt_succ (c := List.length) (q := q) hx0
    have hend := gH_end (f := mkLs) (c := List.length) (q := q) hx0
    generalize hq : gAt List.length q l k = r at hat hsu hend
    have hs1 : ((gTo mkLs List.length q l k).map (datL 1 datI)).set k [.lst 1 ((mkI r x.length).map datI)] = (gTo mkLs List.length q l (k + 1)).map (datL 1 datI) := by rw [← hend, ← gTo_set hlt, List.map_set]; rfl
    repeat' (first | ((with_reducible first | (refine hK _ ?_; clear hK K) | refine stq fun K' hK' => ?_ | refine stc ?_); try simp only [go_sem, hL, hlt, List.getElem?_map, hx, Option.map_some, datL, hq]) | (with_reducible first | refine stp ?_ | (refine hK' _ ?_; clear hK' K') | refine kN kl30 fun K hK => ?_ | refine kO fun K hK => ?_) | refine iB ?_ | (with_reducible refine pK_mk ?_ ?_ <;> (intro hc; (try simp only [go_sem, hL, hlt, List.getElem?_map, hx, Option.map_some, datL, hq]); (try simp at hc); try (exfalso; omega))) | with_reducible refine And.intro (by first | omega | (unfold inI; omega)) ?_)
    refine CallK.po (po_callMa (ei := x.map datI) rfl rfl rfl rfl rfl (by simp [D.sc]) (by simp [D.sc]) rfl rfl (by simp [alC, hx, datL]) (by simp) (by simp [mkI_len]) (markIntS_ok x r (by omega) (by omega)) ?_)
    repeat' (first | ((with_reducible first | (refine hK _ ?_; clear hK K) | refine stq fun K' hK' => ?_ | refine stc ?_); try simp only [go_sem, setC, List.getElem?_map, hx, Option.map_some, datL, List.set_cons_zero, hs1, hL, hlt, List.length_map]) | (with_reducible first | refine stp ?_ | (refine hK' _ ?_; clear hK' K') | refine kN kl30 fun K hK => ?_ | refine kO fun K hK => ?_) | refine iB ?_ | (with_reducible refine pK_mk ?_ ?_ <;> (intro hc; (try simp only [go_sem, setC, List.getElem?_map, hx, Option.map_some, datL, List.set_cons_zero, hs1, hL, hlt, List.length_map]); (try simp at hc); try (exfalso; omega))) | with_reducible refine And.intro (by first | omega | (unfold inI; omega)) ?_)
    all_goals first
      | omega
      | skip
    exact ⟨k + 1, by omega, by omega, (fits_mk [] (by simp [renL_d, bdL_d, sg, over, wipe, wl, memN, ins, rm, lk, fitFr, fit1, ren, renL, bd, bdL, app, fitHp, hget, renB, bdB, hsu, hs1] <;> omega))⟩
  · obtain rfl : k = l.length := by omega
    repeat' (first | ((with_reducible first | (refine hK _ ?_; clear hK K) | refine stq fun K' hK' => ?_ | refine stc ?_); try simp only [go_sem, hL]) | (with_reducible first | refine stp ?_ | (refine hK' _ ?_; clear hK' K') | refine kN kl30 fun K hK => ?_ | refine kO fun K hK => ?_) | refine iB ?_ | (with_reducible refine pK_mk ?_ ?_ <;> (intro hc; (try simp only [go_sem, hL]); (try simp at hc); try (exfalso; omega))) | with_reducible refine And.intro (by first | omega | (unfold inI; omega)) ?_)
    rw [gTo_end, gAt_end]
    exact ⟨rfl, 0, rfl⟩
theorem heldIntSS_ok (l : List (List Int)) (q : Int) (hk : 0 ≤ q) (hl : l.length ≤ 1099511627776) (hb : q + (gC List.length l : Int) ≤ 1099511627776) : FnEq Tryz.prog 31 [.d (.lst 1 ((gMk mkLs List.length q l).map (datL 1 datI))), .d (.int .i64 q)] [.d (.int .i64 (q + (gC List.length l : Int)))] := by
  have hll := gMk_len (f := mkLs) (c := List.length) q l
  refine fn_ok G_ok Tryz.func31 rfl rfl ?_; simp only [Tryz.ntmps31, List.length_cons, List.length_nil, Nat.reduceAdd, Nat.reduceSub, enm]
  repeat' (first | ((with_reducible first | (refine hK _ ?_; clear hK K) | refine stq fun K' hK' => ?_ | refine stc ?_); try simp only [go_sem]) | (with_reducible first | refine stp ?_ | (refine hK' _ ?_; clear hK' K') | refine kN kl31 fun K hK => ?_ | refine kO fun K hK => ?_) | refine iB ?_ | (with_reducible refine pK_mk ?_ ?_ <;> (intro hc; (try simp only [go_sem]); (try simp at hc); try (exfalso; omega))) | with_reducible refine And.intro (by first | omega | (unfold inI; omega)) ?_)
  refine pw_loop_over [1, 4, 5, 6, 7, 8, 9, 10, 11, 12, 13, 14, 15, 16, 17, 18, 19] (fun k : Nat => [(5, .d (.int .i64 (k : Int))), (1, .d (.int .i64 (gAt List.length q l k)))]) (fun k : Nat => []) 0 (fun k : Nat => k ≤ l.length) (fun k : Nat => l.length - k) 0 (Nat.zero_le _) (fits_mk [] (by simp [renL_d, bdL_d, sg, over, wipe, wl, memN, ins, rm, lk, fitFr, fit1, ren, renL, bd, bdL, app, fitHp, hget, renB, bdB, gAt_zero] <;> omega)) ?_
  intro k hk
  have hct := gC_take (c := List.length) l k
  have hat : gAt List.length q l k = q + (gC List.length (l.take k) : Int) := rfl
  simp only [over, wipe, wl, memN, ins, rm, if_true, if_false, Nat.reduceEqDiff, Bool.false_eq_true, reduceCtorEq]
  by_cases hlt : k < l.length
  · have hx0 := List.getElem?_eq_getElem hlt
    generalize l[k] = x at hx0
    have hct1 := gC_take (c := List.length) l (k + 1)
    have hcs := gC_succ (c := List.length) hx0
    have hx := gMk_get (f := mkLs) (c := List.length) (q := q) hx0
    have hsu := gAt_succ (c := List.length) (q := q) hx0
    generalize hq : gAt List.length q l k = r at hat hsu hx
    have h2 := heldIntS_ok r x.length (by omega) (by omega)
    repeat' (first | ((with_reducible first | (refine hK _ ?_; clear hK K) | refine stq fun K' hK' => ?_ | refine stc ?_); try simp only [go_sem, hll, hlt, List.getElem?_map, hx, Option.map_some, mkLs, datL, hq]) | (with_reducible first | refine stp ?_ | (refine hK' _ ?_; clear hK' K') | refine kN kl31 fun K hK => ?_ | refine kO fun K hK => ?_) | ((with_reducible apply CallK.eq); (· with_reducible first | exact h2); (· simp [RV.flat, D.sc, datI]); try simp only [go_sem, hll, hlt, List.getElem?_map, hx, Option.map_some, mkLs, datL, hq]) | refine iB ?_ | (with_reducible refine pK_mk ?_ ?_ <;> (intro hc; (try simp only [go_sem, hll, hlt, List.getElem?_map, hx, Option.map_some, mkLs, datL, hq]); (try simp at hc); try (exfalso; omega))) | with_reducible refine And.intro (by first | omega | (unfold inI; omega)) ?_)
    all_goals first
      | (exfalso; omega)
      | exact ⟨k + 1, by omega, by omega, (fits_mk [] (by simp [renL_d, bdL_d, sg, over, wipe, wl, memN, ins, rm, lk, fitFr, fit1, ren, renL, bd, bdL, app, fitHp, hget, renB, bdB, hsu] <;> omega))⟩
  · repeat' (first | ((with_reducible first | (refine hK _ ?_; clear hK K) | refine stq fun K' hK' => ?_ | refine stc ?_); try simp only [go_sem, hll]) | (with_reducible first | refine stp ?_ | (refine hK' _ ?_; clear hK' K') | refine kN kl31 fun K hK => ?_ | refine kO fun K hK => ?_) | refine iB ?_ | (with_reducible refine pK_mk ?_ ?_ <;> (intro hc; (try simp only [go_sem, hll]); (try simp at hc); try (exfalso; omega))) | with_reducible refine And.intro (by first | omega | (unfold inI; omega)) ?_)
    refine retQ_ret rfl rfl (by simp [rowsOf, lk]) ?_; rw [show k = l.length by omega, gAt_end]
def wMk (m : MarksD) : Nat := gC List.length m.grades + gC List.length m.components
def wPf (p : PerfD) : Nat := gC szM p.items + wMk p.marks
theorem markMarks_ok (m : MarksD) (q : Int) (hk : 0 ≤ q) (hl1 : m.grades.length ≤ 1048576) (hl2 : m.components.length ≤ 1048576) (hb : q + (wMk m : Int) ≤ 1099511627776) : FnW Tryz.prog 89 [.r 1 (m.grades.map (datL 1 datI)), .r 1 (m.components.map (datL 1 datI))] [.int .i64 q] [.int .i64 (q + (wMk m : Int))] := by
  have hw : wMk m = gC List.length m.grades + gC List.length m.components := rfl
  refine fn_okW G_ok Tryz.func89 rfl rfl (by simp [D.sc]) (by simp [D.sc]) fun T => ?_; simp only [Tryz.ntmps89, List.length_cons, List.length_nil, Nat.reduceAdd, Nat.reduceSub, List.map_cons, List.map_nil, List.length_map, cwP, cwH, Nat.zero_add, enm]
  repeat' (first | ((with_reducible first | (refine hK _ ?_; clear hK K) | refine stq fun K' hK' => ?_ | refine stc ?_); try simp only [go_sem]) | (with_reducible first | refine stp ?_ | (refine hK' _ ?_; clear hK' K') | refine kN kl89 fun K hK => ?_ | refine kO fun K hK => ?_) | (with_reducible refine pK_mk ?_ ?_ <;> (intro hc; (try simp only [go_sem]); (try simp at hc); try (exfalso; omega))) | with_reducible refine And.intro (by first | omega | (unfold inI; omega)) ?_)
  refine CallK.po (po_callM rfl rfl rfl rfl rfl (by simp [D.sc]) (by simp [D.sc]) rfl (by simp) (markIntSS_ok m.grades q (by omega) (by omega) (by omega)) ?_)
  repeat' (first | ((with_reducible first | (refine hK _ ?_; clear hK K) | refine stq fun K' hK' => ?_ | refine stc ?_); try simp only [go_sem]) | (with_reducible first | refine stp ?_ | (refine hK' _ ?_; clear hK' K') | refine kN kl89 fun K hK => ?_ | refine kO fun K hK => ?_) | (with_reducible refine pK_mk ?_ ?_ <;> (intro hc; (try simp only [go_sem]); (try simp at hc); try (exfalso; omega))) | with_reducible refine And.intro (by first | omega | (unfold inI; omega)) ?_)
  refine CallK.po (po_callM rfl rfl rfl rfl rfl (by simp [D.sc]) (by simp [D.sc]) rfl (by simp) (markIntSS_ok m.components (q + (gC List.length m.grades : Int)) (by omega) (by omega) (by omega)) ?_)
  repeat' (first | ((with_reducible first | (refine hK _ ?_; clear hK K) | refine stq fun K' hK' => ?_ | refine stc ?_); try simp only [go_sem]) | (with_reducible first | refine stp ?_ | (refine hK' _ ?_; clear hK' K') | refine kN kl89 fun K hK => ?_ | refine kO fun K hK => ?_) | (with_reducible refine pK_mk ?_ ?_ <;> (intro hc; (try simp only [go_sem]); (try simp at hc); try (exfalso; omega))) | with_reducible refine And.intro (by first | omega | (unfold inI; omega)) ?_)
  show some _ = some _
  simp only [go_sem, hw, List.map_cons, List.map_nil, Int.natCast_add, Int.add_assoc]
theorem markPerformance_ok (p : PerfD) (q : Int) (hk : 0 ≤ q) (hpf : PfFit 1048576 p) (hb : q + (wPf p : Int) ≤ 1099511627776) : FnW Tryz.prog 29 [.r 3 (p.items.map ItemD.dat), .r 1 (p.marks.grades.map (datL 1 datI)), .r 1 (p.marks.components.map (datL 1 datI)), .s (.int .i64 p.slips.falls), .s (.int .i64 p.slips.seconds), .s (.int .i64 p.slips.other)] [.int .i64 q] [.int .i64 (q + (wPf p : Int))] := by
  have hw : wPf p = gC szM p.items + wMk p.marks := rfl
  refine fn_okW G_ok Tryz.func29 rfl rfl (by simp [D.sc]) (by simp [D.sc]) fun T => ?_; simp only [Tryz.ntmps29, List.length_cons, List.length_nil, Nat.reduceAdd, Nat.reduceSub, List.map_cons, List.map_nil, List.length_map, cwP, cwH, Nat.zero_add, enm]
  repeat' (first | ((with_reducible first | (refine hK _ ?_; clear hK K) | refine stq fun K' hK' => ?_ | refine stc ?_); try simp only [go_sem]) | (with_reducible first | refine stp ?_ | (refine hK' _ ?_; clear hK' K') | refine kN kl29 fun K hK => ?_ | refine kO fun K hK => ?_) | (with_reducible refine pK_mk ?_ ?_ <;> (intro hc; (try simp only [go_sem]); (try simp at hc); try (exfalso; omega))) | with_reducible refine And.intro (by first | omega | (unfold inI; omega)) ?_)
  refine CallK.po (po_callM rfl rfl rfl rfl rfl (by simp [D.sc]) (by simp [D.sc]) rfl (by simp) (markItemS_ok p.items q (by omega) (by omega)) ?_)
  repeat' (first | ((with_reducible first | (refine hK _ ?_; clear hK K) | refine stq fun K' hK' => ?_ | refine stc ?_); try simp only [go_sem]) | (with_reducible first | refine stp ?_ | (refine hK' _ ?_; clear hK' K') | refine kN kl29 fun K hK => ?_ | refine kO fun K hK => ?_) | (with_reducible refine pK_mk ?_ ?_ <;> (intro hc; (try simp only [go_sem]); (try simp at hc); try (exfalso; omega))) | with_reducible refine And.intro (by first | omega | (unfold inI; omega)) ?_)
  refine CallK.po (po_callW rfl rfl rfl rfl rfl (by simp [D.sc]) (by simp [D.sc]) (cs := [.r 1 (p.marks.grades.map (datL 1 datI)), .r 1 (p.marks.components.map (datL 1 datI))]) ?_ (by simp [rowIds]) (markMarks_ok p.marks (q + (gC szM p.items : Int)) (by omega) hpf.2.1.1 hpf.2.2.1 (by omega)) ?_)
  · exact ⟨⟨by simp, .inl ⟨_, _, rfl⟩⟩, ⟨by simp, .inl ⟨_, _, rfl⟩⟩, trivial⟩
  repeat' (first | ((with_reducible first | (refine hK _ ?_; clear hK K) | refine stq fun K' hK' => ?_ | refine stc ?_); try simp only [go_sem]) | (with_reducible first | refine stp ?_ | (refine hK' _ ?_; clear hK' K') | refine kN kl29 fun K hK => ?_ | refine kO fun K hK => ?_) | (with_reducible refine pK_mk ?_ ?_ <;> (intro hc; (try simp only [go_sem]); (try simp at hc); try (exfalso; omega))) | with_reducible refine And.intro (by first | omega | (unfold inI; omega)) ?_)
  show some _ = some _
  simp only [go_sem, hw, List.map_cons, List.map_nil, Int.natCast_add, Int.add_assoc]
theorem markCode_ok (c : CodeD) (q : Int) (hk : 0 ≤ q) (hcf : CdFit 1048576 c) (hb : q + 4 * (c.elements.length : Int) + (c.limits.length : Int) ≤ 1099511627776) : FnW Tryz.prog 28 [.r 4 (c.elements.map ElementD.dat), .r 1 (c.limits.map datI), .s (.int .i64 c.repeats), .s (.int .i64 c.bonus), .s (.int .i64 c.keeps), .s (.int .i64 c.fall)] [.int .i64 q] [.int .i64 (q + 4 * (c.elements.length : Int) + (c.limits.length : Int))] := by
  have hat : nAtElement q c.elements.length = q + 4 * (c.elements.length : Int) := rfl
  refine fn_okW G_ok Tryz.func28 rfl rfl (by simp [D.sc]) (by simp [D.sc]) fun T => ?_; simp only [Tryz.ntmps28, List.length_cons, List.length_nil, Nat.reduceAdd, Nat.reduceSub, List.map_cons, List.map_nil, List.length_map, cwP, cwH, Nat.zero_add, enm]
  repeat' (first | ((with_reducible first | (refine hK _ ?_; clear hK K) | refine stq fun K' hK' => ?_ | refine stc ?_); try simp only [go_sem]) | (with_reducible first | refine stp ?_ | (refine hK' _ ?_; clear hK' K') | refine kN kl28 fun K hK => ?_ | refine kO fun K hK => ?_) | (with_reducible refine pK_mk ?_ ?_ <;> (intro hc; (try simp only [go_sem]); (try simp at hc); try (exfalso; omega))) | with_reducible refine And.intro (by first | omega | (unfold inI; omega)) ?_)
  refine CallK.po (po_callM rfl rfl rfl rfl rfl (by simp [D.sc]) (by simp [D.sc]) rfl (by simp) (markElementS_ok c.elements q (by omega) (by omega)) ?_)
  repeat' (first | ((with_reducible first | (refine hK _ ?_; clear hK K) | refine stq fun K' hK' => ?_ | refine stc ?_); try simp only [go_sem]) | (with_reducible first | refine stp ?_ | (refine hK' _ ?_; clear hK' K') | refine kN kl28 fun K hK => ?_ | refine kO fun K hK => ?_) | (with_reducible refine pK_mk ?_ ?_ <;> (intro hc; (try simp only [go_sem]); (try simp at hc); try (exfalso; omega))) | with_reducible refine And.intro (by first | omega | (unfold inI; omega)) ?_)
  refine CallK.po (po_callM rfl rfl rfl rfl rfl (by simp [D.sc]) (by simp [D.sc]) rfl (by simp) (markIntS_ok c.limits (nAtElement q c.elements.length) (by omega) (by omega)) ?_)
  repeat' (first | ((with_reducible first | (refine hK _ ?_; clear hK K) | refine stq fun K' hK' => ?_ | refine stc ?_); try simp only [go_sem]) | (with_reducible first | refine stp ?_ | (refine hK' _ ?_; clear hK' K') | refine kN kl28 fun K hK => ?_ | refine kO fun K hK => ?_) | (with_reducible refine pK_mk ?_ ?_ <;> (intro hc; (try simp only [go_sem]); (try simp at hc); try (exfalso; omega))) | with_reducible refine And.intro (by first | omega | (unfold inI; omega)) ?_)
  show some _ = some _
  simp only [go_sem, hat, List.map_cons, List.map_nil]
end Go.Proofs.YtphakidbddamfaaGreat
