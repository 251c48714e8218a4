/-
  The inquiries that win: the program's function and the reference's, in the abstract machine.
-/
import Derived.Test.YtphakidbddamfaaGreatZMh
set_option linter.unusedSimpArgs false
set_option linter.unusedVariables false
set_option maxHeartbeats 2000000
set_option maxRecDepth 100000
namespace Go.Proofs.YtphakidbddamfaaGreat
open Go.RowKit

/-- the row of all calls, those that were taken out of it left as holes -/
def wH (c : CodeD) (a b : PerfD) (f : Int) (w : List (List Int)) (k : Nat) : List (List D) := ((w.take k).map fun x => if winP c a b f x = true then [D.hole] else datL 1 datI x) ++ (w.drop k).map (datL 1 datI)
theorem wH_zero (c : CodeD) (a b : PerfD) (f : Int) (w : List (List Int)) : wH c a b f w 0 = w.map (datL 1 datI) := by simp [wH]
theorem wH_len (c : CodeD) (a b : PerfD) (f : Int) {w : List (List Int)} {k : Nat} (hk : k ≤ w.length) : (wH c a b f w k).length = w.length := by simp [wH]; omega
theorem wH_get (c : CodeD) (a b : PerfD) (f : Int) {w : List (List Int)} {k : Nat} {x : List Int} (hx : w[k]? = some x) : (wH c a b f w k)[k]? = some (datL 1 datI x) := by
  have hk := (List.getElem?_eq_some_iff.1 hx).1
  unfold wH
  rw [List.getElem?_append_right (by simp; omega)]
  simp [hx, Nat.min_eq_left (Nat.le_of_lt hk)]
theorem wH_split (c : CodeD) (a b : PerfD) (f : Int) {w : List (List Int)} {k : Nat} {x : List Int} (hx : w[k]? = some x) : wH c a b f w (k + 1) = ((w.take k).map fun x => if winP c a b f x = true then [D.hole] else datL 1 datI x) ++ (if winP c a b f x = true then [D.hole] else datL 1 datI x) :: (w.drop (k + 1)).map (datL 1 datI) := by
  unfold wH; rw [take_snoc hx]; simp
theorem wH_here (c : CodeD) (a b : PerfD) (f : Int) {w : List (List Int)} {k : Nat} {x : List Int} (hx : w[k]? = some x) : wH c a b f w k = ((w.take k).map fun x => if winP c a b f x = true then [D.hole] else datL 1 datI x) ++ datL 1 datI x :: (w.drop (k + 1)).map (datL 1 datI) := by
  have hk := (List.getElem?_eq_some_iff.1 hx).1
  have e : w[k] = x := by rw [List.getElem?_eq_getElem hk] at hx; exact Option.some.inj hx
  unfold wH; rw [List.drop_eq_getElem_cons hk, e]; rfl
theorem wH_yes {c : CodeD} {a b : PerfD} {f : Int} {w : List (List Int)} {k : Nat} {x : List Int} (hx : w[k]? = some x) (h : winP c a b f x = true) : (wH c a b f w k).set k [.hole] = wH c a b f w (k + 1) := by
  have hk := (List.getElem?_eq_some_iff.1 hx).1
  rw [wH_here c a b f hx, wH_split c a b f hx, if_pos h, List.set_append_right _ _ (by simp; omega)]
  simp [Nat.min_eq_left (Nat.le_of_lt hk)]
theorem wH_no {c : CodeD} {a b : PerfD} {f : Int} {w : List (List Int)} {k : Nat} {x : List Int} (hx : w[k]? = some x) (h : winP c a b f x = false) : wH c a b f w (k + 1) = wH c a b f w k := by
  rw [wH_here c a b f hx, wH_split c a b f hx, if_neg (by rw [h]; simp)]
theorem impl_Winning_no (c : CodeD) (a b : PerfD) (f : Int) (hcf : CdFit 1048576 c) (haf : PfFit 1048576 a) (hbf : PfFit 1048576 b) (hA : ¬ (AskP c a f ∧ AskP c b f)) : FnEq Tryz.prog 26 [.agg c.cs, .agg a.cs, .agg b.cs, .d (.int .i64 f)] [.row 23 1 [], .d (.bool false)] := by
  have hs0 := canScore_ok c a f hcf haf
  have hs1 := canScore_ok c b f hcf hbf
  refine fn_ok G_ok Tryz.func26 rfl rfl ?_; simp only [Tryz.ntmps26, List.length_cons, List.length_nil, Nat.reduceAdd, Nat.reduceSub, enm]
  by_cases h1 : AskP c a f
  · have hb1 := bP_true h1
    have hb2 := bP_false fun h2 : AskP c b f => hA ⟨h1, h2⟩
    rw [hb1] at hs0
    rw [hb2] at hs1
    repeat' (first | ((with_reducible first | (refine hK _ ?_; clear hK K) | refine stq fun K' hK' => ?_ | refine stc ?_); try simp only [go_sem]) | (with_reducible first | refine stp ?_ | (refine hK' _ ?_; clear hK' K') | refine kN kl26 fun K hK => ?_ | refine kO fun K hK => ?_) | (refine xS rfl fun K' hK' => ?_; simp only [go_sem]) | ((with_reducible apply CallK.eq); (· with_reducible first | exact hs0 | exact hs1); (· simp [RV.flat, D.sc, datI]); try simp only [go_sem]) | refine iB ?_ | (with_reducible refine pK_mk ?_ ?_ <;> (intro hc; (try simp only [go_sem]); (try simp at hc); try (exfalso; omega))) | with_reducible refine And.intro (by first | omega | (unfold inI; omega)) ?_)
    all_goals first
      | (exfalso; omega)
      | (refine retQ_ret rfl (by simp only [retL, ret1, hget, lk, List.length_map, List.length_nil, List.length_append, List.length_take, if_true, if_false, Nat.reduceEqDiff, Nat.reduceBEq, Bool.false_eq_true, Option.some.injEq]; rfl) (by simp [rowsOf, lk]) ?_; rfl)
  · have hb1 := bP_false h1
    rw [hb1] at hs0
    repeat' (first | ((with_reducible first | (refine hK _ ?_; clear hK K) | refine stq fun K' hK' => ?_ | refine stc ?_); try simp only [go_sem]) | (with_reducible first | refine stp ?_ | (refine hK' _ ?_; clear hK' K') | refine kN kl26 fun K hK => ?_ | refine kO fun K hK => ?_) | (refine xS rfl fun K' hK' => ?_; simp only [go_sem]) | ((with_reducible apply CallK.eq); (· with_reducible first | exact hs0 | exact hs1); (· simp [RV.flat, D.sc, datI]); try simp only [go_sem]) | refine iB ?_ | (with_reducible refine pK_mk ?_ ?_ <;> (intro hc; (try simp only [go_sem]); (try simp at hc); try (exfalso; omega))) | with_reducible refine And.intro (by first | omega | (unfold inI; omega)) ?_)
    all_goals first
      | (exfalso; omega)
      | (refine retQ_ret rfl (by simp only [retL, ret1, hget, lk, List.length_map, List.length_nil, List.length_append, List.length_take, if_true, if_false, Nat.reduceEqDiff, Nat.reduceBEq, Bool.false_eq_true, Option.some.injEq]; rfl) (by simp [rowsOf, lk]) ?_; rfl)
theorem impl_Winning_yes (c : CodeD) (a b : PerfD) (f : Int) (hcf : CdFit 1048576 c) (haf : PfFit 1048576 a) (hbf : PfFit 1048576 b) (hA : AskP c a f ∧ AskP c b f) : FnEq Tryz.prog 26 [.agg c.cs, .agg a.cs, .agg b.cs, .d (.int .i64 f)] [.deep 23 1 ((winW c a b f).map (datL 1 datI)), .d (.bool true)] := by
  have hs0 := canScore_ok c a f hcf haf
  have hs0b := canScore_ok c b f hcf hbf
  rw [bP_true hA.1] at hs0
  rw [bP_true hA.2] at hs0b
  have hs2b := segmentScore_ok c b f hA.2
  have hv := hA.1.1.2.1
  have ho := otherCalls_ok a.items hv
  have hlen := callsW_len hv
  have hmem : ∀ x ∈ callsW a.items, ∃ i k m : Int, x = [i, k, m] ∧ HasNm a.items i k ∧ 0 ≤ m ∧ m ≤ 3 := fun x hx => (callsW_mem hx).nm hv
  have hww : winW c a b f = winTo c a b f (callsW a.items) (callsW a.items).length := rfl
  rw [hww]
  generalize callsW a.items = w at ho hlen hmem
  refine fn_ok G_ok Tryz.func26 rfl rfl ?_; simp only [Tryz.ntmps26, List.length_cons, List.length_nil, Nat.reduceAdd, Nat.reduceSub, enm]
  repeat' (first | ((with_reducible first | (refine hK _ ?_; clear hK K) | refine stq fun K' hK' => ?_ | refine stc ?_); try simp only [go_sem]) | (with_reducible first | refine stp ?_ | (refine hK' _ ?_; clear hK' K') | refine kN kl26 fun K hK => ?_ | refine kO fun K hK => ?_) | (refine xS rfl fun K' hK' => ?_; simp only [go_sem]) | ((with_reducible apply CallK.eq); (· with_reducible first | exact hs0 | exact hs0b | exact hs2b | exact ho); (· simp [RV.flat, D.sc, datI]); try simp only [go_sem]) | refine iB ?_ | (with_reducible refine pK_mk ?_ ?_ <;> (intro hc; (try simp only [go_sem]); (try simp at hc); try (exfalso; omega))) | with_reducible refine And.intro (by first | omega | (unfold inI; omega)) ?_)
  all_goals first
    | (exfalso; omega)
    | skip
  refine pw_deepen 6 rfl (fun _ h => by cases h) ?_
  simp only [go_sem]
  refine pw_loop_over [8, 9, 10, 13, 35, 36, 37, 38, 39, 40, 41, 42, 43, 44, 45, 46, 47, 48, 49, 50, 51, 52, 53, 54, 55, 56, 57, 58, 59, 60, 61] (fun k : Nat => [(35, .d (.int .i64 (k : Int))), (10, .row 1 (winTo c a b f w k).length), (33, .row 0 w.length), (26, .und), (4, .bptr 2 0), (5, .bptr 3 0), (6, .bptr 4 0)]) (fun k => [(0, .deep 0 23 1 (wH c a b f w k)), (1, .deep 0 23 1 ((winTo c a b f w k).map (datL 1 datI))), (2, .box 42 c.cs), (3, .box 48 a.cs), (4, .box 48 b.cs)]) 5 (fun k => k ≤ w.length) (fun k => w.length - k) 0 (Nat.zero_le _) (fits_mk [] (by simp [renL_d, bdL_d, sg, over, wipe, wl, memN, ins, rm, lk, fitFr, fit1, ren, renL, bd, bdL, app, fitHp, hget, renB, bdB, winTo_zero, wH_zero] <;> omega)) ?_
  intro k hk; simp only [over, wipe, wl, memN, ins, rm, if_true, if_false, Nat.reduceEqDiff, Bool.false_eq_true, reduceCtorEq]
  have ht1 : Int.toNat 1 = 1 := rfl
  have ht2 : Int.toNat 2 = 2 := rfl
  have hwl := wH_len c a b f hk
  have hwt := winTo_len c a b f w k
  by_cases hlt : k < w.length
  · have hx := List.getElem?_eq_getElem hlt
    have hxm := List.getElem_mem hlt
    generalize w[k] = x at hx hxm
    obtain ⟨i, n, m, rfl, hN, hm1, hm2⟩ := hmem x hxm
    have hg := wH_get c a b f hx
    have hsc : scW c a f [i, n, m] = segW c (withI a (stepI a.items (oneI i n m))) f := rfl
    have hc1 := eq_dataI (withCall_ok a.items i n m haf.1.1 haf.1.2 hv hN)
    simp only [List.map_cons, List.map_nil, RV.data] at hc1
    have hs1 := scoreWith_ok c a f _ (ask_one (i := i) (k := n) hA.1 hm1 hm2)
    generalize segW c (withI a (stepI a.items (oneI i n m))) f = v at hs1 hsc
    by_cases hgt : segW c b f < v
    · have hwin : segW c b f < scW c a f [i, n, m] := by rw [hsc]; exact hgt
      have hto := winTo_yes hx hwin
      have hH := wH_yes hx (show winP c a b f [i, n, m] = true from decide_eq_true hwin)
      have hsl : setC (wH c a b f w k) k 0 .hole = wH c a b f w (k + 1) := by rw [← hH]; unfold setC; rw [hg]; rfl
      repeat' (first | ((with_reducible first | (refine hK _ ?_; clear hK K) | refine stq fun K' hK' => ?_ | refine stc ?_); try simp only [go_sem, List.getElem?_map, hg, Option.map_some, datL, datI, hlt, hwl, List.map_cons, List.map_nil]) | (with_reducible first | refine stp ?_ | (refine hK' _ ?_; clear hK' K') | refine kN kl26 fun K hK => ?_ | refine kO fun K hK => ?_) | (refine xS rfl fun K' hK' => ?_; simp only [go_sem, List.getElem?_map, hg, Option.map_some, datL, datI, hlt, hwl, List.map_cons, List.map_nil]) | refine iB ?_ | (with_reducible refine pK_mk ?_ ?_ <;> (intro hc; (try simp only [go_sem, List.getElem?_map, hg, Option.map_some, datL, datI, hlt, hwl, List.map_cons, List.map_nil]); (try simp at hc); try (exfalso; omega))) | with_reducible refine And.intro (by first | omega | (unfold inI; omega)) ?_)
      refine pw_seq_grow kl26 mixed [[4], [5], [3], [5], [42], [13], [44], [45], [13], [47], [48], [13], [50], [51], [43, 46, 49, 52], [39, 40, 41, 53], [11], [54, 55]] 63 rfl (by decide +kernel) (fun K hK => ?_)
      repeat (first | (apply grow_call rfl rfl; (· simp only [go_sem, restr, Nat.zero_add, Int.toNat_natCast, Nat.mul_one, datI, datL, ht1, ht2, hg, hwl, hlt, List.map_cons, List.map_nil]; with_reducible first | exact hc1 | exact hs1); (· first | rfl | simp [restr, AS.get, lk, rf2, rf1, rf0]); try simp only [go_sem, restr, Nat.zero_add, Int.toNat_natCast, Nat.mul_one, datI, datL, ht1, ht2, hg, hwl, hlt, List.map_cons, List.map_nil]) | (apply grow_callA rfl rfl; (· simp only [go_sem, restr, Nat.zero_add, Int.toNat_natCast, Nat.mul_one, datI, datL, ht1, ht2, hg, hwl, hlt, List.map_cons, List.map_nil]; with_reducible first | exact hc1 | exact hs1); (· first | rfl | simp [restr, AS.get, lk, rf2, rf1, rf0]); try simp only [go_sem, restr, Nat.zero_add, Int.toNat_natCast, Nat.mul_one, datI, datL, ht1, ht2, hg, hwl, hlt, List.map_cons, List.map_nil]) | (apply grow_callT (ds := []) rfl rfl; (· simp only [go_sem, restr, Nat.zero_add, Int.toNat_natCast, Nat.mul_one, datI, datL, ht1, ht2, hg, hwl, hlt, List.map_cons, List.map_nil]; with_reducible first | exact hc1 | exact hs1); (· first | rfl | simp [restr, AS.get, lk, rf2, rf1, rf0]); try simp only [go_sem, restr, Nat.zero_add, Int.toNat_natCast, Nat.mul_one, datI, datL, ht1, ht2, hg, hwl, hlt, List.map_cons, List.map_nil]) | (refine grow_quiet G_ok fun KP hKP => ?_; simp only [go_sem, restr, Nat.zero_add, Int.toNat_natCast, Nat.mul_one, datI, datL, ht1, ht2, hg, hwl, hlt, List.map_cons, List.map_nil]; repeat (first | (with_reducible refine hKP _ ?_; clear hKP KP) | ((with_reducible apply CallQ.eqs); (· with_reducible first | exact hc1 | exact hs1); (· first | exact rfl | (simp [RV.flat, D.sc, datI]; done)); try simp only [go_sem, restr, Nat.zero_add, Int.toNat_natCast, Nat.mul_one, datI, datL, ht1, ht2, hg, hwl, hlt, List.map_cons, List.map_nil]) | with_reducible refine And.intro (by first | omega | (unfold inI; omega)) ?_ | (with_reducible refine pK_mk ?_ ?_ <;> (intro hc; (try simp only [go_sem, restr, Nat.zero_add, Int.toNat_natCast, Nat.mul_one, datI, datL, ht1, ht2, hg, hwl, hlt, List.map_cons, List.map_nil]); (try simp at hc); try (exfalso; omega)))); try simp only [go_sem, restr, Nat.zero_add, Int.toNat_natCast, Nat.mul_one, datI, datL, ht1, ht2, hg, hwl, hlt, List.map_cons, List.map_nil]))
      refine grow_nil ?_
      refine hK _ ?_
      clear hK K
      try simp only [go_sem, restr, Nat.zero_add, Int.toNat_natCast, Nat.mul_one, datI, datL, ht1, ht2, hg, hwl, hlt, List.map_cons, List.map_nil]
      repeat' (first | ((with_reducible first | (refine hK _ ?_; clear hK K) | refine stq fun K' hK' => ?_ | refine stc ?_); try simp only [go_sem, hgt]) | (with_reducible first | refine stp ?_ | (refine hK' _ ?_; clear hK' K') | refine kN kl26 fun K hK => ?_ | refine kO fun K hK => ?_) | (refine xS rfl fun K' hK' => ?_; simp only [go_sem, hgt]) | refine iB ?_ | (with_reducible refine pK_mk ?_ ?_ <;> (intro hc; (try simp only [go_sem, hgt]); (try simp at hc); try (exfalso; omega))) | with_reducible refine And.intro (by first | omega | (unfold inI; omega)) ?_)
      all_goals first
        | (exfalso; omega)
        | skip
      refine po_take (id := 5) (par := 0) (k := k) (j := 0) rfl rfl (show alC _ _ _ = some (1, [i, n, m].map datI) by simp [alC, hg, datL]) (by simp [soleAl]) fun ty2 => ?_
      simp only [hset, hsl, if_true, if_false, Nat.reduceEqDiff, reduceCtorEq, Nat.zero_ne_one]
      refine po_buildSlice_deep (cs := [.row 5 3]) (ds := datL 1 datI [i, n, m]) rfl (G_ok _ _ G27) (by decide) rfl (by simp [ownL, ownC, hget, D.scB, datL, datI]) (by simp [rowIds]) (by simp only [flatL, flatC, hget, if_true, if_false, Nat.reduceEqDiff]; exact ⟨trivial, trivial⟩) ?_
      repeat' (first | ((with_reducible first | (refine hK _ ?_; clear hK K) | refine stq fun K' hK' => ?_ | refine stc ?_); try simp only [go_sem, datL]) | (with_reducible first | refine stp ?_ | (refine hK' _ ?_; clear hK' K') | refine kN kl26 fun K hK => ?_ | refine kO fun K hK => ?_) | (refine xS rfl fun K' hK' => ?_; simp only [go_sem, datL]) | refine iB ?_ | (with_reducible refine pK_mk ?_ ?_ <;> (intro hc; (try simp only [go_sem, datL]); (try simp at hc); try (exfalso; omega))) | with_reducible refine And.intro (by first | omega | (unfold inI; omega)) ?_)
      refine po_append_deep (es := (winTo c a b f w k).map (datL 1 datI)) (fs := [datL 1 datI [i, n, m]]) (n := (winTo c a b f w k).length) (n2 := 1) rfl (G_ok _ _ G27) rfl rfl rfl rfl (by decide) (by simp) rfl (by exact True.intro) (by exact True.intro) (by simp <;> omega) ?_
      repeat' (first | ((with_reducible first | (refine hK _ ?_; clear hK K) | refine stq fun K' hK' => ?_ | refine stc ?_); try simp only [go_sem, datL]) | (with_reducible first | refine stp ?_ | (refine hK' _ ?_; clear hK' K') | refine kN kl26 fun K hK => ?_ | refine kO fun K hK => ?_) | (refine xS rfl fun K' hK' => ?_; simp only [go_sem, datL]) | refine iB ?_ | (with_reducible refine pK_mk ?_ ?_ <;> (intro hc; (try simp only [go_sem, datL]); (try simp at hc); try (exfalso; omega))) | with_reducible refine And.intro (by first | omega | (unfold inI; omega)) ?_)
      exact ⟨k + 1, by omega, by omega, (fits_mk [] (by simp [renL_d, bdL_d, sg, over, wipe, wl, memN, ins, rm, lk, fitFr, fit1, ren, renL, bd, bdL, app, fitHp, hget, renB, bdB, hto, datL] <;> omega))⟩
    · have hno : ¬ segW c b f < scW c a f [i, n, m] := by rw [hsc]; exact hgt
      have hto := winTo_no hx hno
      have hH := wH_no hx (show winP c a b f [i, n, m] = false from decide_eq_false hno)
      repeat' (first | ((with_reducible first | (refine hK _ ?_; clear hK K) | refine stq fun K' hK' => ?_ | refine stc ?_); try simp only [go_sem, List.getElem?_map, hg, Option.map_some, datL, datI, hlt, hwl, List.map_cons, List.map_nil]) | (with_reducible first | refine stp ?_ | (refine hK' _ ?_; clear hK' K') | refine kN kl26 fun K hK => ?_ | refine kO fun K hK => ?_) | (refine xS rfl fun K' hK' => ?_; simp only [go_sem, List.getElem?_map, hg, Option.map_some, datL, datI, hlt, hwl, List.map_cons, List.map_nil]) | refine iB ?_ | (with_reducible refine pK_mk ?_ ?_ <;> (intro hc; (try simp only [go_sem, List.getElem?_map, hg, Option.map_some, datL, datI, hlt, hwl, List.map_cons, List.map_nil]); (try simp at hc); try (exfalso; omega))) | with_reducible refine And.intro (by first | omega | (unfold inI; omega)) ?_)
      refine pw_seq_grow kl26 mixed [[4], [5], [3], [5], [42], [13], [44], [45], [13], [47], [48], [13], [50], [51], [43, 46, 49, 52], [39, 40, 41, 53], [11], [54, 55]] 63 rfl (by decide +kernel) (fun K hK => ?_)
      repeat (first | (apply grow_call rfl rfl; (· simp only [go_sem, restr, Nat.zero_add, Int.toNat_natCast, Nat.mul_one, datI, datL, ht1, ht2, hg, hwl, hlt, List.map_cons, List.map_nil]; with_reducible first | exact hc1 | exact hs1); (· first | rfl | simp [restr, AS.get, lk, rf2, rf1, rf0]); try simp only [go_sem, restr, Nat.zero_add, Int.toNat_natCast, Nat.mul_one, datI, datL, ht1, ht2, hg, hwl, hlt, List.map_cons, List.map_nil]) | (apply grow_callA rfl rfl; (· simp only [go_sem, restr, Nat.zero_add, Int.toNat_natCast, Nat.mul_one, datI, datL, ht1, ht2, hg, hwl, hlt, List.map_cons, List.map_nil]; with_reducible first | exact hc1 | exact hs1); (· first | rfl | simp [restr, AS.get, lk, rf2, rf1, rf0]); try simp only [go_sem, restr, Nat.zero_add, Int.toNat_natCast, Nat.mul_one, datI, datL, ht1, ht2, hg, hwl, hlt, List.map_cons, List.map_nil]) | (apply grow_callT (ds := []) rfl rfl; (· simp only [go_sem, restr, Nat.zero_add, Int.toNat_natCast, Nat.mul_one, datI, datL, ht1, ht2, hg, hwl, hlt, List.map_cons, List.map_nil]; with_reducible first | exact hc1 | exact hs1); (· first | rfl | simp [restr, AS.get, lk, rf2, rf1, rf0]); try simp only [go_sem, restr, Nat.zero_add, Int.toNat_natCast, Nat.mul_one, datI, datL, ht1, ht2, hg, hwl, hlt, List.map_cons, List.map_nil]) | (refine grow_quiet G_ok fun KP hKP => ?_; simp only [go_sem, restr, Nat.zero_add, Int.toNat_natCast, Nat.mul_one, datI, datL, ht1, ht2, hg, hwl, hlt, List.map_cons, List.map_nil]; repeat (first | (with_reducible refine hKP _ ?_; clear hKP KP) | ((with_reducible apply CallQ.eqs); (· with_reducible first | exact hc1 | exact hs1); (· first | exact rfl | (simp [RV.flat, D.sc, datI]; done)); try simp only [go_sem, restr, Nat.zero_add, Int.toNat_natCast, Nat.mul_one, datI, datL, ht1, ht2, hg, hwl, hlt, List.map_cons, List.map_nil]) | with_reducible refine And.intro (by first | omega | (unfold inI; omega)) ?_ | (with_reducible refine pK_mk ?_ ?_ <;> (intro hc; (try simp only [go_sem, restr, Nat.zero_add, Int.toNat_natCast, Nat.mul_one, datI, datL, ht1, ht2, hg, hwl, hlt, List.map_cons, List.map_nil]); (try simp at hc); try (exfalso; omega)))); try simp only [go_sem, restr, Nat.zero_add, Int.toNat_natCast, Nat.mul_one, datI, datL, ht1, ht2, hg, hwl, hlt, List.map_cons, List.map_nil]))
      refine grow_nil ?_
      refine hK _ ?_
      clear hK K
      try simp only [go_sem, restr, Nat.zero_add, Int.toNat_natCast, Nat.mul_one, datI, datL, ht1, ht2, hg, hwl, hlt, List.map_cons, List.map_nil]
      repeat' (first | ((with_reducible first | (refine hK _ ?_; clear hK K) | refine stq fun K' hK' => ?_ | refine stc ?_); try simp only [go_sem, hgt]) | (with_reducible first | refine stp ?_ | (refine hK' _ ?_; clear hK' K') | refine kN kl26 fun K hK => ?_ | refine kO fun K hK => ?_) | (refine xS rfl fun K' hK' => ?_; simp only [go_sem, hgt]) | refine iB ?_ | (with_reducible refine pK_mk ?_ ?_ <;> (intro hc; (try simp only [go_sem, hgt]); (try simp at hc); try (exfalso; omega))) | with_reducible refine And.intro (by first | omega | (unfold inI; omega)) ?_)
      all_goals first
        | (exfalso; omega)
        | exact ⟨k + 1, by omega, by omega, (fits_mk [] (by simp [renL_d, bdL_d, sg, over, wipe, wl, memN, ins, rm, lk, fitFr, fit1, ren, renL, bd, bdL, app, fitHp, hget, renB, bdB, hto, ← hH] <;> omega))⟩
  · obtain rfl : k = w.length := by omega
    repeat' (first | ((with_reducible first | (refine hK _ ?_; clear hK K) | refine stq fun K' hK' => ?_ | refine stc ?_); try simp only [go_sem]) | (with_reducible first | refine stp ?_ | (refine hK' _ ?_; clear hK' K') | refine kN kl26 fun K hK => ?_ | refine kO fun K hK => ?_) | (refine xS rfl fun K' hK' => ?_; simp only [go_sem]) | refine iB ?_ | (with_reducible refine pK_mk ?_ ?_ <;> (intro hc; (try simp only [go_sem]); (try simp at hc); try (exfalso; omega))) | with_reducible refine And.intro (by first | omega | (unfold inI; omega)) ?_)
    all_goals first
      | (exfalso; omega)
      | (refine retQ_ret rfl (by simp only [retL, ret1, hget, lk, List.length_map, List.length_nil, List.length_append, List.length_take, if_true, if_false, Nat.reduceEqDiff, Nat.reduceBEq, Bool.false_eq_true, Option.some.injEq]; rfl) (by simp [rowsOf, lk]) ?_; rfl)
theorem spec_Winning_no (c : CodeD) (a b : PerfD) (f : Int) (hcf : CdFit 1048576 c) (haf : PfFit 1048576 a) (hbf : PfFit 1048576 b) (hA : ¬ (AskP c a f ∧ AskP c b f)) : FnEq Tryz.prog 25 [.agg c.cs, .agg a.cs, .agg b.cs, .d (.int .i64 f)] [.row 23 1 [], .d (.bool false)] := by
  have hs0 := sgAsked_ok c a f hcf haf
  have hs1 := sgAsked_ok c b f hcf hbf
  refine fn_ok G_ok Tryz.func25 rfl rfl ?_; simp only [Tryz.ntmps25, List.length_cons, List.length_nil, Nat.reduceAdd, Nat.reduceSub, enm]
  by_cases h1 : AskP c a f
  · have hb1 := bP_true h1
    have hb2 := bP_false fun h2 : AskP c b f => hA ⟨h1, h2⟩
    rw [hb1] at hs0
    rw [hb2] at hs1
    repeat' (first | ((with_reducible first | (refine hK _ ?_; clear hK K) | refine stq fun K' hK' => ?_ | refine stc ?_); try simp only [go_sem]) | (with_reducible first | refine stp ?_ | (refine hK' _ ?_; clear hK' K') | refine kN kl25 fun K hK => ?_ | refine kO fun K hK => ?_) | (refine xS rfl fun K' hK' => ?_; simp only [go_sem]) | (refine qS rfl fun K' hK' => ?_; simp only [go_sem]) | ((with_reducible first | apply CallK.eq | apply CallQ.eqs); (· with_reducible first | exact hs0 | exact hs1); (· first | exact rfl | (simp [RV.flat, D.sc, datI]; done)); try simp only [go_sem]) | refine iB ?_ | (with_reducible refine pw_seq_drawK kl25 G_ok mixed (by kernel_rfl) (fun K hK => ?_)) | (with_reducible refine pw_draw G_ok mixed (by kernel_rfl) ?_) | (with_reducible refine pK_mk ?_ ?_ <;> (intro hc; (try simp only [go_sem]); (try simp at hc); try (exfalso; omega))) | with_reducible refine And.intro (by first | omega | (unfold inI; omega)) ?_)
    all_goals first
      | (exfalso; omega)
      | (refine retQ_ret rfl (by simp only [retL, ret1, hget, lk, List.length_map, List.length_nil, List.length_append, List.length_take, if_true, if_false, Nat.reduceEqDiff, Nat.reduceBEq, Bool.false_eq_true, Option.some.injEq]; rfl) (by simp [rowsOf, lk]) ?_; rfl)
  · have hb1 := bP_false h1
    rw [hb1] at hs0
    repeat' (first | ((with_reducible first | (refine hK _ ?_; clear hK K) | refine stq fun K' hK' => ?_ | refine stc ?_); try simp only [go_sem]) | (with_reducible first | refine stp ?_ | (refine hK' _ ?_; clear hK' K') | refine kN kl25 fun K hK => ?_ | refine kO fun K hK => ?_) | (refine xS rfl fun K' hK' => ?_; simp only [go_sem]) | (refine qS rfl fun K' hK' => ?_; simp only [go_sem]) | ((with_reducible first | apply CallK.eq | apply CallQ.eqs); (· with_reducible first | exact hs0 | exact hs1); (· first | exact rfl | (simp [RV.flat, D.sc, datI]; done)); try simp only [go_sem]) | refine iB ?_ | (with_reducible refine pw_seq_drawK kl25 G_ok mixed (by kernel_rfl) (fun K hK => ?_)) | (with_reducible refine pw_draw G_ok mixed (by kernel_rfl) ?_) | (with_reducible refine pK_mk ?_ ?_ <;> (intro hc; (try simp only [go_sem]); (try simp at hc); try (exfalso; omega))) | with_reducible refine And.intro (by first | omega | (unfold inI; omega)) ?_)
    all_goals first
      | (exfalso; omega)
      | (refine retQ_ret rfl (by simp only [retL, ret1, hget, lk, List.length_map, List.length_nil, List.length_append, List.length_take, if_true, if_false, Nat.reduceEqDiff, Nat.reduceBEq, Bool.false_eq_true, Option.some.injEq]; rfl) (by simp [rowsOf, lk]) ?_; rfl)
theorem spec_Winning_yes (c : CodeD) (a b : PerfD) (f : Int) (hcf : CdFit 1048576 c) (haf : PfFit 1048576 a) (hbf : PfFit 1048576 b) (hA : AskP c a f ∧ AskP c b f) : FnEq Tryz.prog 25 [.agg c.cs, .agg a.cs, .agg b.cs, .d (.int .i64 f)] [.deep 23 1 ((winW c a b f).map (datL 1 datI)), .d (.bool true)] := by
  have hs0 := sgAsked_ok c a f hcf haf
  have hs0b := sgAsked_ok c b f hcf hbf
  rw [bP_true hA.1] at hs0
  rw [bP_true hA.2] at hs0b
  have hs2b := sgScore_ok c b f hA.2
  have hv := hA.1.1.2.1
  have ho := iqAll_ok a.items hv
  have hlen := callsW_len hv
  have hmem : ∀ x ∈ callsW a.items, ∃ i k m : Int, x = [i, k, m] ∧ HasNm a.items i k ∧ 0 ≤ m ∧ m ≤ 3 := fun x hx => (callsW_mem hx).nm hv
  have hww : winW c a b f = winTo c a b f (callsW a.items) (callsW a.items).length := rfl
  rw [hww]
  generalize callsW a.items = w at ho hlen hmem
  refine fn_ok G_ok Tryz.func25 rfl rfl ?_; simp only [Tryz.ntmps25, List.length_cons, List.length_nil, Nat.reduceAdd, Nat.reduceSub, enm]
  repeat' (first | ((with_reducible first | (refine hK _ ?_; clear hK K) | refine stq fun K' hK' => ?_ | refine stc ?_); try simp only [go_sem]) | (with_reducible first | refine stp ?_ | (refine hK' _ ?_; clear hK' K') | refine kN kl25 fun K hK => ?_ | refine kO fun K hK => ?_) | (refine xS rfl fun K' hK' => ?_; simp only [go_sem]) | (refine qS rfl fun K' hK' => ?_; simp only [go_sem]) | ((with_reducible first | apply CallK.eq | apply CallQ.eqs); (· with_reducible first | exact hs0 | exact hs0b | exact hs2b | exact ho); (· first | exact rfl | (simp [RV.flat, D.sc, datI]; done)); try simp only [go_sem]) | refine iB ?_ | (with_reducible refine pw_seq_drawK kl25 G_ok mixed (by kernel_rfl) (fun K hK => ?_)) | (with_reducible refine pw_draw G_ok mixed (by kernel_rfl) ?_) | (with_reducible refine pK_mk ?_ ?_ <;> (intro hc; (try simp only [go_sem]); (try simp at hc); try (exfalso; omega))) | with_reducible refine And.intro (by first | omega | (unfold inI; omega)) ?_)
  all_goals first
    | (exfalso; omega)
    | skip
  refine pw_deepen 6 rfl (fun _ h => by cases h) ?_
  simp only [go_sem]
  refine pw_loop_over [8, 9, 10, 12, 29, 30, 31, 32, 33, 34, 35, 36, 37, 38, 39, 40, 41, 42, 43, 44, 45, 46, 47, 48, 49, 50, 51, 52, 53, 54, 55] (fun k : Nat => [(29, .d (.int .i64 (k : Int))), (10, .row 1 (winTo c a b f w k).length), (27, .row 0 w.length), (4, .bptr 2 0), (5, .bptr 3 0), (6, .bptr 4 0)]) (fun k => [(0, .deep 0 23 1 (wH c a b f w k)), (1, .deep 0 23 1 ((winTo c a b f w k).map (datL 1 datI))), (2, .box 42 c.cs), (3, .box 48 a.cs), (4, .box 48 b.cs)]) 5 (fun k => k ≤ w.length) (fun k => w.length - k) 0 (Nat.zero_le _) (fits_mk [] (by simp [renL_d, bdL_d, sg, over, wipe, wl, memN, ins, rm, lk, fitFr, fit1, ren, renL, bd, bdL, app, fitHp, hget, renB, bdB, winTo_zero, wH_zero] <;> omega)) ?_
  intro k hk; simp only [over, wipe, wl, memN, ins, rm, if_true, if_false, Nat.reduceEqDiff, Bool.false_eq_true, reduceCtorEq]
  have ht1 : Int.toNat 1 = 1 := rfl
  have ht2 : Int.toNat 2 = 2 := rfl
  have hwl := wH_len c a b f hk
  have hwt := winTo_len c a b f w k
  by_cases hlt : k < w.length
  · have hx := List.getElem?_eq_getElem hlt
    have hxm := List.getElem_mem hlt
    generalize w[k] = x at hx hxm
    obtain ⟨i, n, m, rfl, hN, hm1, hm2⟩ := hmem x hxm
    have hg := wH_get c a b f hx
    have hsc : scW c a f [i, n, m] = segW c (withI a (stepI a.items (oneI i n m))) f := rfl
    have hs1 := iqWith_ok c a f i n m haf hA.1 hN hm1 hm2
    generalize segW c (withI a (stepI a.items (oneI i n m))) f = v at hs1 hsc
    by_cases hgt : segW c b f < v
    · have hwin : segW c b f < scW c a f [i, n, m] := by rw [hsc]; exact hgt
      have hto := winTo_yes hx hwin
      have hH := wH_yes hx (show winP c a b f [i, n, m] = true from decide_eq_true hwin)
      have hsl : setC (wH c a b f w k) k 0 .hole = wH c a b f w (k + 1) := by rw [← hH]; unfold setC; rw [hg]; rfl
      repeat' (first | ((with_reducible first | (refine hK _ ?_; clear hK K) | refine stq fun K' hK' => ?_ | refine stc ?_); try simp only [go_sem, List.getElem?_map, hg, Option.map_some, datL, datI, hlt, hwl, List.map_cons, List.map_nil, ht1, ht2, hgt]) | (with_reducible first | refine stp ?_ | (refine hK' _ ?_; clear hK' K') | refine kN kl25 fun K hK => ?_ | refine kO fun K hK => ?_) | (refine xS rfl fun K' hK' => ?_; simp only [go_sem, List.getElem?_map, hg, Option.map_some, datL, datI, hlt, hwl, List.map_cons, List.map_nil, ht1, ht2, hgt]) | (refine qS rfl fun K' hK' => ?_; simp only [go_sem, List.getElem?_map, hg, Option.map_some, datL, datI, hlt, hwl, List.map_cons, List.map_nil, ht1, ht2, hgt]) | ((with_reducible first | apply CallK.eq | apply CallQ.eqs); (· with_reducible first | exact hs1 | exact hs2b); (· first | exact rfl | (simp [RV.flat, D.sc, datI]; done)); try simp only [go_sem, List.getElem?_map, hg, Option.map_some, datL, datI, hlt, hwl, List.map_cons, List.map_nil, ht1, ht2, hgt]) | refine iB ?_ | (with_reducible refine pw_seq_drawK kl25 G_ok mixed (by kernel_rfl) (fun K hK => ?_)) | (with_reducible refine pw_draw G_ok mixed (by kernel_rfl) ?_) | (with_reducible refine pK_mk ?_ ?_ <;> (intro hc; (try simp only [go_sem, List.getElem?_map, hg, Option.map_some, datL, datI, hlt, hwl, List.map_cons, List.map_nil, ht1, ht2, hgt]); (try simp at hc); try (exfalso; omega))) | with_reducible refine And.intro (by first | omega | (unfold inI; omega)) ?_)
      all_goals first
        | (exfalso; omega)
        | skip
      refine po_take (id := 5) (par := 0) (k := k) (j := 0) rfl rfl (show alC _ _ _ = some (1, [i, n, m].map datI) by simp [alC, hg, datL]) (by simp [soleAl]) fun ty2 => ?_
      simp only [hset, hsl, if_true, if_false, Nat.reduceEqDiff, reduceCtorEq, Nat.zero_ne_one]
      refine po_buildSlice_deep (cs := [.row 5 3]) (ds := datL 1 datI [i, n, m]) rfl (G_ok _ _ G27) (by decide) rfl (by simp [ownL, ownC, hget, D.scB, datL, datI]) (by simp [rowIds]) (by simp only [flatL, flatC, hget, if_true, if_false, Nat.reduceEqDiff]; exact ⟨trivial, trivial⟩) ?_
      repeat' (first | ((with_reducible first | (refine hK _ ?_; clear hK K) | refine stq fun K' hK' => ?_ | refine stc ?_); try simp only [go_sem, datL]) | (with_reducible first | refine stp ?_ | (refine hK' _ ?_; clear hK' K') | refine kN kl25 fun K hK => ?_ | refine kO fun K hK => ?_) | (refine xS rfl fun K' hK' => ?_; simp only [go_sem, datL]) | (refine qS rfl fun K' hK' => ?_; simp only [go_sem, datL]) | refine iB ?_ | (with_reducible refine pw_seq_drawK kl25 G_ok mixed (by kernel_rfl) (fun K hK => ?_)) | (with_reducible refine pw_draw G_ok mixed (by kernel_rfl) ?_) | (with_reducible refine pK_mk ?_ ?_ <;> (intro hc; (try simp only [go_sem, datL]); (try simp at hc); try (exfalso; omega))) | with_reducible refine And.intro (by first | omega | (unfold inI; omega)) ?_)
      refine po_append_deep (es := (winTo c a b f w k).map (datL 1 datI)) (fs := [datL 1 datI [i, n, m]]) (n := (winTo c a b f w k).length) (n2 := 1) rfl (G_ok _ _ G27) rfl rfl rfl rfl (by decide) (by simp) rfl (by exact True.intro) (by exact True.intro) (by simp <;> omega) ?_
      repeat' (first | ((with_reducible first | (refine hK _ ?_; clear hK K) | refine stq fun K' hK' => ?_ | refine stc ?_); try simp only [go_sem, datL]) | (with_reducible first | refine stp ?_ | (refine hK' _ ?_; clear hK' K') | refine kN kl25 fun K hK => ?_ | refine kO fun K hK => ?_) | (refine xS rfl fun K' hK' => ?_; simp only [go_sem, datL]) | (refine qS rfl fun K' hK' => ?_; simp only [go_sem, datL]) | refine iB ?_ | (with_reducible refine pw_seq_drawK kl25 G_ok mixed (by kernel_rfl) (fun K hK => ?_)) | (with_reducible refine pw_draw G_ok mixed (by kernel_rfl) ?_) | (with_reducible refine pK_mk ?_ ?_ <;> (intro hc; (try simp only [go_sem, datL]); (try simp at hc); try (exfalso; omega))) | with_reducible refine And.intro (by first | omega | (unfold inI; omega)) ?_)
      exact ⟨k + 1, by omega, by omega, (fits_mk [] (by simp [renL_d, bdL_d, sg, over, wipe, wl, memN, ins, rm, lk, fitFr, fit1, ren, renL, bd, bdL, app, fitHp, hget, renB, bdB, hto, datL] <;> omega))⟩
    · have hno : ¬ segW c b f < scW c a f [i, n, m] := by rw [hsc]; exact hgt
      have hto := winTo_no hx hno
      have hH := wH_no hx (show winP c a b f [i, n, m] = false from decide_eq_false hno)
      repeat' (first | ((with_reducible first | (refine hK _ ?_; clear hK K) | refine stq fun K' hK' => ?_ | refine stc ?_); try simp only [go_sem, List.getElem?_map, hg, Option.map_some, datL, datI, hlt, hwl, List.map_cons, List.map_nil, ht1, ht2, hgt]) | (with_reducible first | refine stp ?_ | (refine hK' _ ?_; clear hK' K') | refine kN kl25 fun K hK => ?_ | refine kO fun K hK => ?_) | (refine xS rfl fun K' hK' => ?_; simp only [go_sem, List.getElem?_map, hg, Option.map_some, datL, datI, hlt, hwl, List.map_cons, List.map_nil, ht1, ht2, hgt]) | (refine qS rfl fun K' hK' => ?_; simp only [go_sem, List.getElem?_map, hg, Option.map_some, datL, datI, hlt, hwl, List.map_cons, List.map_nil, ht1, ht2, hgt]) | ((with_reducible first | apply CallK.eq | apply CallQ.eqs); (· with_reducible first | exact hs1 | exact hs2b); (· first | exact rfl | (simp [RV.flat, D.sc, datI]; done)); try simp only [go_sem, List.getElem?_map, hg, Option.map_some, datL, datI, hlt, hwl, List.map_cons, List.map_nil, ht1, ht2, hgt]) | refine iB ?_ | (with_reducible refine pw_seq_drawK kl25 G_ok mixed (by kernel_rfl) (fun K hK => ?_)) | (with_reducible refine pw_draw G_ok mixed (by kernel_rfl) ?_) | (with_reducible refine pK_mk ?_ ?_ <;> (intro hc; (try simp only [go_sem, List.getElem?_map, hg, Option.map_some, datL, datI, hlt, hwl, List.map_cons, List.map_nil, ht1, ht2, hgt]); (try simp at hc); try (exfalso; omega))) | with_reducible refine And.intro (by first | omega | (unfold inI; omega)) ?_)
      all_goals first
        | (exfalso; omega)
        | exact ⟨k + 1, by omega, by omega, (fits_mk [] (by simp [renL_d, bdL_d, sg, over, wipe, wl, memN, ins, rm, lk, fitFr, fit1, ren, renL, bd, bdL, app, fitHp, hget, renB, bdB, hto, ← hH] <;> omega))⟩
  · obtain rfl : k = w.length := by omega
    repeat' (first | ((with_reducible first | (refine hK _ ?_; clear hK K) | refine stq fun K' hK' => ?_ | refine stc ?_); try simp only [go_sem]) | (with_reducible first | refine stp ?_ | (refine hK' _ ?_; clear hK' K') | refine kN kl25 fun K hK => ?_ | refine kO fun K hK => ?_) | (refine xS rfl fun K' hK' => ?_; simp only [go_sem]) | (refine qS rfl fun K' hK' => ?_; simp only [go_sem]) | refine iB ?_ | (with_reducible refine pw_seq_drawK kl25 G_ok mixed (by kernel_rfl) (fun K hK => ?_)) | (with_reducible refine pw_draw G_ok mixed (by kernel_rfl) ?_) | (with_reducible refine pK_mk ?_ ?_ <;> (intro hc; (try simp only [go_sem]); (try simp at hc); try (exfalso; omega))) | with_reducible refine And.intro (by first | omega | (unfold inI; omega)) ?_)
    all_goals first
      | (exfalso; omega)
      | (refine retQ_ret rfl (by simp only [retL, ret1, hget, lk, List.length_map, List.length_nil, List.length_append, List.length_take, if_true, if_false, Nat.reduceEqDiff, Nat.reduceBEq, Bool.false_eq_true, Option.some.injEq]; rfl) (by simp [rowsOf, lk]) ?_; rfl)
end Go.Proofs.YtphakidbddamfaaGreat
