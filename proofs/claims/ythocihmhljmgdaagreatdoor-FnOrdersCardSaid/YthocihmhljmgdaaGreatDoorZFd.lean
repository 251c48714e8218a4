/-
  Orders by places: the program's OrderByPlaces and the reference's, in the abstract machine.
-/
import Derived.Test.YthocihmhljmgdaaGreatDoorZMz
set_option linter.unusedSimpArgs false
set_option linter.unusedVariables false
set_option maxHeartbeats 2000000
set_option maxRecDepth 100000
namespace Go.Proofs.YthocihmhljmgdaaGreatDoor
open Go.RowKit

/-- the sizes, the last groups not all told -/
def szT (n s k : Nat) : List Int := (if 0 < n % s then [((n % s : Nat) : Int)] else []) ++ List.replicate k (s : Int)
theorem szT_end (n s : Nat) : szT n s (n / s) = szO n s := rfl
theorem szT_succ (n s k : Nat) : szT n s (k + 1) = szT n s k ++ [(s : Int)] := by unfold szT; rw [List.replicate_succ', List.append_assoc]
theorem szT_len (n s k : Nat) : (szT n s k).length = (if 0 < n % s then 1 else 0) + k := by
  unfold szT
  rw [List.length_append, List.length_replicate]
  split <;> rfl
theorem szT_len_le (n s k : Nat) : (szT n s k).length ≤ 1 + k := by rw [szT_len]; split <;> omega
theorem szT_zero (n s : Nat) : (0 < n % s ∧ szT n s 0 = [((n % s : Nat) : Int)]) ∨ (n % s = 0 ∧ szT n s 0 = []) := by
  unfold szT
  by_cases h : 0 < n % s
  · exact .inl ⟨h, by rw [if_pos h]; rfl⟩
  · exact .inr ⟨by omega, by rw [if_neg h]; rfl⟩
theorem obZ_nil (ks F : List Int) (s : Nat) (h : (szO F.length s).length = 0) : obZ ks F s = [] := by
  unfold obZ
  rw [grO_len, h]
  rfl
theorem impl_OrderByPlaces_ok (ks sk pl : List Int) (s : Int) (hks : ks.length ≤ 1048576) (hsk : sk.length ≤ 1048576) (hpl : pl.length ≤ 1048576) : FnEq Tryz.prog 27 [.d (.lst 1 (ks.map datI)), .d (.lst 1 (sk.map datI)), .d (.lst 1 (pl.map datI)), .d (.int .i64 s)] [.row 3 1 (((ansOrderByPlaces ks sk pl s).getD []).map datI), .d (.bool (ansOrderByPlaces ks sk pl s).isSome)] := by
  refine fn_ok G_ok Tryz.func27 rfl rfl ?_; simp only [Tryz.ntmps27, List.length_cons, List.length_nil, Nat.reduceAdd, Nat.reduceSub, enm]
  have c1 := areKeys4_ok ks hks
  have c2 := isOrder_ok sk hsk
  have c3 := allWithinP_ok pl 1 99 hpl
  have c4 := isGroupSize_ok s
  have hno : ¬ ByOk ks sk pl s → ansOrderByPlaces ks sk pl s = none := fun h => optP_neg h
  have hyes : ByOk ks sk pl s → ansOrderByPlaces ks sk pl s = some (obZ ks (fallT ks sk pl 99) s.toNat) := fun h => optP_pos h
  by_cases h1 : KeysOk ks
  case neg =>
    rw [hno fun h => h1 h.1]
    rw [bP_false h1] at c1
    repeat' (first | ((with_reducible first | (refine hK _ ?_; clear hK K) | refine stq fun K' hK' => ?_ | refine stc ?_); try simp only [go_sem]) | (with_reducible first | refine stp ?_ | (refine hK' _ ?_; clear hK' K') | refine kN kl27 fun K hK => ?_ | refine kO fun K hK => ?_) | (refine xS rfl fun K' hK' => ?_; simp only [go_sem]) | ((with_reducible apply CallK.eq); (· with_reducible first | exact c1); (· simp [RV.flat, D.sc, datI]); try simp only [go_sem]) | refine iB ?_ | (with_reducible refine pK_mk ?_ ?_ <;> (intro hc; (try simp only [go_sem]); (try simp at hc); try (exfalso; omega))) | with_reducible refine And.intro (by first | omega | (unfold inI; omega)) ?_)
    refine retQ_ret rfl (by simp only [retL, ret1, hget, lk, List.length_map, List.length_nil, List.length_append, List.length_take, if_true, if_false, Nat.reduceEqDiff, Nat.reduceBEq, Bool.false_eq_true, Option.some.injEq]; rfl) (by simp [rowsOf, lk]) ?_; rfl
  rw [bP_true h1] at c1
  by_cases h2 : OrdOk sk
  case neg =>
    rw [hno fun h => h2 h.2.1]
    rw [bP_false h2] at c2
    repeat' (first | ((with_reducible first | (refine hK _ ?_; clear hK K) | refine stq fun K' hK' => ?_ | refine stc ?_); try simp only [go_sem]) | (with_reducible first | refine stp ?_ | (refine hK' _ ?_; clear hK' K') | refine kN kl27 fun K hK => ?_ | refine kO fun K hK => ?_) | (refine xS rfl fun K' hK' => ?_; simp only [go_sem]) | ((with_reducible apply CallK.eq); (· with_reducible first | exact c1 | exact c2); (· simp [RV.flat, D.sc, datI]); try simp only [go_sem]) | refine iB ?_ | (with_reducible refine pK_mk ?_ ?_ <;> (intro hc; (try simp only [go_sem]); (try simp at hc); try (exfalso; omega))) | with_reducible refine And.intro (by first | omega | (unfold inI; omega)) ?_)
    refine retQ_ret rfl (by simp only [retL, ret1, hget, lk, List.length_map, List.length_nil, List.length_append, List.length_take, if_true, if_false, Nat.reduceEqDiff, Nat.reduceBEq, Bool.false_eq_true, Option.some.injEq]; rfl) (by simp [rowsOf, lk]) ?_; rfl
  rw [bP_true h2] at c2
  by_cases h3 : pl.length = sk.length
  case neg =>
    rw [hno fun h => h3 h.2.2.1]
    have h3' : ((pl.length : Int) == (sk.length : Int)) = false := by rw [beq_eq_false_iff_ne]; omega
    repeat' (first | ((with_reducible first | (refine hK _ ?_; clear hK K) | refine stq fun K' hK' => ?_ | refine stc ?_); try simp only [go_sem, h3', bne]) | (with_reducible first | refine stp ?_ | (refine hK' _ ?_; clear hK' K') | refine kN kl27 fun K hK => ?_ | refine kO fun K hK => ?_) | (refine xS rfl fun K' hK' => ?_; simp only [go_sem, h3', bne]) | ((with_reducible apply CallK.eq); (· with_reducible first | exact c1 | exact c2); (· simp [RV.flat, D.sc, datI]); try simp only [go_sem, h3', bne]) | refine iB ?_ | (with_reducible refine pK_mk ?_ ?_ <;> (intro hc; (try simp only [go_sem, h3', bne]); (try simp at hc); try (exfalso; omega))) | with_reducible refine And.intro (by first | omega | (unfold inI; omega)) ?_)
    all_goals first
      | (exfalso; omega)
      | (refine retQ_ret rfl (by simp only [retL, ret1, hget, lk, List.length_map, List.length_nil, List.length_append, List.length_take, if_true, if_false, Nat.reduceEqDiff, Nat.reduceBEq, Bool.false_eq_true, Option.some.injEq]; rfl) (by simp [rowsOf, lk]) ?_; rfl)
  by_cases h4 : RngP 1 99 pl
  case neg =>
    rw [hno fun h => h4 h.2.2.2.1]
    rw [bP_false h4] at c3
    repeat' (first | ((with_reducible first | (refine hK _ ?_; clear hK K) | refine stq fun K' hK' => ?_ | refine stc ?_); try simp only [go_sem, h3, bne_self_eq_false]) | (with_reducible first | refine stp ?_ | (refine hK' _ ?_; clear hK' K') | refine kN kl27 fun K hK => ?_ | refine kO fun K hK => ?_) | (refine xS rfl fun K' hK' => ?_; simp only [go_sem, h3, bne_self_eq_false]) | ((with_reducible apply CallK.eq); (· with_reducible first | exact c1 | exact c2 | exact c3); (· simp [RV.flat, D.sc, datI]); try simp only [go_sem, h3, bne_self_eq_false]) | refine iB ?_ | (with_reducible refine pK_mk ?_ ?_ <;> (intro hc; (try simp only [go_sem, h3, bne_self_eq_false]); (try simp at hc); try (exfalso; omega))) | with_reducible refine And.intro (by first | omega | (unfold inI; omega)) ?_)
    all_goals first
      | (exfalso; omega)
      | (refine retQ_ret rfl (by simp only [retL, ret1, hget, lk, List.length_map, List.length_nil, List.length_append, List.length_take, if_true, if_false, Nat.reduceEqDiff, Nat.reduceBEq, Bool.false_eq_true, Option.some.injEq]; rfl) (by simp [rowsOf, lk]) ?_; rfl)
  rw [bP_true h4] at c3
  by_cases h5 : 1 ≤ s ∧ s ≤ 8
  case neg =>
    rw [hno fun h => h5 h.2.2.2.2]
    have h5' : (decide (1 ≤ s) && decide (s ≤ 8)) = false := by
      rw [Bool.and_eq_false_iff, decide_eq_false_iff_not, decide_eq_false_iff_not]
      omega
    rw [h5'] at c4
    repeat' (first | ((with_reducible first | (refine hK _ ?_; clear hK K) | refine stq fun K' hK' => ?_ | refine stc ?_); try simp only [go_sem, h3, bne_self_eq_false]) | (with_reducible first | refine stp ?_ | (refine hK' _ ?_; clear hK' K') | refine kN kl27 fun K hK => ?_ | refine kO fun K hK => ?_) | (refine xS rfl fun K' hK' => ?_; simp only [go_sem, h3, bne_self_eq_false]) | ((with_reducible apply CallK.eq); (· with_reducible first | exact c1 | exact c2 | exact c3 | exact c4); (· simp [RV.flat, D.sc, datI]); try simp only [go_sem, h3, bne_self_eq_false]) | refine iB ?_ | (with_reducible refine pK_mk ?_ ?_ <;> (intro hc; (try simp only [go_sem, h3, bne_self_eq_false]); (try simp at hc); try (exfalso; omega))) | with_reducible refine And.intro (by first | omega | (unfold inI; omega)) ?_)
    all_goals first
      | (exfalso; omega)
      | (refine retQ_ret rfl (by simp only [retL, ret1, hget, lk, List.length_map, List.length_nil, List.length_append, List.length_take, if_true, if_false, Nat.reduceEqDiff, Nat.reduceBEq, Bool.false_eq_true, Option.some.injEq]; rfl) (by simp [rowsOf, lk]) ?_; rfl)
  rw [decide_eq_true h5.1, decide_eq_true h5.2] at c4
  have hB : ByOk ks sk pl s := ⟨h1, h2, h3, h4, h5⟩
  rw [hyes hB]
  obtain ⟨q, rfl, hq1, hq8⟩ : ∃ q : Nat, s = (q : Int) ∧ 1 ≤ q ∧ q ≤ 8 := ⟨s.toNat, by omega, by omega, by omega⟩
  have hkl := h1.1
  have hk := h1.2
  have hkk := h1.2
  have hs := h2.1
  have hfp := fall_all hkl hk hs h3 h4
  have hfl := fun t (h : t ≤ 99) => fall_len (ks := ks) (t := t) hkl hk hs h3 (fun x hx => (h4 x hx).2) h
  rw [Int.toNat_natCast]
  repeat' (first | ((with_reducible first | (refine hK _ ?_; clear hK K) | refine stq fun K' hK' => ?_ | refine stc ?_); try simp only [go_sem, h3, bne_self_eq_false, Bool.and_self]) | (with_reducible first | refine stp ?_ | (refine hK' _ ?_; clear hK' K') | refine kN kl27 fun K hK => ?_ | refine kO fun K hK => ?_) | (refine xS rfl fun K' hK' => ?_; simp only [go_sem, h3, bne_self_eq_false, Bool.and_self]) | ((with_reducible apply CallK.eq); (· with_reducible first | exact c1 | exact c2 | exact c3 | exact c4); (· simp [RV.flat, D.sc, datI]); try simp only [go_sem, h3, bne_self_eq_false, Bool.and_self]) | refine iB ?_ | (with_reducible refine pK_mk ?_ ?_ <;> (intro hc; (try simp only [go_sem, h3, bne_self_eq_false, Bool.and_self]); (try simp at hc); try (exfalso; omega))) | with_reducible refine And.intro (by first | omega | (unfold inI; omega)) ?_)
  all_goals first
    | (exfalso; omega)
    | skip
  refine pw_loop_over [8, 9, 10, 11, 12, 13, 14, 46, 47, 48, 49, 50, 51, 52, 53, 54, 55, 56, 57, 58, 59, 60, 61, 62, 63, 64, 65, 66, 67, 68, 69, 70, 71, 72, 73, 74, 75, 76] (fun t : Nat => [(11, .d (.int .i64 (99 - (t : Int)))), (10, .row 1 (fallT ks sk pl t).length), (0, .d (.lst 1 (ks.map datI))), (1, .d (.lst 1 (sk.map datI))), (2, .d (.lst 1 (pl.map datI))), (3, .d (.int .i64 (q : Int)))]) (fun t => [(1, .row 3 1 ((fallT ks sk pl t).map datI))]) 2 (fun t => t ≤ 99) (fun t => 99 - t) 0 (by omega) (fits_mk [] (by simp [renL_d, bdL_d, sg, over, wipe, wl, memN, ins, rm, lk, fitFr, fit1, ren, renL, bd, bdL, app, fitHp, hget, renB, bdB, fallT] <;> omega)) ?_
  intro t ht
  have hft := hfl t ht
  simp only [over, wipe, wl, memN, ins, rm, if_true, if_false, Nat.reduceEqDiff, Bool.false_eq_true, reduceCtorEq]
  by_cases hlt : t < 99
  · have h11 : (1 : Int) ≤ 99 - (t : Int) := by omega
    have hsuc : fallT ks sk pl (t + 1) = fallT ks sk pl t ++ numZ (ks ++ [90, 99 - (t : Int)]) (eqP sk pl (99 - (t : Int)) sk.length) := rfl
    have hnl := numZ_len (ks ++ [90, 99 - (t : Int)]) (eqP sk pl (99 - (t : Int)) sk.length)
    have hel := fun k => eqP_len sk pl (99 - (t : Int)) k
    have hyl : (ks ++ [90, 99 - (t : Int)]).length ≤ 100 := by simp; omega
    have hwk := withKeys_ok ks [90, 99 - (t : Int)] (by omega) (by simp)
    simp only [List.map_cons, List.map_nil, datI] at hwk
    have hsn := shuffledNumbers_ok (ks ++ [90, 99 - (t : Int)]) (eqP sk pl (99 - (t : Int)) sk.length) hyl (keyR90 hk hlt) (by have := hel sk.length; omega)
    have ht1 : 99 - (t : Int) - 1 = 99 - ((t + 1 : Nat) : Int) := by omega
    generalize fallT ks sk pl t = F at *
    generalize numZ (ks ++ [90, 99 - (t : Int)]) (eqP sk pl (99 - (t : Int)) sk.length) = nn at *
    generalize ks ++ [90, 99 - (t : Int)] = ys at *
    generalize hpp : 99 - (t : Int) = p at *
    repeat' (first | ((with_reducible first | (refine hK _ ?_; clear hK K) | refine stq fun K' hK' => ?_ | refine stc ?_); try simp only [go_sem, h11]) | (with_reducible first | refine stp ?_ | (refine hK' _ ?_; clear hK' K') | refine kN kl27 fun K hK => ?_ | refine kO fun K hK => ?_) | (refine xS rfl fun K' hK' => ?_; simp only [go_sem, h11]) | refine iB ?_ | (with_reducible refine pK_mk ?_ ?_ <;> (intro hc; (try simp only [go_sem, h11]); (try simp at hc); try (exfalso; omega))) | with_reducible refine And.intro (by first | omega | (unfold inI; omega)) ?_)
    all_goals first
      | (exfalso; omega)
      | skip
    refine pw_loop_over [8, 9, 12, 13, 14, 53, 54, 55, 56, 57, 58, 59, 60, 61, 62, 63, 64, 65, 66, 67, 68] (fun k : Nat => [(53, .d (.int .i64 (k : Int))), (10, .row 1 F.length), (12, .row 2 (eqP sk pl p k).length)]) (fun k : Nat => [(1, .row 3 1 (F.map datI)), (2, .row 3 1 ((eqP sk pl p k).map datI))]) 3 (fun k : Nat => k ≤ sk.length) (fun k : Nat => sk.length - k) 0 (Nat.zero_le _) (fits_mk [] (by simp [renL_d, bdL_d, sg, over, wipe, wl, memN, ins, rm, lk, fitFr, fit1, ren, renL, bd, bdL, app, fitHp, hget, renB, bdB, eqP_zero] <;> omega)) ?_
    intro k hk
    have hek := hel k
    simp only [over, wipe, wl, memN, ins, rm, if_true, if_false, Nat.reduceEqDiff, Bool.false_eq_true, reduceCtorEq]
    by_cases hlt2 : k < sk.length
    · have hx := List.getElem?_eq_getElem hlt2
      have hy := List.getElem?_eq_getElem (show k < pl.length by omega)
      generalize sk[k] = x at hx
      generalize pl[k] = y at hy
      by_cases he : y = p
      · have e := eqP_yes hx hy he
        subst he
        repeat' (first | ((with_reducible first | (refine hK _ ?_; clear hK K) | refine stq fun K' hK' => ?_ | refine stc ?_); try simp only [go_sem, hlt2, List.getElem?_map, hx, hy, Option.map_some, datI]) | (with_reducible first | refine stp ?_ | (refine hK' _ ?_; clear hK' K') | refine kN kl27 fun K hK => ?_ | refine kO fun K hK => ?_) | (refine xS rfl fun K' hK' => ?_; simp only [go_sem, hlt2, List.getElem?_map, hx, hy, Option.map_some, datI]) | refine iB ?_ | (with_reducible refine pK_mk ?_ ?_ <;> (intro hc; (try simp only [go_sem, hlt2, List.getElem?_map, hx, hy, Option.map_some, datI]); (try simp at hc); try (exfalso; omega))) | with_reducible refine And.intro (by first | omega | (unfold inI; omega)) ?_)
        all_goals first
          | (exfalso; omega)
          | exact ⟨k + 1, by omega, by omega, (fits_mk [] (by simp [renL_d, bdL_d, sg, over, wipe, wl, memN, ins, rm, lk, fitFr, fit1, ren, renL, bd, bdL, app, fitHp, hget, renB, bdB, e, datI] <;> omega))⟩
      · have e := eqP_no hx hy he
        repeat' (first | ((with_reducible first | (refine hK _ ?_; clear hK K) | refine stq fun K' hK' => ?_ | refine stc ?_); try simp only [go_sem, hlt2, he, List.getElem?_map, hx, hy, Option.map_some, datI]) | (with_reducible first | refine stp ?_ | (refine hK' _ ?_; clear hK' K') | refine kN kl27 fun K hK => ?_ | refine kO fun K hK => ?_) | (refine xS rfl fun K' hK' => ?_; simp only [go_sem, hlt2, he, List.getElem?_map, hx, hy, Option.map_some, datI]) | refine iB ?_ | (with_reducible refine pK_mk ?_ ?_ <;> (intro hc; (try simp only [go_sem, hlt2, he, List.getElem?_map, hx, hy, Option.map_some, datI]); (try simp at hc); try (exfalso; omega))) | with_reducible refine And.intro (by first | omega | (unfold inI; omega)) ?_)
        all_goals first
          | (exfalso; omega)
          | exact ⟨k + 1, by omega, by omega, (fits_mk [] (by simp [renL_d, bdL_d, sg, over, wipe, wl, memN, ins, rm, lk, fitFr, fit1, ren, renL, bd, bdL, app, fitHp, hget, renB, bdB, e, datI] <;> omega))⟩
    · obtain rfl : k = sk.length := by omega
      repeat' (first | ((with_reducible first | (refine hK _ ?_; clear hK K) | refine stq fun K' hK' => ?_ | refine stc ?_); try simp only [go_sem, ht1]) | (with_reducible first | refine stp ?_ | (refine hK' _ ?_; clear hK' K') | refine kN kl27 fun K hK => ?_ | refine kO fun K hK => ?_) | (refine xS rfl fun K' hK' => ?_; simp only [go_sem, ht1]) | ((with_reducible apply CallK.eq); (· with_reducible first | exact hwk | exact hsn); (· simp [RV.flat, D.sc, datI]); try simp only [go_sem, ht1]) | refine iB ?_ | (with_reducible refine pK_mk ?_ ?_ <;> (intro hc; (try simp only [go_sem, ht1]); (try simp at hc); try (exfalso; omega))) | with_reducible refine And.intro (by first | omega | (unfold inI; omega)) ?_)
      all_goals first
        | (exfalso; omega)
        | exact ⟨t + 1, by omega, by omega, (fits_mk [] (by simp [renL_d, bdL_d, sg, over, wipe, wl, memN, ins, rm, lk, fitFr, fit1, ren, renL, bd, bdL, app, fitHp, hget, renB, bdB, hsuc] <;> omega))⟩
  · have e : t = 99 := by omega
    subst e
    have h11 : ¬ (1 : Int) ≤ 99 - ((99 : Nat) : Int) := by omega
    have hFl := hfp.length_eq
    have hsz := fun k => szT_len_le (fallT ks sk pl 99).length q k
    have hszo := szT_len_le (fallT ks sk pl 99).length q ((fallT ks sk pl 99).length / q)
    have hss := fun k => szT_succ (fallT ks sk pl 99).length q k
    have hend := szT_end (fallT ks sk pl 99).length q
    have hmo : (fallT ks sk pl 99).length % q ≤ (fallT ks sk pl 99).length := Nat.mod_le _ _
    rw [hend] at hszo
    have hsz0 := szT_zero (fallT ks sk pl 99).length q
    have hrm : ((fallT ks sk pl 99).length : Int).tmod (q : Int) = (((fallT ks sk pl 99).length % q : Nat) : Int) := rfl
    have hqu : ((fallT ks sk pl 99).length : Int).tdiv (q : Int) = (((fallT ks sk pl 99).length / q : Nat) : Int) := rfl
    have hq2 : (fallT ks sk pl 99).length / q ≤ (fallT ks sk pl 99).length := Nat.div_le_self _ _
    have hcut0 := cutInto_nil (fallT ks sk pl 99) (szO (fallT ks sk pl 99).length q)
    have hcut := cutInto_ok (fallT ks sk pl 99) (szO (fallT ks sk pl 99).length q)
    have hoe := offO_end (fallT ks sk pl 99).length q hq1
    have hnn := szO_nn (n := (fallT ks sk pl 99).length) (s := q)
    have hgr : cutZ (szO (fallT ks sk pl 99).length q) (fallT ks sk pl 99) (szO (fallT ks sk pl 99).length q).length = grO (fallT ks sk pl 99) q := rfl
    have hgl := grO_len (fallT ks sk pl 99) q
    have hgb := grO_bd (F := fallT ks sk pl 99) (s := q) (by omega)
    have hob : obZ ks (fallT ks sk pl 99) q = stTo ks (grO (fallT ks sk pl 99) q) (grO (fallT ks sk pl 99) q).length := rfl
    have hob0 := obZ_nil ks (fallT ks sk pl 99) q
    rw [hgr] at hcut
    generalize grO (fallT ks sk pl 99) q = g at *
    generalize obZ ks (fallT ks sk pl 99) q = ob at *
    generalize fallT ks sk pl 99 = F at *
    generalize F.length / q = dq at *
    generalize hR : F.length % q = rq at *
    rcases hsz0 with ⟨hr0, hz⟩ | ⟨hr0, hz⟩
    all_goals
      repeat' (first | ((with_reducible first | (refine hK _ ?_; clear hK K) | refine stq fun K' hK' => ?_ | refine stc ?_); try simp only [go_sem, h11, hrm, hqu, hr0]) | (with_reducible first | refine stp ?_ | (refine hK' _ ?_; clear hK' K') | refine kN kl27 fun K hK => ?_ | refine kO fun K hK => ?_) | (refine xS rfl fun K' hK' => ?_; simp only [go_sem, h11, hrm, hqu, hr0]) | refine iB ?_ | (with_reducible refine pK_mk ?_ ?_ <;> (intro hc; (try simp only [go_sem, h11, hrm, hqu, hr0]); (try simp at hc); try (exfalso; omega))) | with_reducible refine And.intro (by first | omega | (unfold inI; omega)) ?_)
      all_goals first
        | (exfalso; omega)
        | skip
      refine pw_loop_over [8, 9, 15, 92, 93, 94, 95, 96, 97, 98] (fun k : Nat => [(92, .d (.int .i64 (k : Int))), (10, .row 1 F.length), (15, .row 2 (szT F.length q k).length), (84, .und), (86, .und), (87, .und)]) (fun k : Nat => [(1, .row 3 1 (F.map datI)), (2, .row 3 1 ((szT F.length q k).map datI))]) 3 (fun k : Nat => k ≤ dq) (fun k : Nat => dq - k) 0 (Nat.zero_le _) (fits_mk [] (by simp [renL_d, bdL_d, sg, over, wipe, wl, memN, ins, rm, lk, fitFr, fit1, ren, renL, bd, bdL, app, fitHp, hget, renB, bdB, hz, datI] <;> omega)) ?_
      intro k hk2
      have hzl := hsz k
      simp only [over, wipe, wl, memN, ins, rm, if_true, if_false, Nat.reduceEqDiff, Bool.false_eq_true, reduceCtorEq]
      by_cases hlt3 : k < dq
      · have e := hss k
        repeat' (first | ((with_reducible first | (refine hK _ ?_; clear hK K) | refine stq fun K' hK' => ?_ | refine stc ?_); try simp only [go_sem, hlt3]) | (with_reducible first | refine stp ?_ | (refine hK' _ ?_; clear hK' K') | refine kN kl27 fun K hK => ?_ | refine kO fun K hK => ?_) | (refine xS rfl fun K' hK' => ?_; simp only [go_sem, hlt3]) | refine iB ?_ | (with_reducible refine pK_mk ?_ ?_ <;> (intro hc; (try simp only [go_sem, hlt3]); (try simp at hc); try (exfalso; omega))) | with_reducible refine And.intro (by first | omega | (unfold inI; omega)) ?_)
        all_goals first
          | (exfalso; omega)
          | exact ⟨k + 1, by omega, by omega, (fits_mk [] (by simp [renL_d, bdL_d, sg, over, wipe, wl, memN, ins, rm, lk, fitFr, fit1, ren, renL, bd, bdL, app, fitHp, hget, renB, bdB, e, datI] <;> omega))⟩
      · have e : k = dq := by omega
        subst e
        rw [hend] at hzl
        rw [hend]
        generalize szO F.length q = ss at *
        by_cases hs0 : ss.length = 0
        · have hc0 := hcut0 hs0 (by omega)
          repeat' (first | ((with_reducible first | (refine hK _ ?_; clear hK K) | refine stq fun K' hK' => ?_ | refine stc ?_); try simp only [go_sem]) | (with_reducible first | refine stp ?_ | (refine hK' _ ?_; clear hK' K') | refine kN kl27 fun K hK => ?_ | refine kO fun K hK => ?_) | (refine xS rfl fun K' hK' => ?_; simp only [go_sem]) | ((with_reducible apply CallK.eq); (· with_reducible first | exact hc0); (· simp [RV.flat, D.sc, datI]); try simp only [go_sem]) | refine iB ?_ | (with_reducible refine pK_mk ?_ ?_ <;> (intro hc; (try simp only [go_sem]); (try simp at hc); try (exfalso; omega))) | with_reducible refine And.intro (by first | omega | (unfold inI; omega)) ?_)
          refine pw_loop_over [8, 9, 17, 18, 19, 104, 105, 106, 107, 108, 109, 110, 111, 112, 113, 114, 115, 116, 117] (fun k : Nat => [(104, .d (.int .i64 (k : Int))), (17, .row 0 0), (102, .row 1 0), (10, .und), (15, .und)]) (fun k : Nat => [(0, .row 3 1 []), (1, .row 31 1 [])]) 2 (fun k : Nat => k ≤ 0) (fun k : Nat => 0 - k) 0 (Nat.zero_le _) (fits_mk [] (by simp [renL_d, bdL_d, sg, over, wipe, wl, memN, ins, rm, lk, fitFr, fit1, ren, renL, bd, bdL, app, fitHp, hget, renB, bdB] <;> omega)) ?_
          intro k hkl
          simp only [over, wipe, wl, memN, ins, rm, if_true, if_false, Nat.reduceEqDiff, Bool.false_eq_true, reduceCtorEq]
          repeat' (first | ((with_reducible first | (refine hK _ ?_; clear hK K) | refine stq fun K' hK' => ?_ | refine stc ?_); try simp only [go_sem]) | (with_reducible first | refine stp ?_ | (refine hK' _ ?_; clear hK' K') | refine kN kl27 fun K hK => ?_ | refine kO fun K hK => ?_) | (refine xS rfl fun K' hK' => ?_; simp only [go_sem]) | refine iB ?_ | (with_reducible refine pK_mk ?_ ?_ <;> (intro hc; (try simp only [go_sem]); (try simp at hc); try (exfalso; omega))) | with_reducible refine And.intro (by first | omega | (unfold inI; omega)) ?_)
          all_goals first
            | (exfalso; omega)
            | (refine retQ_ret rfl (by simp only [retL, ret1, hget, lk, List.length_map, List.length_nil, List.length_append, List.length_take, if_true, if_false, Nat.reduceEqDiff, Nat.reduceBEq, Bool.false_eq_true, Option.some.injEq]; rfl) (by simp [rowsOf, lk]) ?_; rw [hob0 hs0]; rfl)
        · have hc1 := hcut (by omega) (by omega) (by omega) hnn (by omega)
          have hg41 : g.length ≤ 41 := by omega
          repeat' (first | ((with_reducible first | (refine hK _ ?_; clear hK K) | refine stq fun K' hK' => ?_ | refine stc ?_); try simp only [go_sem, List.length_map]) | (with_reducible first | refine stp ?_ | (refine hK' _ ?_; clear hK' K') | refine kN kl27 fun K hK => ?_ | refine kO fun K hK => ?_) | (refine xS rfl fun K' hK' => ?_; simp only [go_sem, List.length_map]) | ((with_reducible apply CallK.eq); (· with_reducible first | exact hc1); (· simp [RV.flat, D.sc, datI]); try simp only [go_sem, List.length_map]) | refine iB ?_ | (with_reducible refine pK_mk ?_ ?_ <;> (intro hc; (try simp only [go_sem, List.length_map]); (try simp at hc); try (exfalso; omega))) | with_reducible refine And.intro (by first | omega | (unfold inI; omega)) ?_)
          refine pw_loop_over [8, 9, 17, 18, 19, 104, 105, 106, 107, 108, 109, 110, 111, 112, 113, 114, 115, 116, 117] (fun k : Nat => [(104, .d (.int .i64 (k : Int))), (17, .row 0 (stTo ks g k).length), (102, .row 1 g.length), (10, .und), (15, .und)]) (fun k : Nat => [(0, .row 3 1 ((stTo ks g k).map datI)), (1, .deep 0 31 1 (g.map datG))]) 2 (fun k : Nat => k ≤ g.length) (fun k : Nat => g.length - k) 0 (Nat.zero_le _) (fits_mk [] (by simp [renL_d, bdL_d, sg, over, wipe, wl, memN, ins, rm, lk, fitFr, fit1, ren, renL, bd, bdL, app, fitHp, hget, renB, bdB, stTo_zero] <;> omega)) ?_
          intro k hkl
          have hsl := stTo_len (ks := ks) hgb k hkl
          have hsl2 : (stTo ks g k).length ≤ 2000 := Nat.le_trans hsl (by omega)
          simp only [over, wipe, wl, memN, ins, rm, if_true, if_false, Nat.reduceEqDiff, Bool.false_eq_true, reduceCtorEq]
          by_cases hlt : k < g.length
          · have hx := List.getElem?_eq_getElem hlt
            generalize g[k] = c at hx
            have hcl := hgb c (List.mem_of_getElem? hx)
            have hkr : KeyR (ks ++ [(k : Int)]) := hkk.app (KeyR.one (by omega) (by omega))
            have hyl : (ks ++ [(k : Int)]).length ≤ 100 := by simp; omega
            have hnl := numZ_len (ks ++ [(k : Int)]) c
            have e := stTo_succ (ks := ks) hx
            have hwk := withKeys_ok ks [(k : Int)] (by omega) (by simp)
            simp only [List.map_cons, List.map_nil, datI] at hwk
            have hsn := shuffledNumbers_ok (ks ++ [(k : Int)]) c hyl hkr (by omega)
            generalize numZ (ks ++ [(k : Int)]) c = nn at hsn hnl e
            generalize ks ++ [(k : Int)] = ys at hwk hsn
            repeat' (first | ((with_reducible first | (refine hK _ ?_; clear hK K) | refine stq fun K' hK' => ?_ | refine stc ?_); try simp only [go_sem, hlt, List.getElem?_map, hx, Option.map_some, datG, datI, List.length_map]) | (with_reducible first | refine stp ?_ | (refine hK' _ ?_; clear hK' K') | refine kN kl27 fun K hK => ?_ | refine kO fun K hK => ?_) | (refine xS rfl fun K' hK' => ?_; simp only [go_sem, hlt, List.getElem?_map, hx, Option.map_some, datG, datI, List.length_map]) | ((with_reducible apply CallK.eq); (· with_reducible first | exact hwk | exact hsn); (· simp [RV.flat, D.sc, datI]); try simp only [go_sem, hlt, List.getElem?_map, hx, Option.map_some, datG, datI, List.length_map]) | refine iB ?_ | (with_reducible refine pK_mk ?_ ?_ <;> (intro hc; (try simp only [go_sem, hlt, List.getElem?_map, hx, Option.map_some, datG, datI, List.length_map]); (try simp at hc); try (exfalso; omega))) | with_reducible refine And.intro (by first | omega | (unfold inI; omega)) ?_)
            all_goals first
              | (exfalso; omega)
              | exact ⟨k + 1, by omega, by omega, (fits_mk [] (by simp [renL_d, bdL_d, sg, over, wipe, wl, memN, ins, rm, lk, fitFr, fit1, ren, renL, bd, bdL, app, fitHp, hget, renB, bdB, e] <;> omega))⟩
          · obtain rfl : k = g.length := by omega
            repeat' (first | ((with_reducible first | (refine hK _ ?_; clear hK K) | refine stq fun K' hK' => ?_ | refine stc ?_); try simp only [go_sem]) | (with_reducible first | refine stp ?_ | (refine hK' _ ?_; clear hK' K') | refine kN kl27 fun K hK => ?_ | refine kO fun K hK => ?_) | (refine xS rfl fun K' hK' => ?_; simp only [go_sem]) | refine iB ?_ | (with_reducible refine pK_mk ?_ ?_ <;> (intro hc; (try simp only [go_sem]); (try simp at hc); try (exfalso; omega))) | with_reducible refine And.intro (by first | omega | (unfold inI; omega)) ?_)
            refine retQ_ret rfl (by simp only [retL, ret1, hget, lk, List.length_map, List.length_nil, List.length_append, List.length_take, if_true, if_false, Nat.reduceEqDiff, Nat.reduceBEq, Bool.false_eq_true, Option.some.injEq]; rfl) (by simp [rowsOf, lk]) ?_; rw [hob]; rfl
theorem spec_OrderByPlaces_ok (ks sk pl : List Int) (s : Int) (hks : ks.length ≤ 1048576) (hsk : sk.length ≤ 1048576) (hpl : pl.length ≤ 1048576) : FnEq Tryz.prog 28 [.d (.lst 1 (ks.map datI)), .d (.lst 1 (sk.map datI)), .d (.lst 1 (pl.map datI)), .d (.int .i64 s)] [.row 3 1 (((ansOrderByPlaces ks sk pl s).getD []).map datI), .d (.bool (ansOrderByPlaces ks sk pl s).isSome)] := by
  refine fn_ok G_ok Tryz.func28 rfl rfl ?_; simp only [Tryz.ntmps28, List.length_cons, List.length_nil, Nat.reduceAdd, Nat.reduceSub, enm]
  have c1 := dwKeys4_ok ks hks
  have c2 := soOrder_ok sk hsk
  have c3 := l1AllP_ok pl 1 99 hpl
  have c4 := soSize_ok s
  have hno : ¬ ByOk ks sk pl s → ansOrderByPlaces ks sk pl s = none := fun h => optP_neg h
  have hyes : ByOk ks sk pl s → ansOrderByPlaces ks sk pl s = some (obZ ks (fallT ks sk pl 99) s.toNat) := fun h => optP_pos h
  by_cases h1 : KeysOk ks
  case neg =>
    rw [hno fun h => h1 h.1]
    rw [bP_false h1] at c1
    repeat' (first | ((with_reducible first | (refine hK _ ?_; clear hK K) | refine stq fun K' hK' => ?_ | refine stc ?_); try simp only [go_sem]) | (with_reducible first | refine stp ?_ | (refine hK' _ ?_; clear hK' K') | refine kN kl28 fun K hK => ?_ | refine kO fun K hK => ?_) | (refine xS rfl fun K' hK' => ?_; simp only [go_sem]) | ((with_reducible apply CallK.eq); (· with_reducible first | exact c1); (· simp [RV.flat, D.sc, datI]); try simp only [go_sem]) | refine iB ?_ | (with_reducible refine pK_mk ?_ ?_ <;> (intro hc; (try simp only [go_sem]); (try simp at hc); try (exfalso; omega))) | with_reducible refine And.intro (by first | omega | (unfold inI; omega)) ?_)
    refine retQ_ret rfl (by simp only [retL, ret1, hget, lk, List.length_map, List.length_nil, List.length_append, List.length_take, if_true, if_false, Nat.reduceEqDiff, Nat.reduceBEq, Bool.false_eq_true, Option.some.injEq]; rfl) (by simp [rowsOf, lk]) ?_; rfl
  rw [bP_true h1] at c1
  by_cases h2 : OrdOk sk
  case neg =>
    rw [hno fun h => h2 h.2.1]
    rw [bP_false h2] at c2
    repeat' (first | ((with_reducible first | (refine hK _ ?_; clear hK K) | refine stq fun K' hK' => ?_ | refine stc ?_); try simp only [go_sem]) | (with_reducible first | refine stp ?_ | (refine hK' _ ?_; clear hK' K') | refine kN kl28 fun K hK => ?_ | refine kO fun K hK => ?_) | (refine xS rfl fun K' hK' => ?_; simp only [go_sem]) | ((with_reducible apply CallK.eq); (· with_reducible first | exact c1 | exact c2); (· simp [RV.flat, D.sc, datI]); try simp only [go_sem]) | refine iB ?_ | (with_reducible refine pK_mk ?_ ?_ <;> (intro hc; (try simp only [go_sem]); (try simp at hc); try (exfalso; omega))) | with_reducible refine And.intro (by first | omega | (unfold inI; omega)) ?_)
    refine retQ_ret rfl (by simp only [retL, ret1, hget, lk, List.length_map, List.length_nil, List.length_append, List.length_take, if_true, if_false, Nat.reduceEqDiff, Nat.reduceBEq, Bool.false_eq_true, Option.some.injEq]; rfl) (by simp [rowsOf, lk]) ?_; rfl
  rw [bP_true h2] at c2
  by_cases h3 : pl.length = sk.length
  case neg =>
    rw [hno fun h => h3 h.2.2.1]
    have h3' : ((pl.length : Int) == (sk.length : Int)) = false := by rw [beq_eq_false_iff_ne]; omega
    repeat' (first | ((with_reducible first | (refine hK _ ?_; clear hK K) | refine stq fun K' hK' => ?_ | refine stc ?_); try simp only [go_sem, h3', bne]) | (with_reducible first | refine stp ?_ | (refine hK' _ ?_; clear hK' K') | refine kN kl28 fun K hK => ?_ | refine kO fun K hK => ?_) | (refine xS rfl fun K' hK' => ?_; simp only [go_sem, h3', bne]) | ((with_reducible apply CallK.eq); (· with_reducible first | exact c1 | exact c2); (· simp [RV.flat, D.sc, datI]); try simp only [go_sem, h3', bne]) | refine iB ?_ | (with_reducible refine pK_mk ?_ ?_ <;> (intro hc; (try simp only [go_sem, h3', bne]); (try simp at hc); try (exfalso; omega))) | with_reducible refine And.intro (by first | omega | (unfold inI; omega)) ?_)
    all_goals first
      | (exfalso; omega)
      | (refine retQ_ret rfl (by simp only [retL, ret1, hget, lk, List.length_map, List.length_nil, List.length_append, List.length_take, if_true, if_false, Nat.reduceEqDiff, Nat.reduceBEq, Bool.false_eq_true, Option.some.injEq]; rfl) (by simp [rowsOf, lk]) ?_; rfl)
  by_cases h4 : RngP 1 99 pl
  case neg =>
    rw [hno fun h => h4 h.2.2.2.1]
    rw [bP_false h4] at c3
    repeat' (first | ((with_reducible first | (refine hK _ ?_; clear hK K) | refine stq fun K' hK' => ?_ | refine stc ?_); try simp only [go_sem, h3, bne_self_eq_false]) | (with_reducible first | refine stp ?_ | (refine hK' _ ?_; clear hK' K') | refine kN kl28 fun K hK => ?_ | refine kO fun K hK => ?_) | (refine xS rfl fun K' hK' => ?_; simp only [go_sem, h3, bne_self_eq_false]) | ((with_reducible apply CallK.eq); (· with_reducible first | exact c1 | exact c2 | exact c3); (· simp [RV.flat, D.sc, datI]); try simp only [go_sem, h3, bne_self_eq_false]) | refine iB ?_ | (with_reducible refine pK_mk ?_ ?_ <;> (intro hc; (try simp only [go_sem, h3, bne_self_eq_false]); (try simp at hc); try (exfalso; omega))) | with_reducible refine And.intro (by first | omega | (unfold inI; omega)) ?_)
    all_goals first
      | (exfalso; omega)
      | (refine retQ_ret rfl (by simp only [retL, ret1, hget, lk, List.length_map, List.length_nil, List.length_append, List.length_take, if_true, if_false, Nat.reduceEqDiff, Nat.reduceBEq, Bool.false_eq_true, Option.some.injEq]; rfl) (by simp [rowsOf, lk]) ?_; rfl)
  rw [bP_true h4] at c3
  by_cases h5 : 1 ≤ s ∧ s ≤ 8
  case neg =>
    rw [hno fun h => h5 h.2.2.2.2]
    have h5' : (decide (1 ≤ s) && decide (s ≤ 8)) = false := by
      rw [Bool.and_eq_false_iff, decide_eq_false_iff_not, decide_eq_false_iff_not]
      omega
    rw [h5'] at c4
    repeat' (first | ((with_reducible first | (refine hK _ ?_; clear hK K) | refine stq fun K' hK' => ?_ | refine stc ?_); try simp only [go_sem, h3, bne_self_eq_false]) | (with_reducible first | refine stp ?_ | (refine hK' _ ?_; clear hK' K') | refine kN kl28 fun K hK => ?_ | refine kO fun K hK => ?_) | (refine xS rfl fun K' hK' => ?_; simp only [go_sem, h3, bne_self_eq_false]) | ((with_reducible apply CallK.eq); (· with_reducible first | exact c1 | exact c2 | exact c3 | exact c4); (· simp [RV.flat, D.sc, datI]); try simp only [go_sem, h3, bne_self_eq_false]) | refine iB ?_ | (with_reducible refine pK_mk ?_ ?_ <;> (intro hc; (try simp only [go_sem, h3, bne_self_eq_false]); (try simp at hc); try (exfalso; omega))) | with_reducible refine And.intro (by first | omega | (unfold inI; omega)) ?_)
    all_goals first
      | (exfalso; omega)
      | (refine retQ_ret rfl (by simp only [retL, ret1, hget, lk, List.length_map, List.length_nil, List.length_append, List.length_take, if_true, if_false, Nat.reduceEqDiff, Nat.reduceBEq, Bool.false_eq_true, Option.some.injEq]; rfl) (by simp [rowsOf, lk]) ?_; rfl)
  rw [decide_eq_true h5.1, decide_eq_true h5.2] at c4
  have hB : ByOk ks sk pl s := ⟨h1, h2, h3, h4, h5⟩
  rw [hyes hB]
  obtain ⟨q, rfl, hq1, hq8⟩ : ∃ q : Nat, s = (q : Int) ∧ 1 ≤ q ∧ q ≤ 8 := ⟨s.toNat, by omega, by omega, by omega⟩
  have hkl := h1.1
  have hk := h1.2
  have hs := h2.1
  have hfall := soFalling_ok ks sk pl hkl hk hs h3 (fun x hx => (h4 x hx).2)
  have hfp := fall_all hkl hk hs h3 h4
  have hFl := hfp.length_eq
  rw [Int.toNat_natCast]
  generalize fallT ks sk pl 99 = F at *
  have hrm : (F.length : Int).tmod (q : Int) = ((F.length % q : Nat) : Int) := rfl
  have hmo : F.length % q ≤ F.length := Nat.mod_le _ _
  have hoe := offO_end F.length q hq1
  have hole := fun k => offZ_le (szO F.length q) k
  have hol := fun k => offO_lt (n := F.length) (s := q) (k := k) hq1
  have hgl := grO_len F q
  have hszl := szT_len_le F.length q (F.length / q)
  rw [szT_end] at hszl
  have hszn := szO_le (n := F.length) hq1
  have hgb := grO_bd (F := F) (s := q) (by omega)
  have hob : obZ ks F q = stTo ks (grO F q) (grO F q).length := rfl
  have hgg := fun k => grO_get (F := F) (s := q) (k := k)
  have hos := fun k h => offZ_succ (szO_get (n := F.length) (s := q) (k := k) h)
  rw [hob]
  generalize grO F q = g at *
  rw [← hgl] at hoe hol hgg hos hszl hszn
  repeat' (first | ((with_reducible first | (refine hK _ ?_; clear hK K) | refine stq fun K' hK' => ?_ | refine stc ?_); try simp only [go_sem, h3, bne_self_eq_false, Bool.and_self, hrm]) | (with_reducible first | refine stp ?_ | (refine hK' _ ?_; clear hK' K') | refine kN kl28 fun K hK => ?_ | refine kO fun K hK => ?_) | (refine xS rfl fun K' hK' => ?_; simp only [go_sem, h3, bne_self_eq_false, Bool.and_self, hrm]) | ((with_reducible apply CallK.eq); (· with_reducible first | exact c1 | exact c2 | exact c3 | exact c4 | exact hfall); (· simp [RV.flat, D.sc, datI]); try simp only [go_sem, h3, bne_self_eq_false, Bool.and_self, hrm]) | refine iB ?_ | (with_reducible refine pK_mk ?_ ?_ <;> (intro hc; (try simp only [go_sem, h3, bne_self_eq_false, Bool.and_self, hrm]); (try simp at hc); try (exfalso; omega))) | with_reducible refine And.intro (by first | omega | (unfold inI; omega)) ?_)
  all_goals first
    | (exfalso; omega)
    | skip
  refine pw_freeze 10 rfl rfl (by simp) ?_
  simp only [go_sem]
  have hoz : offZ (szO F.length q) 0 = 0 := rfl
  rw [← hgl] at hole
  generalize F.length % q = rq at *
  generalize offZ (szO F.length q) = off at *
  obtain ⟨R, hR⟩ : ∃ R : Nat → List Int, ∀ k, R k = F.drop (off k) := ⟨_, fun _ => rfl⟩
  have hR0 : R 0 = F := by rw [hR, hoz]; rfl
  refine pw_loop_over [8, 9, 10, 11, 13, 14, 48, 49, 50, 51, 52, 53, 54, 55, 56, 57, 58, 59, 60, 61, 62, 63, 64, 65, 66, 67, 68, 69, 70, 71, 72, 73, 74] (fun k : Nat => [(13, .d (.int .i64 (k : Int))), (12, .d (.int .i64 (rq : Int))), (11, .row 1 (stTo ks g k).length), (10, .d (.lst 1 ((R k).map datI)))]) (fun k => [(1, .row 3 1 ((stTo ks g k).map datI))]) 2 (fun k => k ≤ g.length) (fun k => g.length - k) 0 (Nat.zero_le _) (fits_mk [] (by simp [renL_d, bdL_d, sg, over, wipe, wl, memN, ins, rm, lk, fitFr, fit1, ren, renL, bd, bdL, app, fitHp, hget, renB, bdB, stTo_zero, hR0] <;> omega)) ?_
  intro k hkl
  have hsl := stTo_len (ks := ks) hgb k hkl
  have hsl2 : (stTo ks g k).length ≤ 2000 := Nat.le_trans hsl (by omega)
  have hdl : (R k).length = F.length - off k := by rw [hR]; exact List.length_drop
  simp only [over, wipe, wl, memN, ins, rm, if_true, if_false, Nat.reduceEqDiff, Bool.false_eq_true, reduceCtorEq]
  by_cases hlt : k < g.length
  · have ho1 := hol k hlt
    have ho2 := hos k hlt
    have hx := hgg k hlt
    rw [← hR] at hx
    have ho3 := hole (k + 1)
    have h0l : (0 : Int) < ((R k).length : Int) := by omega
    have hd2 := fun c : Nat => List.drop_drop (i := c) (j := off k) (l := F)
    have e := stTo_succ (ks := ks) hx
    obtain ⟨c, hcc, hc1⟩ : ∃ c : Nat, c = (if k = 0 ∧ 0 < rq then rq else q) ∧ ((k = 0 ∧ 0 < rq ∧ c = rq) ∨ (k = 0 ∧ rq = 0 ∧ c = q) ∨ (k ≠ 0 ∧ c = q)) := by
      refine ⟨_, rfl, ?_⟩
      by_cases hf : k = 0 ∧ 0 < rq
      · rw [if_pos hf]; exact .inl ⟨hf.1, hf.2, rfl⟩
      · rw [if_neg hf]
        by_cases hk0 : k = 0
        · exact .inr (.inl ⟨hk0, by omega, rfl⟩)
        · exact .inr (.inr ⟨hk0, rfl⟩)
    have hcn : (if k = 0 ∧ 0 < rq then ((rq : Nat) : Int) else (q : Int)).toNat = c := by rw [hcc]; split <;> rfl
    rw [hcn] at ho2
    rw [← hcc] at hx e
    have hle : c ≤ (R k).length := by omega
    have hle2 : (c : Int) ≤ ((R k).length : Int) := by omega
    have htk : List.take c ((R k).map datI) = ((R k).take c).map datI := by rw [List.map_take]
    have hdr : List.drop c ((R k).map datI) = (R (k + 1)).map datI := by rw [← List.map_drop, hR, hd2, hR, ho2]
    have hcl := hgb _ (List.mem_of_getElem? hx)
    have hchl : ((R k).take c).length = c := by rw [List.length_take]; omega
    clear hd2
    generalize (R k).take c = ch at *
    generalize R k = rest at *
    have hrl : rest.length ≤ 40 := by omega
    have hml : (List.map datI rest).length = rest.length := List.length_map _
    have htx : List.take rest.length (List.map datI rest) = List.map datI rest := List.take_of_length_le (by simp)
    have hkr : KeyR (ks ++ [(k : Int)]) := hk.app (KeyR.one (by omega) (by omega))
    have hyl : (ks ++ [(k : Int)]).length ≤ 100 := by simp; omega
    have hnl := numZ_len (ks ++ [(k : Int)]) ch
    have hap : ks.map datI ++ [[.int .i64 (k : Int)]] = (ks ++ [(k : Int)]).map datI := by simp [datI]
    have hxl : ks.length + 1 = (ks ++ [(k : Int)]).length := by simp
    have hsn := dwNumbers_ok (ks ++ [(k : Int)]) ch hyl hkr (by omega)
    generalize numZ (ks ++ [(k : Int)]) ch = nn at hsn hnl e
    generalize ks ++ [(k : Int)] = ys at hap hxl hsn
    rcases hc1 with ⟨hk0, hr0, rfl⟩ | ⟨hk0, hr0, rfl⟩ | ⟨hk0, rfl⟩
    · have hk1 : ((k : Int) = 0) = True := eq_true (by omega)
      have hr1 : (0 : Int) < c := by omega
      repeat' (first | ((with_reducible first | (refine hK _ ?_; clear hK K) | refine stq fun K' hK' => ?_ | refine stc ?_); try simp only [go_sem, h0l, hk1, hr1]) | (with_reducible first | refine stp ?_ | (refine hK' _ ?_; clear hK' K') | refine kN kl28 fun K hK => ?_ | refine kO fun K hK => ?_) | (refine xS rfl fun K' hK' => ?_; simp only [go_sem, h0l, hk1, hr1]) | refine iB ?_ | (with_reducible refine pK_mk ?_ ?_ <;> (intro hc; (try simp only [go_sem, h0l, hk1, hr1]); (try simp at hc); try (exfalso; omega))) | with_reducible refine And.intro (by first | omega | (unfold inI; omega)) ?_)
      all_goals first
        | (exfalso; omega)
        | skip
      refine pw_seq_anyN kl28 mixed ?_
      refine anyN_take 0 rfl rfl rfl (by decide +kernel) (by decide +kernel) (by decide +kernel) (pure_move (.inl rfl)) ?_
      try simp only [go_sem, Nat.zero_add, Int.toNat_natCast, Nat.mul_one, hap, hxl, htk, htx, List.length_map, List.drop_zero]
      refine anyN_take 1 rfl rfl rfl (by decide +kernel) (by decide +kernel) (by decide +kernel) (pure_move (.inl rfl)) ?_
      try simp only [go_sem, Nat.zero_add, Int.toNat_natCast, Nat.mul_one, hap, hxl, htk, htx, List.length_map, List.drop_zero]
      refine anyN_take 3 rfl rfl rfl (by decide +kernel) (by decide +kernel) (by decide +kernel) (pure_move (.inl rfl)) ?_
      try simp only [go_sem, Nat.zero_add, Int.toNat_natCast, Nat.mul_one, hap, hxl, htk, htx, List.length_map, List.drop_zero]
      refine anyN_take 6 rfl rfl rfl (by decide +kernel) (by decide +kernel) (by decide +kernel) (pure_move (.inl rfl)) ?_
      try simp only [go_sem, Nat.zero_add, Int.toNat_natCast, Nat.mul_one, hap, hxl, htk, htx, List.length_map, List.drop_zero]
      refine anyN_take 7 rfl rfl rfl (by decide +kernel) (by decide +kernel) (by decide +kernel) (pure_move (.inl rfl)) ?_
      try simp only [go_sem, Nat.zero_add, Int.toNat_natCast, Nat.mul_one, hap, hxl, htk, htx, List.length_map, List.drop_zero]
      refine anyN_take 8 rfl rfl rfl (by decide +kernel) (by decide +kernel) (by decide +kernel) (pure_slice rfl (G_ok _ _ G31) rfl rfl rfl (by omega) (by omega) (by omega) rfl) ?_
      try simp only [go_sem, Nat.zero_add, Int.toNat_natCast, Nat.mul_one, hap, hxl, htk, htx, List.length_map, List.drop_zero]
      repeat' (first
        | (with_reducible refine hK' _ ?_; clear hK' K'; try simp only [go_sem, Nat.zero_add, Int.toNat_natCast, Nat.mul_one, hap, hxl, htk, htx, List.length_map, List.drop_zero])
        | ((with_reducible apply CallK.eq); (focus (with_reducible first | exact l1OwnM_ok ks (by omega) | exact hsn)); (focus (first | exact rfl | (simp [RV.flat, D.sc, datI]; done))); try simp only [go_sem, Nat.zero_add, Int.toNat_natCast, Nat.mul_one, hap, hxl, htk, htx, List.length_map, List.drop_zero])
        | with_reducible refine And.intro (by first | omega | (unfold inI; omega)) ?_
        | (refine anyN_take 11 rfl rfl rfl (by decide +kernel) (by decide +kernel) (by decide +kernel) (pure_move (.inr rfl)) ?_; try simp only [go_sem, Nat.zero_add, Int.toNat_natCast, Nat.mul_one, hap, hxl, htk, htx, List.length_map, List.drop_zero])
        | (refine anyN_step G_ok [2, 4] (by decide +kernel) rfl ⟨⟨_, rfl, fun K' hK' => ?_⟩, ⟨_, rfl, fun K' hK' => ?_⟩, trivial⟩ <;> ((first | with_reducible refine s_none rfl ?_ | refine s_some2 rfl ?_); simp only [go_sem, Nat.zero_add, Int.toNat_natCast, Nat.mul_one, hap, hxl, htk, htx, List.length_map, List.drop_zero]))
        | (refine anyN_step G_ok [4] (by decide +kernel) rfl ⟨⟨_, rfl, fun K' hK' => ?_⟩, trivial⟩ <;> ((first | with_reducible refine s_none rfl ?_ | refine s_some2 rfl ?_); simp only [go_sem, Nat.zero_add, Int.toNat_natCast, Nat.mul_one, hap, hxl, htk, htx, List.length_map, List.drop_zero]))
        | (refine anyN_step G_ok [5] (by decide +kernel) rfl ⟨⟨_, rfl, fun K' hK' => ?_⟩, trivial⟩ <;> ((first | with_reducible refine s_none rfl ?_ | refine s_some2 rfl ?_); simp only [go_sem, Nat.zero_add, Int.toNat_natCast, Nat.mul_one, hap, hxl, htk, htx, List.length_map, List.drop_zero]))
        | (refine anyN_step G_ok [9] (by decide +kernel) rfl ⟨⟨_, rfl, fun K' hK' => ?_⟩, trivial⟩ <;> ((first | with_reducible refine s_none rfl ?_ | refine s_some2 rfl ?_); simp only [go_sem, Nat.zero_add, Int.toNat_natCast, Nat.mul_one, hap, hxl, htk, htx, List.length_map, List.drop_zero]))
        | (refine anyN_step G_ok [10] (by decide +kernel) rfl ⟨⟨_, rfl, fun K' hK' => ?_⟩, trivial⟩ <;> ((first | with_reducible refine s_none rfl ?_ | refine s_some2 rfl ?_); simp only [go_sem, Nat.zero_add, Int.toNat_natCast, Nat.mul_one, hap, hxl, htk, htx, List.length_map, List.drop_zero]))
        | (refine anyN_step G_ok [2] (by decide +kernel) rfl ⟨⟨_, rfl, fun K' hK' => ?_⟩, trivial⟩ <;> ((first | with_reducible refine s_none rfl ?_ | refine s_some2 rfl ?_); simp only [go_sem, Nat.zero_add, Int.toNat_natCast, Nat.mul_one, hap, hxl, htk, htx, List.length_map, List.drop_zero]))
        | (refine anyN_done (by decide +kernel) ?_; try simp only [go_sem, Nat.zero_add, Int.toNat_natCast, Nat.mul_one, hap, hxl, htk, htx, List.length_map, List.drop_zero]))
      all_goals
        skip
      all_goals
        repeat' (first | ((with_reducible first | (refine hK _ ?_; clear hK K) | refine stq fun K' hK' => ?_ | refine stc ?_); try simp only [go_sem, hle2, htk, htx, hdr, List.length_map, List.drop_zero]) | (with_reducible first | refine stp ?_ | (refine hK' _ ?_; clear hK' K') | refine kN kl28 fun K hK => ?_ | refine kO fun K hK => ?_) | (refine xS rfl fun K' hK' => ?_; simp only [go_sem, hle2, htk, htx, hdr, List.length_map, List.drop_zero]) | refine iB ?_ | (with_reducible refine pK_mk ?_ ?_ <;> (intro hc; (try simp only [go_sem, hle2, htk, htx, hdr, List.length_map, List.drop_zero]); (try simp at hc); try (exfalso; omega))) | with_reducible refine And.intro (by first | omega | (unfold inI; omega)) ?_)
        all_goals first
          | (exfalso; omega)
          | exact ⟨k + 1, by omega, by omega, (fits_mk [] (by simp [renL_d, bdL_d, sg, over, wipe, wl, memN, ins, rm, lk, fitFr, fit1, ren, renL, bd, bdL, app, fitHp, hget, renB, bdB, e, hdr, htx] <;> omega))⟩
    · have hk1 : ((k : Int) = 0) = True := eq_true (by omega)
      have hr1 : ¬ (0 : Int) < rq := by omega
      repeat' (first | ((with_reducible first | (refine hK _ ?_; clear hK K) | refine stq fun K' hK' => ?_ | refine stc ?_); try simp only [go_sem, h0l, hk1, hr1]) | (with_reducible first | refine stp ?_ | (refine hK' _ ?_; clear hK' K') | refine kN kl28 fun K hK => ?_ | refine kO fun K hK => ?_) | (refine xS rfl fun K' hK' => ?_; simp only [go_sem, h0l, hk1, hr1]) | refine iB ?_ | (with_reducible refine pK_mk ?_ ?_ <;> (intro hc; (try simp only [go_sem, h0l, hk1, hr1]); (try simp at hc); try (exfalso; omega))) | with_reducible refine And.intro (by first | omega | (unfold inI; omega)) ?_)
      all_goals first
        | (exfalso; omega)
        | skip
      refine pw_seq_anyN kl28 mixed ?_
      refine anyN_take 0 rfl rfl rfl (by decide +kernel) (by decide +kernel) (by decide +kernel) (pure_move (.inl rfl)) ?_
      try simp only [go_sem, Nat.zero_add, Int.toNat_natCast, Nat.mul_one, hap, hxl, htk, htx, List.length_map, List.drop_zero]
      refine anyN_take 1 rfl rfl rfl (by decide +kernel) (by decide +kernel) (by decide +kernel) (pure_move (.inl rfl)) ?_
      try simp only [go_sem, Nat.zero_add, Int.toNat_natCast, Nat.mul_one, hap, hxl, htk, htx, List.length_map, List.drop_zero]
      refine anyN_take 3 rfl rfl rfl (by decide +kernel) (by decide +kernel) (by decide +kernel) (pure_move (.inl rfl)) ?_
      try simp only [go_sem, Nat.zero_add, Int.toNat_natCast, Nat.mul_one, hap, hxl, htk, htx, List.length_map, List.drop_zero]
      refine anyN_take 6 rfl rfl rfl (by decide +kernel) (by decide +kernel) (by decide +kernel) (pure_move (.inl rfl)) ?_
      try simp only [go_sem, Nat.zero_add, Int.toNat_natCast, Nat.mul_one, hap, hxl, htk, htx, List.length_map, List.drop_zero]
      refine anyN_take 7 rfl rfl rfl (by decide +kernel) (by decide +kernel) (by decide +kernel) (pure_move (.inl rfl)) ?_
      try simp only [go_sem, Nat.zero_add, Int.toNat_natCast, Nat.mul_one, hap, hxl, htk, htx, List.length_map, List.drop_zero]
      refine anyN_take 8 rfl rfl rfl (by decide +kernel) (by decide +kernel) (by decide +kernel) (pure_slice rfl (G_ok _ _ G31) rfl rfl rfl (by omega) (by omega) (by omega) rfl) ?_
      try simp only [go_sem, Nat.zero_add, Int.toNat_natCast, Nat.mul_one, hap, hxl, htk, htx, List.length_map, List.drop_zero]
      repeat' (first
        | (with_reducible refine hK' _ ?_; clear hK' K'; try simp only [go_sem, Nat.zero_add, Int.toNat_natCast, Nat.mul_one, hap, hxl, htk, htx, List.length_map, List.drop_zero])
        | ((with_reducible apply CallK.eq); (focus (with_reducible first | exact l1OwnM_ok ks (by omega) | exact hsn)); (focus (first | exact rfl | (simp [RV.flat, D.sc, datI]; done))); try simp only [go_sem, Nat.zero_add, Int.toNat_natCast, Nat.mul_one, hap, hxl, htk, htx, List.length_map, List.drop_zero])
        | with_reducible refine And.intro (by first | omega | (unfold inI; omega)) ?_
        | (refine anyN_take 11 rfl rfl rfl (by decide +kernel) (by decide +kernel) (by decide +kernel) (pure_move (.inr rfl)) ?_; try simp only [go_sem, Nat.zero_add, Int.toNat_natCast, Nat.mul_one, hap, hxl, htk, htx, List.length_map, List.drop_zero])
        | (refine anyN_step G_ok [2, 4] (by decide +kernel) rfl ⟨⟨_, rfl, fun K' hK' => ?_⟩, ⟨_, rfl, fun K' hK' => ?_⟩, trivial⟩ <;> ((first | with_reducible refine s_none rfl ?_ | refine s_some2 rfl ?_); simp only [go_sem, Nat.zero_add, Int.toNat_natCast, Nat.mul_one, hap, hxl, htk, htx, List.length_map, List.drop_zero]))
        | (refine anyN_step G_ok [4] (by decide +kernel) rfl ⟨⟨_, rfl, fun K' hK' => ?_⟩, trivial⟩ <;> ((first | with_reducible refine s_none rfl ?_ | refine s_some2 rfl ?_); simp only [go_sem, Nat.zero_add, Int.toNat_natCast, Nat.mul_one, hap, hxl, htk, htx, List.length_map, List.drop_zero]))
        | (refine anyN_step G_ok [5] (by decide +kernel) rfl ⟨⟨_, rfl, fun K' hK' => ?_⟩, trivial⟩ <;> ((first | with_reducible refine s_none rfl ?_ | refine s_some2 rfl ?_); simp only [go_sem, Nat.zero_add, Int.toNat_natCast, Nat.mul_one, hap, hxl, htk, htx, List.length_map, List.drop_zero]))
        | (refine anyN_step G_ok [9] (by decide +kernel) rfl ⟨⟨_, rfl, fun K' hK' => ?_⟩, trivial⟩ <;> ((first | with_reducible refine s_none rfl ?_ | refine s_some2 rfl ?_); simp only [go_sem, Nat.zero_add, Int.toNat_natCast, Nat.mul_one, hap, hxl, htk, htx, List.length_map, List.drop_zero]))
        | (refine anyN_step G_ok [10] (by decide +kernel) rfl ⟨⟨_, rfl, fun K' hK' => ?_⟩, trivial⟩ <;> ((first | with_reducible refine s_none rfl ?_ | refine s_some2 rfl ?_); simp only [go_sem, Nat.zero_add, Int.toNat_natCast, Nat.mul_one, hap, hxl, htk, htx, List.length_map, List.drop_zero]))
        | (refine anyN_step G_ok [2] (by decide +kernel) rfl ⟨⟨_, rfl, fun K' hK' => ?_⟩, trivial⟩ <;> ((first | with_reducible refine s_none rfl ?_ | refine s_some2 rfl ?_); simp only [go_sem, Nat.zero_add, Int.toNat_natCast, Nat.mul_one, hap, hxl, htk, htx, List.length_map, List.drop_zero]))
        | (refine anyN_done (by decide +kernel) ?_; try simp only [go_sem, Nat.zero_add, Int.toNat_natCast, Nat.mul_one, hap, hxl, htk, htx, List.length_map, List.drop_zero]))
      all_goals
        skip
      all_goals
        repeat' (first | ((with_reducible first | (refine hK _ ?_; clear hK K) | refine stq fun K' hK' => ?_ | refine stc ?_); try simp only [go_sem, hle2, htk, htx, hdr, List.length_map, List.drop_zero]) | (with_reducible first | refine stp ?_ | (refine hK' _ ?_; clear hK' K') | refine kN kl28 fun K hK => ?_ | refine kO fun K hK => ?_) | (refine xS rfl fun K' hK' => ?_; simp only [go_sem, hle2, htk, htx, hdr, List.length_map, List.drop_zero]) | refine iB ?_ | (with_reducible refine pK_mk ?_ ?_ <;> (intro hc; (try simp only [go_sem, hle2, htk, htx, hdr, List.length_map, List.drop_zero]); (try simp at hc); try (exfalso; omega))) | with_reducible refine And.intro (by first | omega | (unfold inI; omega)) ?_)
        all_goals first
          | (exfalso; omega)
          | exact ⟨k + 1, by omega, by omega, (fits_mk [] (by simp [renL_d, bdL_d, sg, over, wipe, wl, memN, ins, rm, lk, fitFr, fit1, ren, renL, bd, bdL, app, fitHp, hget, renB, bdB, e, hdr, htx] <;> omega))⟩
    · have hk1 : ((k : Int) = 0) = False := eq_false (by omega)
      have hr1 : True := trivial
      repeat' (first | ((with_reducible first | (refine hK _ ?_; clear hK K) | refine stq fun K' hK' => ?_ | refine stc ?_); try simp only [go_sem, h0l, hk1, hr1]) | (with_reducible first | refine stp ?_ | (refine hK' _ ?_; clear hK' K') | refine kN kl28 fun K hK => ?_ | refine kO fun K hK => ?_) | (refine xS rfl fun K' hK' => ?_; simp only [go_sem, h0l, hk1, hr1]) | refine iB ?_ | (with_reducible refine pK_mk ?_ ?_ <;> (intro hc; (try simp only [go_sem, h0l, hk1, hr1]); (try simp at hc); try (exfalso; omega))) | with_reducible refine And.intro (by first | omega | (unfold inI; omega)) ?_)
      all_goals first
        | (exfalso; omega)
        | skip
      refine pw_seq_anyN kl28 mixed ?_
      refine anyN_take 0 rfl rfl rfl (by decide +kernel) (by decide +kernel) (by decide +kernel) (pure_move (.inl rfl)) ?_
      try simp only [go_sem, Nat.zero_add, Int.toNat_natCast, Nat.mul_one, hap, hxl, htk, htx, List.length_map, List.drop_zero]
      refine anyN_take 1 rfl rfl rfl (by decide +kernel) (by decide +kernel) (by decide +kernel) (pure_move (.inl rfl)) ?_
      try simp only [go_sem, Nat.zero_add, Int.toNat_natCast, Nat.mul_one, hap, hxl, htk, htx, List.length_map, List.drop_zero]
      refine anyN_take 3 rfl rfl rfl (by decide +kernel) (by decide +kernel) (by decide +kernel) (pure_move (.inl rfl)) ?_
      try simp only [go_sem, Nat.zero_add, Int.toNat_natCast, Nat.mul_one, hap, hxl, htk, htx, List.length_map, List.drop_zero]
      refine anyN_take 6 rfl rfl rfl (by decide +kernel) (by decide +kernel) (by decide +kernel) (pure_move (.inl rfl)) ?_
      try simp only [go_sem, Nat.zero_add, Int.toNat_natCast, Nat.mul_one, hap, hxl, htk, htx, List.length_map, List.drop_zero]
      refine anyN_take 7 rfl rfl rfl (by decide +kernel) (by decide +kernel) (by decide +kernel) (pure_move (.inl rfl)) ?_
      try simp only [go_sem, Nat.zero_add, Int.toNat_natCast, Nat.mul_one, hap, hxl, htk, htx, List.length_map, List.drop_zero]
      refine anyN_take 8 rfl rfl rfl (by decide +kernel) (by decide +kernel) (by decide +kernel) (pure_slice rfl (G_ok _ _ G31) rfl rfl rfl (by omega) (by omega) (by omega) rfl) ?_
      try simp only [go_sem, Nat.zero_add, Int.toNat_natCast, Nat.mul_one, hap, hxl, htk, htx, List.length_map, List.drop_zero]
      repeat' (first
        | (with_reducible refine hK' _ ?_; clear hK' K'; try simp only [go_sem, Nat.zero_add, Int.toNat_natCast, Nat.mul_one, hap, hxl, htk, htx, List.length_map, List.drop_zero])
        | ((with_reducible apply CallK.eq); (focus (with_reducible first | exact l1OwnM_ok ks (by omega) | exact hsn)); (focus (first | exact rfl | (simp [RV.flat, D.sc, datI]; done))); try simp only [go_sem, Nat.zero_add, Int.toNat_natCast, Nat.mul_one, hap, hxl, htk, htx, List.length_map, List.drop_zero])
        | with_reducible refine And.intro (by first | omega | (unfold inI; omega)) ?_
        | (refine anyN_take 11 rfl rfl rfl (by decide +kernel) (by decide +kernel) (by decide +kernel) (pure_move (.inr rfl)) ?_; try simp only [go_sem, Nat.zero_add, Int.toNat_natCast, Nat.mul_one, hap, hxl, htk, htx, List.length_map, List.drop_zero])
        | (refine anyN_step G_ok [2, 4] (by decide +kernel) rfl ⟨⟨_, rfl, fun K' hK' => ?_⟩, ⟨_, rfl, fun K' hK' => ?_⟩, trivial⟩ <;> ((first | with_reducible refine s_none rfl ?_ | refine s_some2 rfl ?_); simp only [go_sem, Nat.zero_add, Int.toNat_natCast, Nat.mul_one, hap, hxl, htk, htx, List.length_map, List.drop_zero]))
        | (refine anyN_step G_ok [4] (by decide +kernel) rfl ⟨⟨_, rfl, fun K' hK' => ?_⟩, trivial⟩ <;> ((first | with_reducible refine s_none rfl ?_ | refine s_some2 rfl ?_); simp only [go_sem, Nat.zero_add, Int.toNat_natCast, Nat.mul_one, hap, hxl, htk, htx, List.length_map, List.drop_zero]))
        | (refine anyN_step G_ok [5] (by decide +kernel) rfl ⟨⟨_, rfl, fun K' hK' => ?_⟩, trivial⟩ <;> ((first | with_reducible refine s_none rfl ?_ | refine s_some2 rfl ?_); simp only [go_sem, Nat.zero_add, Int.toNat_natCast, Nat.mul_one, hap, hxl, htk, htx, List.length_map, List.drop_zero]))
        | (refine anyN_step G_ok [9] (by decide +kernel) rfl ⟨⟨_, rfl, fun K' hK' => ?_⟩, trivial⟩ <;> ((first | with_reducible refine s_none rfl ?_ | refine s_some2 rfl ?_); simp only [go_sem, Nat.zero_add, Int.toNat_natCast, Nat.mul_one, hap, hxl, htk, htx, List.length_map, List.drop_zero]))
        | (refine anyN_step G_ok [10] (by decide +kernel) rfl ⟨⟨_, rfl, fun K' hK' => ?_⟩, trivial⟩ <;> ((first | with_reducible refine s_none rfl ?_ | refine s_some2 rfl ?_); simp only [go_sem, Nat.zero_add, Int.toNat_natCast, Nat.mul_one, hap, hxl, htk, htx, List.length_map, List.drop_zero]))
        | (refine anyN_step G_ok [2] (by decide +kernel) rfl ⟨⟨_, rfl, fun K' hK' => ?_⟩, trivial⟩ <;> ((first | with_reducible refine s_none rfl ?_ | refine s_some2 rfl ?_); simp only [go_sem, Nat.zero_add, Int.toNat_natCast, Nat.mul_one, hap, hxl, htk, htx, List.length_map, List.drop_zero]))
        | (refine anyN_done (by decide +kernel) ?_; try simp only [go_sem, Nat.zero_add, Int.toNat_natCast, Nat.mul_one, hap, hxl, htk, htx, List.length_map, List.drop_zero]))
      all_goals
        skip
      all_goals
        repeat' (first | ((with_reducible first | (refine hK _ ?_; clear hK K) | refine stq fun K' hK' => ?_ | refine stc ?_); try simp only [go_sem, hle2, htk, htx, hdr, List.length_map, List.drop_zero]) | (with_reducible first | refine stp ?_ | (refine hK' _ ?_; clear hK' K') | refine kN kl28 fun K hK => ?_ | refine kO fun K hK => ?_) | (refine xS rfl fun K' hK' => ?_; simp only [go_sem, hle2, htk, htx, hdr, List.length_map, List.drop_zero]) | refine iB ?_ | (with_reducible refine pK_mk ?_ ?_ <;> (intro hc; (try simp only [go_sem, hle2, htk, htx, hdr, List.length_map, List.drop_zero]); (try simp at hc); try (exfalso; omega))) | with_reducible refine And.intro (by first | omega | (unfold inI; omega)) ?_)
        all_goals first
          | (exfalso; omega)
          | exact ⟨k + 1, by omega, by omega, (fits_mk [] (by simp [renL_d, bdL_d, sg, over, wipe, wl, memN, ins, rm, lk, fitFr, fit1, ren, renL, bd, bdL, app, fitHp, hget, renB, bdB, e, hdr, htx] <;> omega))⟩
  · obtain rfl : k = g.length := by omega
    have h0l : ¬ (0 : Int) < ((R g.length).length : Int) := by rw [hdl]; omega
    generalize R g.length = rest at *
    repeat' (first | ((with_reducible first | (refine hK _ ?_; clear hK K) | refine stq fun K' hK' => ?_ | refine stc ?_); try simp only [go_sem, h0l]) | (with_reducible first | refine stp ?_ | (refine hK' _ ?_; clear hK' K') | refine kN kl28 fun K hK => ?_ | refine kO fun K hK => ?_) | (refine xS rfl fun K' hK' => ?_; simp only [go_sem, h0l]) | refine iB ?_ | (with_reducible refine pK_mk ?_ ?_ <;> (intro hc; (try simp only [go_sem, h0l]); (try simp at hc); try (exfalso; omega))) | with_reducible refine And.intro (by first | omega | (unfold inI; omega)) ?_)
    all_goals first
      | (exfalso; omega)
      | (refine retQ_ret rfl (by simp only [retL, ret1, hget, lk, List.length_map, List.length_nil, List.length_append, List.length_take, if_true, if_false, Nat.reduceEqDiff, Nat.reduceBEq, Bool.false_eq_true, Option.some.injEq]; rfl) (by simp [rowsOf, lk]) ?_; rfl)
end Go.Proofs.YthocihmhljmgdaaGreatDoor
