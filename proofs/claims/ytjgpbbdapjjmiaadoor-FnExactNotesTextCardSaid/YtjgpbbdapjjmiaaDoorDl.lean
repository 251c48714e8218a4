/-
  The lines at which two texts differ: the reference's functions, in the abstract machine.
-/
import Derived.Test.YtjgpbbdapjjmiaaDoorSpg
import Derived.Test.YtjgpbbdapjjmiaaDoorIs0
set_option linter.unusedSimpArgs false
set_option linter.unusedVariables false
set_option maxHeartbeats 2000000
set_option maxRecDepth 100000
namespace Go.Proofs.YtjgpbbdapjjmiaaDoor
open Go.RowKit

theorem l1Split_ok (c : UInt8) (s : ByteArray) (hs : s.size ≤ 1048576) : FnEq Tryd.prog 21 [.d (.str s), .d (.int .u8 c.toNat)] [.row 9 1 ((splB c s).map datS)] := by
  refine fn_ok G_ok Tryd.func21 rfl rfl ?_; simp only [Tryd.ntmps21, List.length_cons, List.length_nil, Nat.reduceAdd, Nat.reduceSub, enm]
  repeat' (first | ((with_reducible first | (refine hK _ ?_; clear hK K) | refine stq fun K' hK' => ?_ | refine stc ?_); try simp only [go_sem]) | (with_reducible first | refine stp ?_ | (refine hK' _ ?_; clear hK' K') | refine kN kl21 fun K hK => ?_ | refine kO fun K hK => ?_) | refine iB ?_ | (with_reducible refine pK_mk ?_ ?_ <;> (intro hc; (try simp only [go_sem]); (try simp at hc); try (exfalso; omega))) | with_reducible refine And.intro (by first | omega | (unfold inI; omega)) ?_)
  refine pw_loop_over [4, 5, 6, 7, 8, 9, 10, 11, 12, 13, 14, 15, 16, 17, 18, 19, 20, 21, 22, 23, 24, 25, 26, 27] (fun k : Nat => [(7, .d (.int .i64 (k : Int))), (6, .d (.int .i64 (spF c s k : Int))), (5, .row 0 (spO c s k).length)]) (fun k : Nat => [(0, .row 9 1 ((spO c s k).map datS))]) 1 (fun k : Nat => k ≤ s.size) (fun k : Nat => s.size - k) 0 (Nat.zero_le _) (fits_mk [] (by simp [renL_d, bdL_d, sg, over, wipe, wl, memN, ins, rm, lk, fitFr, fit1, ren, renL, bd, bdL, app, fitHp, hget, renB, bdB, spF_zero, spO_zero] <;> omega)) ?_
  intro k hk
  have hL := spO_len c s k
  have hF := spF_le c s k
  simp only [over, wipe, wl, memN, ins, rm, if_true, if_false, Nat.reduceEqDiff, Bool.false_eq_true, reduceCtorEq]
  by_cases hlt : k < s.size
  · have hx : s[k]? = some s[k] := getElem?_pos s k hlt
    generalize s[k] = x at hx
    by_cases he : x = c
    · subst he
      obtain ⟨e1, e2⟩ := sp_yes hx
      repeat' (first | ((with_reducible first | (refine hK _ ?_; clear hK K) | refine stq fun K' hK' => ?_ | refine stc ?_); try simp only [go_sem, hx]) | (with_reducible first | refine stp ?_ | (refine hK' _ ?_; clear hK' K') | refine kN kl21 fun K hK => ?_ | refine kO fun K hK => ?_) | refine iB ?_ | (with_reducible refine pK_mk ?_ ?_ <;> (intro hc; (try simp only [go_sem, hx]); (try simp at hc); try (exfalso; omega))) | with_reducible refine And.intro (by first | omega | (unfold inI; omega)) ?_)
      all_goals exact ⟨k + 1, by omega, by omega, (fits_mk [] (by simp [renL_d, bdL_d, sg, over, wipe, wl, memN, ins, rm, lk, fitFr, fit1, ren, renL, bd, bdL, app, fitHp, hget, renB, bdB, e1, e2, datS] <;> omega))⟩
    · obtain ⟨e1, e2⟩ := sp_no (c := c) (s := s) (k := k) (by rw [hx]; simpa using he)
      repeat' (first | ((with_reducible first | (refine hK _ ?_; clear hK K) | refine stq fun K' hK' => ?_ | refine stc ?_); try simp only [go_sem, hx]) | (with_reducible first | refine stp ?_ | (refine hK' _ ?_; clear hK' K') | refine kN kl21 fun K hK => ?_ | refine kO fun K hK => ?_) | refine iB ?_ | (with_reducible refine pK_mk ?_ ?_ <;> (intro hc; (try simp only [go_sem, hx]); (try simp at hc); try (exfalso; omega))) | with_reducible refine And.intro (by first | omega | (unfold inI; omega)) ?_)
      all_goals first
        | (exfalso; apply he; apply UInt8.toNat_inj.1; omega)
        | exact ⟨k + 1, by omega, by omega, (fits_mk [] (by simp [renL_d, bdL_d, sg, over, wipe, wl, memN, ins, rm, lk, fitFr, fit1, ren, renL, bd, bdL, app, fitHp, hget, renB, bdB, e1, e2] <;> omega))⟩
  · obtain rfl : k = s.size := by omega
    have e := sp_end c s
    have e2 : (spO c s s.size).map datS ++ [[.str (s.extract (spF c s s.size) s.size)]] = (splB c s).map datS := by rw [← e]; simp [datS]
    have e3 : (spO c s s.size).length + 1 = (splB c s).length := by rw [← e]; simp
    repeat' (first | ((with_reducible first | (refine hK _ ?_; clear hK K) | refine stq fun K' hK' => ?_ | refine stc ?_); try simp only [go_sem, e2, e3]) | (with_reducible first | refine stp ?_ | (refine hK' _ ?_; clear hK' K') | refine kN kl21 fun K hK => ?_ | refine kO fun K hK => ?_) | refine iB ?_ | (with_reducible refine pK_mk ?_ ?_ <;> (intro hc; (try simp only [go_sem, e2, e3]); (try simp at hc); try (exfalso; omega))) | with_reducible refine And.intro (by first | omega | (unfold inI; omega)) ?_)
    refine retQ_ret rfl (by simp only [retL, ret1, hget, lk, List.length_map, List.length_nil, List.length_append, List.length_take, if_true, if_false, Nat.reduceEqDiff, Nat.reduceBEq, Bool.false_eq_true, Option.some.injEq]; rfl) (by simp [rowsOf, lk]) ?_; rfl
theorem l1Split_ok10 (s : ByteArray) (hs : s.size ≤ 1048576) : FnEq Tryd.prog 21 [.d (.str s), .d (.int .u8 10)] [.row 9 1 ((splB 10 s).map datS)] := l1Split_ok 10 s hs
theorem l1Split_ok32 (s : ByteArray) (hs : s.size ≤ 1048576) : FnEq Tryd.prog 21 [.d (.str s), .d (.int .u8 32)] [.row 9 1 ((splB 32 s).map datS)] := l1Split_ok 32 s hs
noncomputable abbrev ansDifferLines (a b : ByteArray) : Option (List Int) := optP (a.size ≤ 4000 ∧ b.size ≤ 4000) (dfTo (splB 10 a) (splB 10 b) (max (splB 10 a).length (splB 10 b).length))
theorem ptLong_ok (s : ByteArray) : FnEq Tryd.prog 20 [.d (.str s)] [.d (.bool (decide ((s.size : Int) ≤ 4000)))] := by
  refine fn_ok G_ok Tryd.func20 rfl rfl ?_; simp only [Tryd.ntmps20, List.length_cons, List.length_nil, Nat.reduceAdd, Nat.reduceSub, enm]
  repeat' (first | ((with_reducible first | (refine hK _ ?_; clear hK K) | refine stq fun K' hK' => ?_ | refine stc ?_); try simp only [go_sem]) | (with_reducible first | refine stp ?_ | (refine hK' _ ?_; clear hK' K') | refine kN kl20 fun K hK => ?_ | refine kO fun K hK => ?_) | (with_reducible refine pK_mk ?_ ?_ <;> (intro hc; (try simp only [go_sem]); (try simp at hc); try (exfalso; omega))) | with_reducible refine And.intro (by first | omega | (unfold inI; omega)) ?_)
  refine retQ_ret rfl rfl (by simp [rowsOf, lk]) ?_; rfl
theorem spec_DifferLines_ok (a b : ByteArray) (ha : a.size ≤ 1048576) (hb : b.size ≤ 1048576) : FnEq Tryd.prog 6 [.d (.str a), .d (.str b)] [.row 3 1 (((ansDifferLines a b).getD []).map datI), .d (.bool (ansDifferLines a b).isSome)] := by
  refine fn_ok G_ok Tryd.func6 rfl rfl ?_; simp only [Tryd.ntmps6, List.length_cons, List.length_nil, Nat.reduceAdd, Nat.reduceSub, enm]
  by_cases hv : a.size ≤ 4000 ∧ b.size ≤ 4000
  · have ea : ansDifferLines a b = some (dfTo (splB 10 a) (splB 10 b) (max (splB 10 a).length (splB 10 b).length)) := by simp only [ansDifferLines]; rw [optP_pos hv]
    rw [ea]
    have h1 := l1Split_ok10 a ha
    have h2 := l1Split_ok10 b hb
    have hla := splB_le 10 a
    have hlb := splB_le 10 b
    generalize splB 10 a = x at *
    generalize splB 10 b = y at *
    repeat' (first | ((with_reducible first | (refine hK _ ?_; clear hK K) | refine stq fun K' hK' => ?_ | refine stc ?_); try simp only [go_sem]) | (with_reducible first | refine stp ?_ | (refine hK' _ ?_; clear hK' K') | refine kN kl6 fun K hK => ?_ | refine kO fun K hK => ?_) | (refine xS rfl fun K' hK' => ?_; simp only [go_sem]) | (refine qS rfl fun K' hK' => ?_; simp only [go_sem]) | ((with_reducible first | apply CallK.eq | apply CallQ.eqs); (· with_reducible first | exact ptLong_ok a | exact ptLong_ok b | exact h1 | exact h2); (· first | exact rfl | (simp [RV.flat, D.sc, datI]; done)); try simp only [go_sem]) | refine iB ?_ | (with_reducible refine pw_seq_drawK kl6 G_ok mixed (by kernel_rfl) (fun K hK => ?_)) | (with_reducible refine pw_draw G_ok mixed (by kernel_rfl) ?_) | (with_reducible refine pK_mk ?_ ?_ <;> (intro hc; (try simp only [go_sem]); (try simp at hc); try (exfalso; omega))) | with_reducible refine And.intro (by first | omega | (unfold inI; omega)) ?_)
    all_goals first
      | omega
      | skip
    refine pw_loop_over [4, 5, 8, 9, 22, 23, 24, 25, 26, 27, 28, 29, 30, 31, 32, 33, 34, 35, 36, 37, 38, 39, 40, 41, 42, 43, 44, 45, 46, 47, 48, 49, 50, 51, 52, 53, 54, 55, 56, 57, 58, 59] (fun k : Nat => [(9, .d (.int .i64 (k : Int))), (6, .row 0 x.length), (7, .row 1 y.length), (8, .row 2 (dfTo x y k).length)]) (fun k : Nat => [(0, .row 9 1 (x.map datS)), (1, .row 9 1 (y.map datS)), (2, .row 3 1 ((dfTo x y k).map datI))]) 3 (fun k : Nat => k ≤ max x.length y.length) (fun k : Nat => max x.length y.length - k) 0 (Nat.zero_le _) (fits_mk [] (by simp [renL_d, bdL_d, sg, over, wipe, wl, memN, ins, rm, lk, fitFr, fit1, ren, renL, bd, bdL, app, fitHp, hget, renB, bdB, df_zero] <;> omega)) ?_
    intro k hk
    have hL := df_len x y k
    simp only [over, wipe, wl, memN, ins, rm, if_true, if_false, Nat.reduceEqDiff, Bool.false_eq_true, reduceCtorEq]
    by_cases hlt : k < max x.length y.length
    · by_cases hx : k < x.length
      · by_cases hy : k < y.length
        · have hx' := List.getElem?_eq_getElem hx
          have hy' := List.getElem?_eq_getElem hy
          generalize x[k] = u at hx'
          generalize y[k] = v at hy'
          by_cases he : u = v
          · subst he
            have e := df_no (hx'.trans hy'.symm)
            repeat' (first | ((with_reducible first | (refine hK _ ?_; clear hK K) | refine stq fun K' hK' => ?_ | refine stc ?_); try simp only [go_sem, hx, hy, List.getElem?_map, hx', hy', Option.map_some, datS]) | (with_reducible first | refine stp ?_ | (refine hK' _ ?_; clear hK' K') | refine kN kl6 fun K hK => ?_ | refine kO fun K hK => ?_) | (refine xS rfl fun K' hK' => ?_; simp only [go_sem, hx, hy, List.getElem?_map, hx', hy', Option.map_some, datS]) | (refine qS rfl fun K' hK' => ?_; simp only [go_sem, hx, hy, List.getElem?_map, hx', hy', Option.map_some, datS]) | refine iB ?_ | (with_reducible refine pw_seq_drawK kl6 G_ok mixed (by kernel_rfl) (fun K hK => ?_)) | (with_reducible refine pw_draw G_ok mixed (by kernel_rfl) ?_) | (with_reducible refine pK_mk ?_ ?_ <;> (intro hc; (try simp only [go_sem, hx, hy, List.getElem?_map, hx', hy', Option.map_some, datS]); (try simp at hc); try (exfalso; omega))) | with_reducible refine And.intro (by first | omega | (unfold inI; omega)) ?_)
            all_goals exact ⟨k + 1, by omega, by omega, (fits_mk [] (by simp [renL_d, bdL_d, sg, over, wipe, wl, memN, ins, rm, lk, fitFr, fit1, ren, renL, bd, bdL, app, fitHp, hget, renB, bdB, e] <;> omega))⟩
          · have e := df_yes (x := x) (y := y) (k := k) (by rw [hx', hy']; simpa using he)
            repeat' (first | ((with_reducible first | (refine hK _ ?_; clear hK K) | refine stq fun K' hK' => ?_ | refine stc ?_); try simp only [go_sem, hx, hy, List.getElem?_map, hx', hy', Option.map_some, datS]) | (with_reducible first | refine stp ?_ | (refine hK' _ ?_; clear hK' K') | refine kN kl6 fun K hK => ?_ | refine kO fun K hK => ?_) | (refine xS rfl fun K' hK' => ?_; simp only [go_sem, hx, hy, List.getElem?_map, hx', hy', Option.map_some, datS]) | (refine qS rfl fun K' hK' => ?_; simp only [go_sem, hx, hy, List.getElem?_map, hx', hy', Option.map_some, datS]) | refine iB ?_ | (with_reducible refine pw_seq_drawK kl6 G_ok mixed (by kernel_rfl) (fun K hK => ?_)) | (with_reducible refine pw_draw G_ok mixed (by kernel_rfl) ?_) | (with_reducible refine pK_mk ?_ ?_ <;> (intro hc; (try simp only [go_sem, hx, hy, List.getElem?_map, hx', hy', Option.map_some, datS]); (try simp at hc); try (exfalso; omega))) | with_reducible refine And.intro (by first | omega | (unfold inI; omega)) ?_)
            all_goals first
              | (exfalso; simp_all; done)
              | exact ⟨k + 1, by omega, by omega, (fits_mk [] (by simp [renL_d, bdL_d, sg, over, wipe, wl, memN, ins, rm, lk, fitFr, fit1, ren, renL, bd, bdL, app, fitHp, hget, renB, bdB, e, datI] <;> omega))⟩
        · have e := df_yes (x := x) (y := y) (k := k) (by rw [List.getElem?_eq_getElem hx, List.getElem?_eq_none (by omega)]; simp)
          repeat' (first | ((with_reducible first | (refine hK _ ?_; clear hK K) | refine stq fun K' hK' => ?_ | refine stc ?_); try simp only [go_sem, hx, hy]) | (with_reducible first | refine stp ?_ | (refine hK' _ ?_; clear hK' K') | refine kN kl6 fun K hK => ?_ | refine kO fun K hK => ?_) | (refine xS rfl fun K' hK' => ?_; simp only [go_sem, hx, hy]) | (refine qS rfl fun K' hK' => ?_; simp only [go_sem, hx, hy]) | refine iB ?_ | (with_reducible refine pw_seq_drawK kl6 G_ok mixed (by kernel_rfl) (fun K hK => ?_)) | (with_reducible refine pw_draw G_ok mixed (by kernel_rfl) ?_) | (with_reducible refine pK_mk ?_ ?_ <;> (intro hc; (try simp only [go_sem, hx, hy]); (try simp at hc); try (exfalso; omega))) | with_reducible refine And.intro (by first | omega | (unfold inI; omega)) ?_)
          all_goals first
            | omega
            | exact ⟨k + 1, by omega, by omega, (fits_mk [] (by simp [renL_d, bdL_d, sg, over, wipe, wl, memN, ins, rm, lk, fitFr, fit1, ren, renL, bd, bdL, app, fitHp, hget, renB, bdB, e, datI] <;> omega))⟩
      · have e := df_yes (x := x) (y := y) (k := k) (by rw [List.getElem?_eq_none (by omega), List.getElem?_eq_getElem (show k < y.length by omega)]; simp)
        repeat' (first | ((with_reducible first | (refine hK _ ?_; clear hK K) | refine stq fun K' hK' => ?_ | refine stc ?_); try simp only [go_sem, hx]) | (with_reducible first | refine stp ?_ | (refine hK' _ ?_; clear hK' K') | refine kN kl6 fun K hK => ?_ | refine kO fun K hK => ?_) | (refine xS rfl fun K' hK' => ?_; simp only [go_sem, hx]) | (refine qS rfl fun K' hK' => ?_; simp only [go_sem, hx]) | refine iB ?_ | (with_reducible refine pw_seq_drawK kl6 G_ok mixed (by kernel_rfl) (fun K hK => ?_)) | (with_reducible refine pw_draw G_ok mixed (by kernel_rfl) ?_) | (with_reducible refine pK_mk ?_ ?_ <;> (intro hc; (try simp only [go_sem, hx]); (try simp at hc); try (exfalso; omega))) | with_reducible refine And.intro (by first | omega | (unfold inI; omega)) ?_)
        all_goals first
          | omega
          | exact ⟨k + 1, by omega, by omega, (fits_mk [] (by simp [renL_d, bdL_d, sg, over, wipe, wl, memN, ins, rm, lk, fitFr, fit1, ren, renL, bd, bdL, app, fitHp, hget, renB, bdB, e, datI] <;> omega))⟩
    · obtain rfl : k = max x.length y.length := by omega
      repeat' (first | ((with_reducible first | (refine hK _ ?_; clear hK K) | refine stq fun K' hK' => ?_ | refine stc ?_); try simp only [go_sem]) | (with_reducible first | refine stp ?_ | (refine hK' _ ?_; clear hK' K') | refine kN kl6 fun K hK => ?_ | refine kO fun K hK => ?_) | (refine xS rfl fun K' hK' => ?_; simp only [go_sem]) | (refine qS rfl fun K' hK' => ?_; simp only [go_sem]) | refine iB ?_ | (with_reducible refine pw_seq_drawK kl6 G_ok mixed (by kernel_rfl) (fun K hK => ?_)) | (with_reducible refine pw_draw G_ok mixed (by kernel_rfl) ?_) | (with_reducible refine pK_mk ?_ ?_ <;> (intro hc; (try simp only [go_sem]); (try simp at hc); try (exfalso; omega))) | with_reducible refine And.intro (by first | omega | (unfold inI; omega)) ?_)
      all_goals first
        | omega
        | (refine retQ_ret rfl (by simp only [retL, ret1, hget, lk, List.length_map, List.length_nil, List.length_append, List.length_take, if_true, if_false, Nat.reduceEqDiff, Nat.reduceBEq, Bool.false_eq_true, Option.some.injEq]; rfl) (by simp [rowsOf, lk]) ?_; rfl)
  · have ea : ansDifferLines a b = none := by simp only [ansDifferLines]; rw [optP_neg hv]
    rw [ea]
    repeat' (first | ((with_reducible first | (refine hK _ ?_; clear hK K) | refine stq fun K' hK' => ?_ | refine stc ?_); try simp only [go_sem]) | (with_reducible first | refine stp ?_ | (refine hK' _ ?_; clear hK' K') | refine kN kl6 fun K hK => ?_ | refine kO fun K hK => ?_) | (refine xS rfl fun K' hK' => ?_; simp only [go_sem]) | (refine qS rfl fun K' hK' => ?_; simp only [go_sem]) | ((with_reducible first | apply CallK.eq | apply CallQ.eqs); (· with_reducible first | exact ptLong_ok a | exact ptLong_ok b); (· first | exact rfl | (simp [RV.flat, D.sc, datI]; done)); try simp only [go_sem]) | refine iB ?_ | (with_reducible refine pw_seq_drawK kl6 G_ok mixed (by kernel_rfl) (fun K hK => ?_)) | (with_reducible refine pw_draw G_ok mixed (by kernel_rfl) ?_) | (with_reducible refine pK_mk ?_ ?_ <;> (intro hc; (try simp only [go_sem]); (try simp at hc); try (exfalso; omega))) | with_reducible refine And.intro (by first | omega | (unfold inI; omega)) ?_)
    all_goals first
      | omega
      | (refine retQ_ret rfl (by simp only [retL, ret1, hget, lk, List.length_map, List.length_nil, List.length_append, List.length_take, if_true, if_false, Nat.reduceEqDiff, Nat.reduceBEq, Bool.false_eq_true, Option.some.injEq]; rfl) (by simp [rowsOf, lk]) ?_; rfl)
theorem impl_DifferLines_ok (a b : ByteArray) (ha : a.size ≤ 1048576) (hb : b.size ≤ 1048576) : FnEq Tryd.prog 7 [.d (.str a), .d (.str b)] [.row 3 1 (((ansDifferLines a b).getD []).map datI), .d (.bool (ansDifferLines a b).isSome)] := by
  refine fn_ok G_ok Tryd.func7 rfl rfl ?_; simp only [Tryd.ntmps7, List.length_cons, List.length_nil, Nat.reduceAdd, Nat.reduceSub, enm]
  by_cases hv : a.size ≤ 4000 ∧ b.size ≤ 4000
  · have ea : ansDifferLines a b = some (dfTo (splB 10 a) (splB 10 b) (max (splB 10 a).length (splB 10 b).length)) := by simp only [ansDifferLines]; rw [optP_pos hv]
    rw [ea]
    have h1 := split_ok 10 a (by omega)
    have h2 := split_ok 10 b (by omega)
    have hla := splB_le 10 a
    have hlb := splB_le 10 b
    generalize splB 10 a = x at *
    generalize splB 10 b = y at *
    repeat' (first | ((with_reducible first | (refine hK _ ?_; clear hK K) | refine stq fun K' hK' => ?_ | refine stc ?_); try simp only [go_sem]) | (with_reducible first | refine stp ?_ | (refine hK' _ ?_; clear hK' K') | refine kN kl7 fun K hK => ?_ | refine kO fun K hK => ?_) | (refine xS rfl fun K' hK' => ?_; simp only [go_sem]) | (refine qS rfl fun K' hK' => ?_; simp only [go_sem]) | ((with_reducible first | apply CallK.eq | apply CallQ.eqs); (· with_reducible first | exact h1 | exact h2); (· first | exact rfl | (simp [RV.flat, D.sc, datI]; done)); try simp only [go_sem]) | refine iB ?_ | (with_reducible refine pw_seq_drawK kl7 G_ok mixed (by kernel_rfl) (fun K hK => ?_)) | (with_reducible refine pw_draw G_ok mixed (by kernel_rfl) ?_) | (with_reducible refine pK_mk ?_ ?_ <;> (intro hc; (try simp only [go_sem]); (try simp at hc); try (exfalso; omega))) | with_reducible refine And.intro (by first | omega | (unfold inI; omega)) ?_)
    all_goals first
      | omega
      | skip
    have hmx : max ((x.length : Nat) : Int) ((y.length : Nat) : Int) = ((max x.length y.length : Nat) : Int) := by omega
    refine pw_loop_over [4, 5, 8, 9, 28, 29, 30, 31, 32, 33, 34, 35, 36, 37, 38, 39, 40, 41, 42, 43, 44, 45, 46, 47, 48, 49, 50, 51, 52, 53, 54, 55, 56, 57] (fun k : Nat => [(28, .d (.int .i64 (k : Int))), (6, .row 0 x.length), (7, .row 1 y.length), (8, .row 2 (dfTo x y k).length)]) (fun k : Nat => [(0, .row 9 1 (x.map datS)), (1, .row 9 1 (y.map datS)), (2, .row 3 1 ((dfTo x y k).map datI))]) 3 (fun k : Nat => k ≤ max x.length y.length) (fun k : Nat => max x.length y.length - k) 0 (Nat.zero_le _) (fits_mk [] (by simp [renL_d, bdL_d, sg, over, wipe, wl, memN, ins, rm, lk, fitFr, fit1, ren, renL, bd, bdL, app, fitHp, hget, renB, bdB, df_zero, hmx] <;> omega)) ?_
    intro k hk
    have hL := df_len x y k
    simp only [over, wipe, wl, memN, ins, rm, if_true, if_false, Nat.reduceEqDiff, Bool.false_eq_true, reduceCtorEq]
    by_cases hlt : k < max x.length y.length
    · by_cases hx : k < x.length
      · by_cases hy : k < y.length
        · have hx' := List.getElem?_eq_getElem hx
          have hy' := List.getElem?_eq_getElem hy
          generalize x[k] = u at hx'
          generalize y[k] = v at hy'
          by_cases he : u = v
          · subst he
            have e := df_no (hx'.trans hy'.symm)
            repeat' (first | ((with_reducible first | (refine hK _ ?_; clear hK K) | refine stq fun K' hK' => ?_ | refine stc ?_); try simp only [go_sem, hx, hy, hmx, List.getElem?_map, hx', hy', Option.map_some, datS]) | (with_reducible first | refine stp ?_ | (refine hK' _ ?_; clear hK' K') | refine kN kl7 fun K hK => ?_ | refine kO fun K hK => ?_) | (refine xS rfl fun K' hK' => ?_; simp only [go_sem, hx, hy, hmx, List.getElem?_map, hx', hy', Option.map_some, datS]) | (refine qS rfl fun K' hK' => ?_; simp only [go_sem, hx, hy, hmx, List.getElem?_map, hx', hy', Option.map_some, datS]) | refine iB ?_ | (with_reducible refine pw_seq_drawK kl7 G_ok mixed (by kernel_rfl) (fun K hK => ?_)) | (with_reducible refine pw_draw G_ok mixed (by kernel_rfl) ?_) | (with_reducible refine pK_mk ?_ ?_ <;> (intro hc; (try simp only [go_sem, hx, hy, hmx, List.getElem?_map, hx', hy', Option.map_some, datS]); (try simp at hc); try (exfalso; omega))) | with_reducible refine And.intro (by first | omega | (unfold inI; omega)) ?_)
            all_goals first
              | (exfalso; omega)
              | (exfalso; simp_all; done)
              | exact ⟨k + 1, by omega, by omega, (fits_mk [] (by simp [renL_d, bdL_d, sg, over, wipe, wl, memN, ins, rm, lk, fitFr, fit1, ren, renL, bd, bdL, app, fitHp, hget, renB, bdB, e] <;> omega))⟩
          · have e := df_yes (x := x) (y := y) (k := k) (by rw [hx', hy']; simpa using he)
            repeat' (first | ((with_reducible first | (refine hK _ ?_; clear hK K) | refine stq fun K' hK' => ?_ | refine stc ?_); try simp only [go_sem, hx, hy, hmx, List.getElem?_map, hx', hy', Option.map_some, datS]) | (with_reducible first | refine stp ?_ | (refine hK' _ ?_; clear hK' K') | refine kN kl7 fun K hK => ?_ | refine kO fun K hK => ?_) | (refine xS rfl fun K' hK' => ?_; simp only [go_sem, hx, hy, hmx, List.getElem?_map, hx', hy', Option.map_some, datS]) | (refine qS rfl fun K' hK' => ?_; simp only [go_sem, hx, hy, hmx, List.getElem?_map, hx', hy', Option.map_some, datS]) | refine iB ?_ | (with_reducible refine pw_seq_drawK kl7 G_ok mixed (by kernel_rfl) (fun K hK => ?_)) | (with_reducible refine pw_draw G_ok mixed (by kernel_rfl) ?_) | (with_reducible refine pK_mk ?_ ?_ <;> (intro hc; (try simp only [go_sem, hx, hy, hmx, List.getElem?_map, hx', hy', Option.map_some, datS]); (try simp at hc); try (exfalso; omega))) | with_reducible refine And.intro (by first | omega | (unfold inI; omega)) ?_)
            all_goals first
              | (exfalso; omega)
              | (exfalso; simp_all; done)
              | exact ⟨k + 1, by omega, by omega, (fits_mk [] (by simp [renL_d, bdL_d, sg, over, wipe, wl, memN, ins, rm, lk, fitFr, fit1, ren, renL, bd, bdL, app, fitHp, hget, renB, bdB, e, datI] <;> omega))⟩
        · have e := df_yes (x := x) (y := y) (k := k) (by rw [List.getElem?_eq_getElem hx, List.getElem?_eq_none (by omega)]; simp)
          repeat' (first | ((with_reducible first | (refine hK _ ?_; clear hK K) | refine stq fun K' hK' => ?_ | refine stc ?_); try simp only [go_sem, hx, hy, hmx]) | (with_reducible first | refine stp ?_ | (refine hK' _ ?_; clear hK' K') | refine kN kl7 fun K hK => ?_ | refine kO fun K hK => ?_) | (refine xS rfl fun K' hK' => ?_; simp only [go_sem, hx, hy, hmx]) | (refine qS rfl fun K' hK' => ?_; simp only [go_sem, hx, hy, hmx]) | refine iB ?_ | (with_reducible refine pw_seq_drawK kl7 G_ok mixed (by kernel_rfl) (fun K hK => ?_)) | (with_reducible refine pw_draw G_ok mixed (by kernel_rfl) ?_) | (with_reducible refine pK_mk ?_ ?_ <;> (intro hc; (try simp only [go_sem, hx, hy, hmx]); (try simp at hc); try (exfalso; omega))) | with_reducible refine And.intro (by first | omega | (unfold inI; omega)) ?_)
          all_goals first
            | omega
            | exact ⟨k + 1, by omega, by omega, (fits_mk [] (by simp [renL_d, bdL_d, sg, over, wipe, wl, memN, ins, rm, lk, fitFr, fit1, ren, renL, bd, bdL, app, fitHp, hget, renB, bdB, e, datI] <;> omega))⟩
      · have e := df_yes (x := x) (y := y) (k := k) (by rw [List.getElem?_eq_none (by omega), List.getElem?_eq_getElem (show k < y.length by omega)]; simp)
        repeat' (first | ((with_reducible first | (refine hK _ ?_; clear hK K) | refine stq fun K' hK' => ?_ | refine stc ?_); try simp only [go_sem, hx, hmx]) | (with_reducible first | refine stp ?_ | (refine hK' _ ?_; clear hK' K') | refine kN kl7 fun K hK => ?_ | refine kO fun K hK => ?_) | (refine xS rfl fun K' hK' => ?_; simp only [go_sem, hx, hmx]) | (refine qS rfl fun K' hK' => ?_; simp only [go_sem, hx, hmx]) | refine iB ?_ | (with_reducible refine pw_seq_drawK kl7 G_ok mixed (by kernel_rfl) (fun K hK => ?_)) | (with_reducible refine pw_draw G_ok mixed (by kernel_rfl) ?_) | (with_reducible refine pK_mk ?_ ?_ <;> (intro hc; (try simp only [go_sem, hx, hmx]); (try simp at hc); try (exfalso; omega))) | with_reducible refine And.intro (by first | omega | (unfold inI; omega)) ?_)
        all_goals first
          | omega
          | exact ⟨k + 1, by omega, by omega, (fits_mk [] (by simp [renL_d, bdL_d, sg, over, wipe, wl, memN, ins, rm, lk, fitFr, fit1, ren, renL, bd, bdL, app, fitHp, hget, renB, bdB, e, datI] <;> omega))⟩
    · obtain rfl : k = max x.length y.length := by omega
      repeat' (first | ((with_reducible first | (refine hK _ ?_; clear hK K) | refine stq fun K' hK' => ?_ | refine stc ?_); try simp only [go_sem, hmx]) | (with_reducible first | refine stp ?_ | (refine hK' _ ?_; clear hK' K') | refine kN kl7 fun K hK => ?_ | refine kO fun K hK => ?_) | (refine xS rfl fun K' hK' => ?_; simp only [go_sem, hmx]) | (refine qS rfl fun K' hK' => ?_; simp only [go_sem, hmx]) | refine iB ?_ | (with_reducible refine pw_seq_drawK kl7 G_ok mixed (by kernel_rfl) (fun K hK => ?_)) | (with_reducible refine pw_draw G_ok mixed (by kernel_rfl) ?_) | (with_reducible refine pK_mk ?_ ?_ <;> (intro hc; (try simp only [go_sem, hmx]); (try simp at hc); try (exfalso; omega))) | with_reducible refine And.intro (by first | omega | (unfold inI; omega)) ?_)
      all_goals first
        | omega
        | (refine retQ_ret rfl (by simp only [retL, ret1, hget, lk, List.length_map, List.length_nil, List.length_append, List.length_take, if_true, if_false, Nat.reduceEqDiff, Nat.reduceBEq, Bool.false_eq_true, Option.some.injEq]; rfl) (by simp [rowsOf, lk]) ?_; rfl)
  · have ea : ansDifferLines a b = none := by simp only [ansDifferLines]; rw [optP_neg hv]
    rw [ea]
    repeat' (first | ((with_reducible first | (refine hK _ ?_; clear hK K) | refine stq fun K' hK' => ?_ | refine stc ?_); try simp only [go_sem]) | (with_reducible first | refine stp ?_ | (refine hK' _ ?_; clear hK' K') | refine kN kl7 fun K hK => ?_ | refine kO fun K hK => ?_) | (refine xS rfl fun K' hK' => ?_; simp only [go_sem]) | (refine qS rfl fun K' hK' => ?_; simp only [go_sem]) | refine iB ?_ | (with_reducible refine pw_seq_drawK kl7 G_ok mixed (by kernel_rfl) (fun K hK => ?_)) | (with_reducible refine pw_draw G_ok mixed (by kernel_rfl) ?_) | (with_reducible refine pK_mk ?_ ?_ <;> (intro hc; (try simp only [go_sem]); (try simp at hc); try (exfalso; omega))) | with_reducible refine And.intro (by first | omega | (unfold inI; omega)) ?_)
    all_goals first
      | omega
      | (refine retQ_ret rfl (by simp only [retL, ret1, hget, lk, List.length_map, List.length_nil, List.length_append, List.length_take, if_true, if_false, Nat.reduceEqDiff, Nat.reduceBEq, Bool.false_eq_true, Option.some.injEq]; rfl) (by simp [rowsOf, lk]) ?_; rfl)
end Go.Proofs.YtjgpbbdapjjmiaaDoor
