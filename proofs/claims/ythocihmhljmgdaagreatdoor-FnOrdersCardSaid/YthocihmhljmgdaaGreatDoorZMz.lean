/-
  Orders by places: the program's OrderByPlaces and the reference's.
-/
import Derived.Test.YthocihmhljmgdaaGreatDoorZNt
import Derived.Test.YthocihmhljmgdaaGreatDoorZNq
import Derived.Test.YthocihmhljmgdaaGreatDoorZM11
set_option linter.unusedSimpArgs false
set_option linter.unusedVariables false
set_option maxHeartbeats 2000000
set_option maxRecDepth 100000
namespace Go.Proofs.YthocihmhljmgdaaGreatDoor
open Go.RowKit

def RngP (a b : Int) (ks : List Int) : Prop := ∀ x ∈ ks, a ≤ x ∧ x ≤ b
theorem rngP_end {a b : Int} {ks : List Int} {k : Nat} (h : ∀ x ∈ ks.take k, a ≤ x ∧ x ≤ b) (hk : ks.length ≤ k) : bP (RngP a b ks) = true := bP_true fun x hx => h x (by rwa [List.take_of_length_le hk])
theorem rngP_no {a b : Int} {ks : List Int} {k : Nat} {x : Int} (hx : ks[k]? = some x) (h : ¬ (a ≤ x ∧ x ≤ b)) : bP (RngP a b ks) = false := bP_false fun h' => h (h' x (List.mem_of_getElem? hx))
theorem allWithinP_ok (ks : List Int) (a b : Int) (hn : ks.length ≤ 1048576) : FnEq Tryz.prog 75 [.d (.lst 1 (ks.map datI)), .d (.int .i64 a), .d (.int .i64 b)] [.d (.bool (bP (RngP a b ks)))] := by
  refine fn_ok G_ok Tryz.func75 rfl rfl ?_; simp only [Tryz.ntmps75, List.length_cons, List.length_nil, Nat.reduceAdd, Nat.reduceSub, enm]
  repeat' (first | ((with_reducible first | (refine hK _ ?_; clear hK K) | refine stq fun K' hK' => ?_ | refine stc ?_); try simp only [go_sem]) | (with_reducible first | refine stp ?_ | (refine hK' _ ?_; clear hK' K') | refine kN kl75 fun K hK => ?_ | refine kO fun K hK => ?_) | refine iB ?_ | (with_reducible refine pK_mk ?_ ?_ <;> (intro hc; (try simp only [go_sem]); (try simp at hc); try (exfalso; omega))) | with_reducible refine And.intro (by first | omega | (unfold inI; omega)) ?_)
  refine pw_loop_over [6, 8, 11, 12, 13, 14, 15, 16, 17, 18, 19, 20] (fun k : Nat => [(11, .d (.int .i64 (k : Int)))]) (fun k : Nat => []) 0 (fun k : Nat => k ≤ ks.length ∧ ∀ x ∈ ks.take k, a ≤ x ∧ x ≤ b) (fun k : Nat => ks.length - k) 0 ⟨Nat.zero_le _, by simp⟩ (fits_mk [] (by simp [renL_d, bdL_d, sg, over, wipe, wl, memN, ins, rm, lk, fitFr, fit1, ren, renL, bd, bdL, app, fitHp, hget, renB, bdB] <;> omega)) ?_
  rintro k ⟨hk, hJ⟩
  simp only [over, wipe, wl, memN, ins, rm, if_true, if_false, Nat.reduceEqDiff, Bool.false_eq_true, reduceCtorEq]
  by_cases hlt : k < ks.length
  · have hx := List.getElem?_eq_getElem hlt
    generalize ks[k] = x at hx
    by_cases hr : a ≤ x ∧ x ≤ b
    · repeat' (first | ((with_reducible first | (refine hK _ ?_; clear hK K) | refine stq fun K' hK' => ?_ | refine stc ?_); try simp only [go_sem, List.getElem?_map, hx, Option.map_some, datI]) | (with_reducible first | refine stp ?_ | (refine hK' _ ?_; clear hK' K') | refine kN kl75 fun K hK => ?_ | refine kO fun K hK => ?_) | ((with_reducible apply CallK.eq); (· with_reducible first | exact within_ok _ _ _); (· simp [RV.flat, D.sc, datI]); try simp only [go_sem, List.getElem?_map, hx, Option.map_some, datI]) | refine iB ?_ | (with_reducible refine pK_mk ?_ ?_ <;> (intro hc; (try simp only [go_sem, List.getElem?_map, hx, Option.map_some, datI]); (try simp at hc); try (exfalso; omega))) | with_reducible refine And.intro (by first | omega | (unfold inI; omega)) ?_)
      all_goals first
        | (exfalso; omega)
        | exact ⟨k + 1, ⟨by omega, fun y hy => by
            rw [take_snoc hx] at hy
            rcases List.mem_append.1 hy with h | h
            · exact hJ y h
            · rw [List.mem_singleton] at h; subst h; exact hr⟩, by omega, (fits_mk [] (by simp [renL_d, bdL_d, sg, over, wipe, wl, memN, ins, rm, lk, fitFr, fit1, ren, renL, bd, bdL, app, fitHp, hget, renB, bdB] <;> omega))⟩
    · repeat' (first | ((with_reducible first | (refine hK _ ?_; clear hK K) | refine stq fun K' hK' => ?_ | refine stc ?_); try simp only [go_sem, List.getElem?_map, hx, Option.map_some, datI]) | (with_reducible first | refine stp ?_ | (refine hK' _ ?_; clear hK' K') | refine kN kl75 fun K hK => ?_ | refine kO fun K hK => ?_) | ((with_reducible apply CallK.eq); (· with_reducible first | exact within_ok _ _ _); (· simp [RV.flat, D.sc, datI]); try simp only [go_sem, List.getElem?_map, hx, Option.map_some, datI]) | refine iB ?_ | (with_reducible refine pK_mk ?_ ?_ <;> (intro hc; (try simp only [go_sem, List.getElem?_map, hx, Option.map_some, datI]); (try simp at hc); try (exfalso; omega))) | with_reducible refine And.intro (by first | omega | (unfold inI; omega)) ?_)
      all_goals first
        | (exfalso; omega)
        | (refine retQ_ret rfl rfl (by simp [rowsOf, lk]) ?_; rw [rngP_no hx hr])
  · repeat' (first | ((with_reducible first | (refine hK _ ?_; clear hK K) | refine stq fun K' hK' => ?_ | refine stc ?_); try simp only [go_sem]) | (with_reducible first | refine stp ?_ | (refine hK' _ ?_; clear hK' K') | refine kN kl75 fun K hK => ?_ | refine kO fun K hK => ?_) | refine iB ?_ | (with_reducible refine pK_mk ?_ ?_ <;> (intro hc; (try simp only [go_sem]); (try simp at hc); try (exfalso; omega))) | with_reducible refine And.intro (by first | omega | (unfold inI; omega)) ?_)
    refine retQ_ret rfl rfl (by simp [rowsOf, lk]) ?_; rw [rngP_end hJ (by omega)]
theorem l1AllP_ok (ks : List Int) (a b : Int) (hn : ks.length ≤ 1048576) : FnEq Tryz.prog 82 [.d (.lst 1 (ks.map datI)), .d (.int .i64 a), .d (.int .i64 b)] [.d (.bool (bP (RngP a b ks)))] := by
  refine fn_ok G_ok Tryz.func82 rfl rfl ?_; simp only [Tryz.ntmps82, List.length_cons, List.length_nil, Nat.reduceAdd, Nat.reduceSub, enm]
  repeat' (first | ((with_reducible first | (refine hK _ ?_; clear hK K) | refine stq fun K' hK' => ?_ | refine stc ?_); try simp only [go_sem]) | (with_reducible first | refine stp ?_ | (refine hK' _ ?_; clear hK' K') | refine kN kl82 fun K hK => ?_ | refine kO fun K hK => ?_) | refine iB ?_ | (with_reducible refine pK_mk ?_ ?_ <;> (intro hc; (try simp only [go_sem]); (try simp at hc); try (exfalso; omega))) | with_reducible refine And.intro (by first | omega | (unfold inI; omega)) ?_)
  refine pw_loop_over [6, 8, 11, 12, 13, 14, 15, 16, 17, 18, 19, 20] (fun k : Nat => [(11, .d (.int .i64 (k : Int)))]) (fun k : Nat => []) 0 (fun k : Nat => k ≤ ks.length ∧ ∀ x ∈ ks.take k, a ≤ x ∧ x ≤ b) (fun k : Nat => ks.length - k) 0 ⟨Nat.zero_le _, by simp⟩ (fits_mk [] (by simp [renL_d, bdL_d, sg, over, wipe, wl, memN, ins, rm, lk, fitFr, fit1, ren, renL, bd, bdL, app, fitHp, hget, renB, bdB] <;> omega)) ?_
  rintro k ⟨hk, hJ⟩
  simp only [over, wipe, wl, memN, ins, rm, if_true, if_false, Nat.reduceEqDiff, Bool.false_eq_true, reduceCtorEq]
  by_cases hlt : k < ks.length
  · have hx := List.getElem?_eq_getElem hlt
    generalize ks[k] = x at hx
    by_cases hr : a ≤ x ∧ x ≤ b
    · repeat' (first | ((with_reducible first | (refine hK _ ?_; clear hK K) | refine stq fun K' hK' => ?_ | refine stc ?_); try simp only [go_sem, List.getElem?_map, hx, Option.map_some, datI]) | (with_reducible first | refine stp ?_ | (refine hK' _ ?_; clear hK' K') | refine kN kl82 fun K hK => ?_ | refine kO fun K hK => ?_) | ((with_reducible apply CallK.eq); (· with_reducible first | exact l1In_ok _ _ _); (· simp [RV.flat, D.sc, datI]); try simp only [go_sem, List.getElem?_map, hx, Option.map_some, datI]) | refine iB ?_ | (with_reducible refine pK_mk ?_ ?_ <;> (intro hc; (try simp only [go_sem, List.getElem?_map, hx, Option.map_some, datI]); (try simp at hc); try (exfalso; omega))) | with_reducible refine And.intro (by first | omega | (unfold inI; omega)) ?_)
      all_goals first
        | (exfalso; omega)
        | exact ⟨k + 1, ⟨by omega, fun y hy => by
            rw [take_snoc hx] at hy
            rcases List.mem_append.1 hy with h | h
            · exact hJ y h
            · rw [List.mem_singleton] at h; subst h; exact hr⟩, by omega, (fits_mk [] (by simp [renL_d, bdL_d, sg, over, wipe, wl, memN, ins, rm, lk, fitFr, fit1, ren, renL, bd, bdL, app, fitHp, hget, renB, bdB] <;> omega))⟩
    · repeat' (first | ((with_reducible first | (refine hK _ ?_; clear hK K) | refine stq fun K' hK' => ?_ | refine stc ?_); try simp only [go_sem, List.getElem?_map, hx, Option.map_some, datI]) | (with_reducible first | refine stp ?_ | (refine hK' _ ?_; clear hK' K') | refine kN kl82 fun K hK => ?_ | refine kO fun K hK => ?_) | ((with_reducible apply CallK.eq); (· with_reducible first | exact l1In_ok _ _ _); (· simp [RV.flat, D.sc, datI]); try simp only [go_sem, List.getElem?_map, hx, Option.map_some, datI]) | refine iB ?_ | (with_reducible refine pK_mk ?_ ?_ <;> (intro hc; (try simp only [go_sem, List.getElem?_map, hx, Option.map_some, datI]); (try simp at hc); try (exfalso; omega))) | with_reducible refine And.intro (by first | omega | (unfold inI; omega)) ?_)
      all_goals first
        | (exfalso; omega)
        | (refine retQ_ret rfl rfl (by simp [rowsOf, lk]) ?_; rw [rngP_no hx hr])
  · repeat' (first | ((with_reducible first | (refine hK _ ?_; clear hK K) | refine stq fun K' hK' => ?_ | refine stc ?_); try simp only [go_sem]) | (with_reducible first | refine stp ?_ | (refine hK' _ ?_; clear hK' K') | refine kN kl82 fun K hK => ?_ | refine kO fun K hK => ?_) | refine iB ?_ | (with_reducible refine pK_mk ?_ ?_ <;> (intro hc; (try simp only [go_sem]); (try simp at hc); try (exfalso; omega))) | with_reducible refine And.intro (by first | omega | (unfold inI; omega)) ?_)
    refine retQ_ret rfl rfl (by simp [rowsOf, lk]) ?_; rw [rngP_end hJ (by omega)]
theorem soFalling_ok (ks sk pl : List Int) (hkl : ks.length ≤ 4) (hk : KeyR ks) (hs : sk.length ≤ 40) (hp : pl.length = sk.length) (hpl : ∀ x ∈ pl, x ≤ 99) : FnEq Tryz.prog 84 [.d (.lst 1 (ks.map datI)), .d (.lst 1 (sk.map datI)), .d (.lst 1 (pl.map datI))] [.row 3 1 ((fallT ks sk pl 99).map datI)] := by
  refine fn_ok G_ok Tryz.func84 rfl rfl ?_; simp only [Tryz.ntmps84, List.length_cons, List.length_nil, Nat.reduceAdd, Nat.reduceSub, enm]
  repeat' (first | ((with_reducible first | (refine hK _ ?_; clear hK K) | refine stq fun K' hK' => ?_ | refine stc ?_); try simp only [go_sem]) | (with_reducible first | refine stp ?_ | (refine hK' _ ?_; clear hK' K') | refine kN kl84 fun K hK => ?_ | refine kO fun K hK => ?_) | refine iB ?_ | (with_reducible refine pK_mk ?_ ?_ <;> (intro hc; (try simp only [go_sem]); (try simp at hc); try (exfalso; omega))) | with_reducible refine And.intro (by first | omega | (unfold inI; omega)) ?_)
  refine pw_loop_over [6, 7, 8, 9, 10, 11, 12, 13, 14, 15, 16, 17, 18, 19, 20, 21, 22, 23, 24, 25, 26, 27, 28, 29, 30, 31, 32, 33, 34, 35, 36, 37, 38, 39, 40, 41, 42] (fun t : Nat => [(8, .d (.int .i64 (99 - (t : Int)))), (7, .row 1 (fallT ks sk pl t).length), (0, .d (.lst 1 (ks.map datI))), (1, .d (.lst 1 (sk.map datI))), (2, .d (.lst 1 (pl.map datI)))]) (fun t => [(1, .row 3 1 ((fallT ks sk pl t).map datI))]) 2 (fun t => t ≤ 99) (fun t => 99 - t) 0 (by omega) (fits_mk [] (by simp [renL_d, bdL_d, sg, over, wipe, wl, memN, ins, rm, lk, fitFr, fit1, ren, renL, bd, bdL, app, fitHp, hget, renB, bdB, fallT] <;> omega)) ?_
  intro t ht
  have hfl := fall_len hkl hk hs hp hpl ht
  simp only [over, wipe, wl, memN, ins, rm, if_true, if_false, Nat.reduceEqDiff, Bool.false_eq_true, reduceCtorEq]
  by_cases hlt : t < 99
  · have h1 : (1 : Int) ≤ 99 - (t : Int) := by omega
    have hsuc : fallT ks sk pl (t + 1) = fallT ks sk pl t ++ numZ (ks ++ [90, 99 - (t : Int)]) (eqP sk pl (99 - (t : Int)) sk.length) := rfl
    have hnl := numZ_len (ks ++ [90, 99 - (t : Int)]) (eqP sk pl (99 - (t : Int)) sk.length)
    have hel := fun k => eqP_len sk pl (99 - (t : Int)) k
    have hap : ks.map datI ++ [[.int .i64 90], [.int .i64 (99 - (t : Int))]] = (ks ++ [90, 99 - (t : Int)]).map datI := by simp [datI]
    have hxl : ks.length + 2 = (ks ++ [90, 99 - (t : Int)]).length := by simp
    have hyl : (ks ++ [90, 99 - (t : Int)]).length ≤ 100 := by simp; omega
    have hsn := dwNumbers_ok (ks ++ [90, 99 - (t : Int)]) (eqP sk pl (99 - (t : Int)) sk.length) (by simp; omega) (keyR90 hk hlt) (by have := hel sk.length; omega)
    have ht1 : 99 - (t : Int) - 1 = 99 - ((t + 1 : Nat) : Int) := by omega
    generalize fallT ks sk pl t = F at *
    generalize numZ (ks ++ [90, 99 - (t : Int)]) (eqP sk pl (99 - (t : Int)) sk.length) = nn at *
    generalize ks ++ [90, 99 - (t : Int)] = ys at *
    generalize hpp : 99 - (t : Int) = p at *
    repeat' (first | ((with_reducible first | (refine hK _ ?_; clear hK K) | refine stq fun K' hK' => ?_ | refine stc ?_); try simp only [go_sem, h1]) | (with_reducible first | refine stp ?_ | (refine hK' _ ?_; clear hK' K') | refine kN kl84 fun K hK => ?_ | refine kO fun K hK => ?_) | refine iB ?_ | (with_reducible refine pK_mk ?_ ?_ <;> (intro hc; (try simp only [go_sem, h1]); (try simp at hc); try (exfalso; omega))) | with_reducible refine And.intro (by first | omega | (unfold inI; omega)) ?_)
    all_goals first
      | (exfalso; omega)
      | skip
    refine pw_loop_over [6, 9, 10, 11, 18, 19, 20, 21, 22, 23, 24, 25, 26, 27, 28, 29, 30, 31, 32, 33] (fun k : Nat => [(18, .d (.int .i64 (k : Int))), (7, .row 1 F.length), (9, .row 2 (eqP sk pl p k).length)]) (fun k : Nat => [(1, .row 3 1 (F.map datI)), (2, .row 3 1 ((eqP sk pl p k).map datI))]) 3 (fun k : Nat => k ≤ sk.length) (fun k : Nat => sk.length - k) 0 (Nat.zero_le _) (fits_mk [] (by simp [renL_d, bdL_d, sg, over, wipe, wl, memN, ins, rm, lk, fitFr, fit1, ren, renL, bd, bdL, app, fitHp, hget, renB, bdB, eqP_zero] <;> omega)) ?_
    intro k hk
    have hek := hel k
    simp only [over, wipe, wl, memN, ins, rm, if_true, if_false, Nat.reduceEqDiff, Bool.false_eq_true, reduceCtorEq]
    by_cases hlt2 : k < sk.length
    · have hx := List.getElem?_eq_getElem hlt2
      have hy := List.getElem?_eq_getElem (show k < pl.length by omega)
      generalize sk[k] = x at hx
      generalize pl[k] = y at hy
      by_cases he : y = p
      · have e := eqP_yes hx hy he
        subst he
        repeat' (first | ((with_reducible first | (refine hK _ ?_; clear hK K) | refine stq fun K' hK' => ?_ | refine stc ?_); try simp only [go_sem, hlt2, List.getElem?_map, hx, hy, Option.map_some, datI]) | (with_reducible first | refine stp ?_ | (refine hK' _ ?_; clear hK' K') | refine kN kl84 fun K hK => ?_ | refine kO fun K hK => ?_) | refine iB ?_ | (with_reducible refine pK_mk ?_ ?_ <;> (intro hc; (try simp only [go_sem, hlt2, List.getElem?_map, hx, hy, Option.map_some, datI]); (try simp at hc); try (exfalso; omega))) | with_reducible refine And.intro (by first | omega | (unfold inI; omega)) ?_)
        all_goals first
          | (exfalso; omega)
          | exact ⟨k + 1, by omega, by omega, (fits_mk [] (by simp [renL_d, bdL_d, sg, over, wipe, wl, memN, ins, rm, lk, fitFr, fit1, ren, renL, bd, bdL, app, fitHp, hget, renB, bdB, e, datI] <;> omega))⟩
      · have e := eqP_no hx hy he
        repeat' (first | ((with_reducible first | (refine hK _ ?_; clear hK K) | refine stq fun K' hK' => ?_ | refine stc ?_); try simp only [go_sem, hlt2, he, List.getElem?_map, hx, hy, Option.map_some, datI]) | (with_reducible first | refine stp ?_ | (refine hK' _ ?_; clear hK' K') | refine kN kl84 fun K hK => ?_ | refine kO fun K hK => ?_) | refine iB ?_ | (with_reducible refine pK_mk ?_ ?_ <;> (intro hc; (try simp only [go_sem, hlt2, he, List.getElem?_map, hx, hy, Option.map_some, datI]); (try simp at hc); try (exfalso; omega))) | with_reducible refine And.intro (by first | omega | (unfold inI; omega)) ?_)
        all_goals first
          | (exfalso; omega)
          | exact ⟨k + 1, by omega, by omega, (fits_mk [] (by simp [renL_d, bdL_d, sg, over, wipe, wl, memN, ins, rm, lk, fitFr, fit1, ren, renL, bd, bdL, app, fitHp, hget, renB, bdB, e, datI] <;> omega))⟩
    · obtain rfl : k = sk.length := by omega
      repeat' (first | ((with_reducible first | (refine hK _ ?_; clear hK K) | refine stq fun K' hK' => ?_ | refine stc ?_); try simp only [go_sem, hap, hxl, ht1]) | (with_reducible first | refine stp ?_ | (refine hK' _ ?_; clear hK' K') | refine kN kl84 fun K hK => ?_ | refine kO fun K hK => ?_) | ((with_reducible apply CallK.eq); (· with_reducible first | exact l1OwnM_ok ks (by omega) | exact hsn); (· simp [RV.flat, D.sc, datI]); try simp only [go_sem, hap, hxl, ht1]) | refine iB ?_ | (with_reducible refine pK_mk ?_ ?_ <;> (intro hc; (try simp only [go_sem, hap, hxl, ht1]); (try simp at hc); try (exfalso; omega))) | with_reducible refine And.intro (by first | omega | (unfold inI; omega)) ?_)
      all_goals first
        | (exfalso; omega)
        | exact ⟨t + 1, by omega, by omega, (fits_mk [] (by simp [renL_d, bdL_d, sg, over, wipe, wl, memN, ins, rm, lk, fitFr, fit1, ren, renL, bd, bdL, app, fitHp, hget, renB, bdB, hsuc] <;> omega))⟩
  · have e : t = 99 := by omega
    subst e
    have h1 : ¬ (1 : Int) ≤ 99 - ((99 : Nat) : Int) := by omega
    repeat' (first | ((with_reducible first | (refine hK _ ?_; clear hK K) | refine stq fun K' hK' => ?_ | refine stc ?_); try simp only [go_sem, h1]) | (with_reducible first | refine stp ?_ | (refine hK' _ ?_; clear hK' K') | refine kN kl84 fun K hK => ?_ | refine kO fun K hK => ?_) | refine iB ?_ | (with_reducible refine pK_mk ?_ ?_ <;> (intro hc; (try simp only [go_sem, h1]); (try simp at hc); try (exfalso; omega))) | with_reducible refine And.intro (by first | omega | (unfold inI; omega)) ?_)
    refine retQ_ret rfl (by simp only [retL, ret1, hget, lk, List.length_map, List.length_nil, List.length_append, List.length_take, if_true, if_false, Nat.reduceEqDiff, Nat.reduceBEq, Bool.false_eq_true, Option.some.injEq]; rfl) (by simp [rowsOf, lk]) ?_; rfl
end Go.Proofs.YthocihmhljmgdaaGreatDoor

/-
  The abstract machine: an own row becomes plain data. No program is named here.
-/
namespace Go.Proofs.YthocihmhljmgdaaGreatDoor
open Go.RowKit

theorem lk_upl : ∀ {l : List (Nat × PV)} {t : Nat} {x : PV} (i : Nat), lk l t ≠ .und → lk (upl l t x) i = if i = t then x else lk l i
  | [], t, x, i, h => (h rfl).elim
  | (k, y) :: r, t, x, i, h => by
    simp only [upl]
    by_cases e : t = k
    · subst e
      simp only [if_true, lk]
      split <;> rfl
    · have h' : lk r t ≠ .und := by simpa only [lk, if_neg e] using h
      simp only [if_neg e, lk]
      by_cases e2 : i = k
      · subst e2
        rw [if_pos rfl, if_neg (Ne.symm e)]
        simp
      · rw [if_neg e2, if_neg e2, lk_upl i h']
/-- an own row that nobody changes any more is plain data -/
theorem pw_freeze {P : Program} {Q : Exit → AS → Prop} {c : Code} {s : AS} (t : Nat) {id n : Nat} {ty : TypeId} {sz : Nat} {es : List (List D)} (ht : lk s.fr.l t = .row id n) (hg : hget s.hp id = some (.row ty sz es)) (hn : es.length = n) (h : PW P c Q ⟨⟨s.fr.n, upl s.fr.l t (.d (.lst sz es))⟩, hdel s.hp id, s.nx⟩) : PW P c Q s := by
  intro X0 w0 m a w hs
  have hk := hs.kill (hdel s.hp id) (fun id' blk hb => by rw [hget_hdel] at hb; split at hb; cases hb; exact hb) (fun id' par k j ha => by
    rw [hget_hdel] at ha ⊢
    split at ha
    · cases ha
    · obtain ⟨q, ty', sz', es2, _, _, _, _, _, _, a1, _⟩ := hs.al id' par k j ha
      rw [if_neg fun e => by subst e; rw [hg] at a1; cases a1])
  have hst : Stay w w (Owned X0 m s.hp) (Owned X0 m (hdel s.hp id)) := by
    intro b _ hb2
    refine ⟨rfl, ?_⟩
    rintro (hx | ⟨id', blk, h1, h2⟩)
    · exact hb2 (.inl hx)
    · rw [hget_hdel] at h1
      split at h1
      · cases h1
      · exact hb2 (.inr ⟨id', blk, h1, h2⟩)
  have hR := hs.fr t
  rw [ht] at hR
  have hnew : R m.loc (Owned X0 m (hdel s.hp id)) w (.d (.lst sz es)) (a.tmps.getD t undef) := by
    obtain ⟨l, hl, hok⟩ := hs.hp id _ hg
    rcases hR.row_inv with ⟨h1, h2, h3⟩ | ⟨b, cc, h1, h2, h3⟩
    · rw [h3]
      have e : es = [] := List.length_eq_zero_iff.1 (hn.trans h2)
      subst e
      exact .d _ _ (.nil _ _ _)
    · rw [h1] at hl
      cases hl
      obtain ⟨arr, hh, hc⟩ := hok
      rw [h3, ← hn]
      have hnb : ¬ Owned X0 m (hdel s.hp id) b := by
        have how := hs.own id _ b hg ⟨cc, h1⟩
        rintro (hx | ⟨id', blk, g1, g2⟩)
        · obtain ⟨g3, g4⟩ := hs.x0 b hx
          rcases how.1 with g5 | g5
          · omega
          · exact g4 g5
        · rw [hget_hdel] at g1
          split at g1
          · cases g1
          · rename_i hne
            exact hne (hs.inj id' id blk _ b g1 hg g2 ⟨cc, h1⟩)
      refine .d _ _ (.lst sz es b 0 cc hc.2.1 hc.2.2.2.1 (fun k e j d he hd => ?_) (fun k e j d u he hd hu => ?_))
      · obtain ⟨u, p1, _, _⟩ := row_cell hc hh he hd
        exact ⟨hnb, u, by rw [Nat.zero_add]; exact p1⟩
      · obtain ⟨u', p1, _, p3⟩ := row_cell hc hh he hd
        rw [Nat.zero_add, p1] at hu
        cases hu
        exact p3.mono hst
  refine h X0 w0 m a w ⟨hk.below, hk.x0, hk.size, fun i => ?_, hk.df, hk.hp, hk.dp, hk.al, hk.pin, hk.inj, hk.own, hk.nx, hk.gl⟩
  show R m.loc (Owned X0 m (hdel s.hp id)) w (lk (upl s.fr.l t (.d (.lst sz es))) i) _
  rw [lk_upl i (by rw [ht]; intro h; cases h)]
  split
  · rename_i e; subst e; exact hnew
  · exact hk.fr i
end Go.Proofs.YthocihmhljmgdaaGreatDoor
