/-
  Start orders: the program's StartOrder and the reference's, in the abstract machine.
-/
import Derived.Test.YthocihmhljmgdaaGreatDoorZGs
import Derived.Test.YthocihmhljmgdaaGreatDoorZSh
import Derived.Test.YthocihmhljmgdaaGreatDoorZTk
import Derived.Test.YthocihmhljmgdaaGreatDoorZOrd
set_option linter.unusedSimpArgs false
set_option linter.unusedVariables false
set_option maxHeartbeats 2000000
set_option maxRecDepth 100000
namespace Go.Proofs.YthocihmhljmgdaaGreatDoor
open Go.RowKit

theorem keyR_end {ks : List Int} {k : Nat} (h : ∀ x ∈ ks.take k, 0 ≤ x ∧ x ≤ 1000000000) (hk : ks.length ≤ k) : bP (KeyR ks) = true := bP_true fun x hx => h x (by rwa [List.take_of_length_le hk])
theorem keyR_no {ks : List Int} {k : Nat} {x : Int} (hx : ks[k]? = some x) (h : ¬ (0 ≤ x ∧ x ≤ 1000000000)) : bP (KeyR ks) = false := bP_false fun h' => h (h' x (List.mem_of_getElem? hx))
def KeysOk (ks : List Int) : Prop := ks.length ≤ 4 ∧ KeyR ks
/-- the first k groups, each shuffled by its keys -/
def stTo (ks : List Int) (gs : List (List Int)) (k : Nat) : List Int := (List.range k).flatMap fun i : Nat => numZ (ks ++ [(i : Int)]) (gs.getD i [])
theorem stTo_zero (ks : List Int) (gs : List (List Int)) : stTo ks gs 0 = [] := rfl
theorem stTo_succ {ks : List Int} {gs : List (List Int)} {k : Nat} {g : List Int} (hg : gs[k]? = some g) : stTo ks gs (k + 1) = stTo ks gs k ++ numZ (ks ++ [(k : Int)]) g := by
  unfold stTo
  rw [List.range_succ, List.flatMap_append]
  simp [List.getD, hg]
theorem stTo_len {ks : List Int} {gs : List (List Int)} {b : Nat} (hb : ∀ c ∈ gs, c.length ≤ b) : ∀ k, k ≤ gs.length → (stTo ks gs k).length ≤ k * b
  | 0, _ => by simp [stTo]
  | k + 1, hk => by
    have hx := List.getElem?_eq_getElem (show k < gs.length by omega)
    have h1 := hb _ (List.mem_of_getElem? hx)
    have h2 := stTo_len (ks := ks) hb k (by omega)
    rw [stTo_succ hx, List.length_append, numZ_len, Nat.add_mul]
    omega
def StOk (ks : List Int) (l : List EntrantD) (s : Int) : Prop := RgOk l s ∧ KeysOk ks
noncomputable abbrev ansStartOrder (ks : List Int) (l : List EntrantD) (s : Int) : Option (List Int) := optP (StOk ks l s) (stTo ks (gsE l s) (gsE l s).length)
theorem allWithinK_ok (ks : List Int) (hn : ks.length ≤ 1048576) : FnEq Tryz.prog 75 [.d (.lst 1 (ks.map datI)), .d (.int .i64 0), .d (.int .i64 1000000000)] [.d (.bool (bP (KeyR ks)))] := by
  refine fn_ok G_ok Tryz.func75 rfl rfl ?_; simp only [Tryz.ntmps75, List.length_cons, List.length_nil, Nat.reduceAdd, Nat.reduceSub, enm]
  repeat' (first | ((with_reducible first | (refine hK _ ?_; clear hK K) | refine stq fun K' hK' => ?_ | refine stc ?_); try simp only [go_sem]) | (with_reducible first | refine stp ?_ | (refine hK' _ ?_; clear hK' K') | refine kN kl75 fun K hK => ?_ | refine kO fun K hK => ?_) | refine iB ?_ | (with_reducible refine pK_mk ?_ ?_ <;> (intro hc; (try simp only [go_sem]); (try simp at hc); try (exfalso; omega))) | with_reducible refine And.intro (by first | omega | (unfold inI; omega)) ?_)
  refine pw_loop_over [6, 8, 11, 12, 13, 14, 15, 16, 17, 18, 19, 20] (fun k : Nat => [(11, .d (.int .i64 (k : Int)))]) (fun k : Nat => []) 0 (fun k : Nat => k ≤ ks.length ∧ ∀ x ∈ ks.take k, 0 ≤ x ∧ x ≤ 1000000000) (fun k : Nat => ks.length - k) 0 ⟨Nat.zero_le _, by simp⟩ (fits_mk [] (by simp [renL_d, bdL_d, sg, over, wipe, wl, memN, ins, rm, lk, fitFr, fit1, ren, renL, bd, bdL, app, fitHp, hget, renB, bdB] <;> omega)) ?_
  rintro k ⟨hk, hJ⟩
  simp only [over, wipe, wl, memN, ins, rm, if_true, if_false, Nat.reduceEqDiff, Bool.false_eq_true, reduceCtorEq]
  by_cases hlt : k < ks.length
  · have hx := List.getElem?_eq_getElem hlt
    generalize ks[k] = x at hx
    by_cases hr : 0 ≤ x ∧ x ≤ 1000000000
    · repeat' (first | ((with_reducible first | (refine hK _ ?_; clear hK K) | refine stq fun K' hK' => ?_ | refine stc ?_); try simp only [go_sem, List.getElem?_map, hx, Option.map_some, datI]) | (with_reducible first | refine stp ?_ | (refine hK' _ ?_; clear hK' K') | refine kN kl75 fun K hK => ?_ | refine kO fun K hK => ?_) | ((with_reducible apply CallK.eq); (· with_reducible first | exact within_ok _ _ _); (· simp [RV.flat, D.sc, datI]); try simp only [go_sem, List.getElem?_map, hx, Option.map_some, datI]) | refine iB ?_ | (with_reducible refine pK_mk ?_ ?_ <;> (intro hc; (try simp only [go_sem, List.getElem?_map, hx, Option.map_some, datI]); (try simp at hc); try (exfalso; omega))) | with_reducible refine And.intro (by first | omega | (unfold inI; omega)) ?_)
      all_goals first
        | (exfalso; omega)
        | exact ⟨k + 1, ⟨by omega, fun y hy => by
            rw [take_snoc hx] at hy
            rcases List.mem_append.1 hy with h | h
            · exact hJ y h
            · rw [List.mem_singleton] at h; subst h; exact hr⟩, by omega, (fits_mk [] (by simp [renL_d, bdL_d, sg, over, wipe, wl, memN, ins, rm, lk, fitFr, fit1, ren, renL, bd, bdL, app, fitHp, hget, renB, bdB] <;> omega))⟩
    · repeat' (first | ((with_reducible first | (refine hK _ ?_; clear hK K) | refine stq fun K' hK' => ?_ | refine stc ?_); try simp only [go_sem, List.getElem?_map, hx, Option.map_some, datI]) | (with_reducible first | refine stp ?_ | (refine hK' _ ?_; clear hK' K') | refine kN kl75 fun K hK => ?_ | refine kO fun K hK => ?_) | ((with_reducible apply CallK.eq); (· with_reducible first | exact within_ok _ _ _); (· simp [RV.flat, D.sc, datI]); try simp only [go_sem, List.getElem?_map, hx, Option.map_some, datI]) | refine iB ?_ | (with_reducible refine pK_mk ?_ ?_ <;> (intro hc; (try simp only [go_sem, List.getElem?_map, hx, Option.map_some, datI]); (try simp at hc); try (exfalso; omega))) | with_reducible refine And.intro (by first | omega | (unfold inI; omega)) ?_)
      all_goals first
        | (exfalso; omega)
        | (refine retQ_ret rfl rfl (by simp [rowsOf, lk]) ?_; rw [keyR_no hx hr])
  · repeat' (first | ((with_reducible first | (refine hK _ ?_; clear hK K) | refine stq fun K' hK' => ?_ | refine stc ?_); try simp only [go_sem]) | (with_reducible first | refine stp ?_ | (refine hK' _ ?_; clear hK' K') | refine kN kl75 fun K hK => ?_ | refine kO fun K hK => ?_) | refine iB ?_ | (with_reducible refine pK_mk ?_ ?_ <;> (intro hc; (try simp only [go_sem]); (try simp at hc); try (exfalso; omega))) | with_reducible refine And.intro (by first | omega | (unfold inI; omega)) ?_)
    refine retQ_ret rfl rfl (by simp [rowsOf, lk]) ?_; rw [keyR_end hJ (by omega)]
theorem areKeys4_ok (ks : List Int) (hn : ks.length ≤ 1048576) : FnEq Tryz.prog 73 [.d (.lst 1 (ks.map datI)), .d (.int .i64 4)] [.d (.bool (bP (KeysOk ks)))] := by
  refine fn_ok G_ok Tryz.func73 rfl rfl ?_; simp only [Tryz.ntmps73, List.length_cons, List.length_nil, Nat.reduceAdd, Nat.reduceSub, enm]
  by_cases h4 : ks.length ≤ 4
  · have h5 : (ks.length : Int) ≤ 4 := by omega
    have e : bP (KeysOk ks) = bP (KeyR ks) := by
      by_cases h : KeyR ks
      · rw [bP_true h, bP_true (show KeysOk ks from ⟨h4, h⟩)]
      · rw [bP_false h, bP_false fun h' : KeysOk ks => h h'.2]
    rw [e]
    repeat' (first | ((with_reducible first | (refine hK _ ?_; clear hK K) | refine stq fun K' hK' => ?_ | refine stc ?_); try simp only [go_sem, h5]) | (with_reducible first | refine stp ?_ | (refine hK' _ ?_; clear hK' K') | refine kN kl73 fun K hK => ?_ | refine kO fun K hK => ?_) | (refine xS rfl fun K' hK' => ?_; simp only [go_sem, h5]) | ((with_reducible apply CallK.eq); (· with_reducible first | exact allWithinK_ok ks hn); (· simp [RV.flat, D.sc, datI]); try simp only [go_sem, h5]) | (with_reducible refine pK_mk ?_ ?_ <;> (intro hc; (try simp only [go_sem, h5]); (try simp at hc); try (exfalso; omega))) | with_reducible refine And.intro (by first | omega | (unfold inI; omega)) ?_)
    all_goals first
      | (exfalso; omega)
      | (refine retQ_ret rfl rfl (by simp [rowsOf, lk]) ?_; rfl)
  · have h5 : ¬ (ks.length : Int) ≤ 4 := by omega
    rw [bP_false fun h' : KeysOk ks => h4 h'.1]
    repeat' (first | ((with_reducible first | (refine hK _ ?_; clear hK K) | refine stq fun K' hK' => ?_ | refine stc ?_); try simp only [go_sem, h5]) | (with_reducible first | refine stp ?_ | (refine hK' _ ?_; clear hK' K') | refine kN kl73 fun K hK => ?_ | refine kO fun K hK => ?_) | (refine xS rfl fun K' hK' => ?_; simp only [go_sem, h5]) | (with_reducible refine pK_mk ?_ ?_ <;> (intro hc; (try simp only [go_sem, h5]); (try simp at hc); try (exfalso; omega))) | with_reducible refine And.intro (by first | omega | (unfold inI; omega)) ?_)
    all_goals first
      | (exfalso; omega)
      | (refine retQ_ret rfl rfl (by simp [rowsOf, lk]) ?_; rfl)
theorem l1AllK_ok (ks : List Int) (hn : ks.length ≤ 1048576) : FnEq Tryz.prog 82 [.d (.lst 1 (ks.map datI)), .d (.int .i64 0), .d (.int .i64 1000000000)] [.d (.bool (bP (KeyR ks)))] := by
  refine fn_ok G_ok Tryz.func82 rfl rfl ?_; simp only [Tryz.ntmps82, List.length_cons, List.length_nil, Nat.reduceAdd, Nat.reduceSub, enm]
  repeat' (first | ((with_reducible first | (refine hK _ ?_; clear hK K) | refine stq fun K' hK' => ?_ | refine stc ?_); try simp only [go_sem]) | (with_reducible first | refine stp ?_ | (refine hK' _ ?_; clear hK' K') | refine kN kl82 fun K hK => ?_ | refine kO fun K hK => ?_) | refine iB ?_ | (with_reducible refine pK_mk ?_ ?_ <;> (intro hc; (try simp only [go_sem]); (try simp at hc); try (exfalso; omega))) | with_reducible refine And.intro (by first | omega | (unfold inI; omega)) ?_)
  refine pw_loop_over [6, 8, 11, 12, 13, 14, 15, 16, 17, 18, 19, 20] (fun k : Nat => [(11, .d (.int .i64 (k : Int)))]) (fun k : Nat => []) 0 (fun k : Nat => k ≤ ks.length ∧ ∀ x ∈ ks.take k, 0 ≤ x ∧ x ≤ 1000000000) (fun k : Nat => ks.length - k) 0 ⟨Nat.zero_le _, by simp⟩ (fits_mk [] (by simp [renL_d, bdL_d, sg, over, wipe, wl, memN, ins, rm, lk, fitFr, fit1, ren, renL, bd, bdL, app, fitHp, hget, renB, bdB] <;> omega)) ?_
  rintro k ⟨hk, hJ⟩
  simp only [over, wipe, wl, memN, ins, rm, if_true, if_false, Nat.reduceEqDiff, Bool.false_eq_true, reduceCtorEq]
  by_cases hlt : k < ks.length
  · have hx := List.getElem?_eq_getElem hlt
    generalize ks[k] = x at hx
    by_cases hr : 0 ≤ x ∧ x ≤ 1000000000
    · repeat' (first | ((with_reducible first | (refine hK _ ?_; clear hK K) | refine stq fun K' hK' => ?_ | refine stc ?_); try simp only [go_sem, List.getElem?_map, hx, Option.map_some, datI]) | (with_reducible first | refine stp ?_ | (refine hK' _ ?_; clear hK' K') | refine kN kl82 fun K hK => ?_ | refine kO fun K hK => ?_) | ((with_reducible apply CallK.eq); (· with_reducible first | exact l1In_ok _ _ _); (· simp [RV.flat, D.sc, datI]); try simp only [go_sem, List.getElem?_map, hx, Option.map_some, datI]) | refine iB ?_ | (with_reducible refine pK_mk ?_ ?_ <;> (intro hc; (try simp only [go_sem, List.getElem?_map, hx, Option.map_some, datI]); (try simp at hc); try (exfalso; omega))) | with_reducible refine And.intro (by first | omega | (unfold inI; omega)) ?_)
      all_goals first
        | (exfalso; omega)
        | exact ⟨k + 1, ⟨by omega, fun y hy => by
            rw [take_snoc hx] at hy
            rcases List.mem_append.1 hy with h | h
            · exact hJ y h
            · rw [List.mem_singleton] at h; subst h; exact hr⟩, by omega, (fits_mk [] (by simp [renL_d, bdL_d, sg, over, wipe, wl, memN, ins, rm, lk, fitFr, fit1, ren, renL, bd, bdL, app, fitHp, hget, renB, bdB] <;> omega))⟩
    · repeat' (first | ((with_reducible first | (refine hK _ ?_; clear hK K) | refine stq fun K' hK' => ?_ | refine stc ?_); try simp only [go_sem, List.getElem?_map, hx, Option.map_some, datI]) | (with_reducible first | refine stp ?_ | (refine hK' _ ?_; clear hK' K') | refine kN kl82 fun K hK => ?_ | refine kO fun K hK => ?_) | ((with_reducible apply CallK.eq); (· with_reducible first | exact l1In_ok _ _ _); (· simp [RV.flat, D.sc, datI]); try simp only [go_sem, List.getElem?_map, hx, Option.map_some, datI]) | refine iB ?_ | (with_reducible refine pK_mk ?_ ?_ <;> (intro hc; (try simp only [go_sem, List.getElem?_map, hx, Option.map_some, datI]); (try simp at hc); try (exfalso; omega))) | with_reducible refine And.intro (by first | omega | (unfold inI; omega)) ?_)
      all_goals first
        | (exfalso; omega)
        | (refine retQ_ret rfl rfl (by simp [rowsOf, lk]) ?_; rw [keyR_no hx hr])
  · repeat' (first | ((with_reducible first | (refine hK _ ?_; clear hK K) | refine stq fun K' hK' => ?_ | refine stc ?_); try simp only [go_sem]) | (with_reducible first | refine stp ?_ | (refine hK' _ ?_; clear hK' K') | refine kN kl82 fun K hK => ?_ | refine kO fun K hK => ?_) | refine iB ?_ | (with_reducible refine pK_mk ?_ ?_ <;> (intro hc; (try simp only [go_sem]); (try simp at hc); try (exfalso; omega))) | with_reducible refine And.intro (by first | omega | (unfold inI; omega)) ?_)
    refine retQ_ret rfl rfl (by simp [rowsOf, lk]) ?_; rw [keyR_end hJ (by omega)]
theorem dwKeys4_ok (ks : List Int) (hn : ks.length ≤ 1048576) : FnEq Tryz.prog 80 [.d (.lst 1 (ks.map datI)), .d (.int .i64 4)] [.d (.bool (bP (KeysOk ks)))] := by
  refine fn_ok G_ok Tryz.func80 rfl rfl ?_; simp only [Tryz.ntmps80, List.length_cons, List.length_nil, Nat.reduceAdd, Nat.reduceSub, enm]
  by_cases h4 : ks.length ≤ 4
  · have h5 : (ks.length : Int) ≤ 4 := by omega
    have e : bP (KeysOk ks) = bP (KeyR ks) := by
      by_cases h : KeyR ks
      · rw [bP_true h, bP_true (show KeysOk ks from ⟨h4, h⟩)]
      · rw [bP_false h, bP_false fun h' : KeysOk ks => h h'.2]
    rw [e]
    repeat' (first | ((with_reducible first | (refine hK _ ?_; clear hK K) | refine stq fun K' hK' => ?_ | refine stc ?_); try simp only [go_sem, h5]) | (with_reducible first | refine stp ?_ | (refine hK' _ ?_; clear hK' K') | refine kN kl80 fun K hK => ?_ | refine kO fun K hK => ?_) | (refine xS rfl fun K' hK' => ?_; simp only [go_sem, h5]) | ((with_reducible apply CallK.eq); (· with_reducible first | exact l1AllK_ok ks hn); (· simp [RV.flat, D.sc, datI]); try simp only [go_sem, h5]) | (with_reducible refine pK_mk ?_ ?_ <;> (intro hc; (try simp only [go_sem, h5]); (try simp at hc); try (exfalso; omega))) | with_reducible refine And.intro (by first | omega | (unfold inI; omega)) ?_)
    all_goals first
      | (exfalso; omega)
      | (refine retQ_ret rfl rfl (by simp [rowsOf, lk]) ?_; rfl)
  · have h5 : ¬ (ks.length : Int) ≤ 4 := by omega
    rw [bP_false fun h' : KeysOk ks => h4 h'.1]
    repeat' (first | ((with_reducible first | (refine hK _ ?_; clear hK K) | refine stq fun K' hK' => ?_ | refine stc ?_); try simp only [go_sem, h5]) | (with_reducible first | refine stp ?_ | (refine hK' _ ?_; clear hK' K') | refine kN kl80 fun K hK => ?_ | refine kO fun K hK => ?_) | (refine xS rfl fun K' hK' => ?_; simp only [go_sem, h5]) | (with_reducible refine pK_mk ?_ ?_ <;> (intro hc; (try simp only [go_sem, h5]); (try simp at hc); try (exfalso; omega))) | with_reducible refine And.intro (by first | omega | (unfold inI; omega)) ?_)
    all_goals first
      | (exfalso; omega)
      | (refine retQ_ret rfl rfl (by simp [rowsOf, lk]) ?_; rfl)
theorem spec_StartOrder_ok (ks : List Int) (l : List EntrantD) (s : Int) (hk : ks.length ≤ 1048576) (hn : l.length ≤ 1048576) : FnEq Tryz.prog 111 [.d (.lst 1 (ks.map datI)), .d (.lst 2 (l.map EntrantD.dat)), .d (.int .i64 s)] [.row 3 1 (((ansStartOrder ks l s).getD []).map datI), .d (.bool (ansStartOrder ks l s).isSome)] := by
  refine fn_ok G_ok Tryz.func111 rfl rfl ?_; simp only [Tryz.ntmps111, List.length_cons, List.length_nil, Nat.reduceAdd, Nat.reduceSub, enm]
  by_cases hkk : KeysOk ks
  · have hb1 := bP_true hkk
    by_cases hE : EntsOk l
    · have h1 := bP_true hE
      have h40 := hE.1
      by_cases h8 : 1 ≤ s ∧ s ≤ 8
      · by_cases hm : many l s.toNat ≤ 8
        · have hr : RgOk l s := ⟨hE, h8.1, h8.2, hm⟩
          obtain ⟨q, rfl, hk1, hk8⟩ : ∃ k : Nat, s = (k : Int) ∧ 1 ≤ k ∧ k ≤ 8 := ⟨s.toNat, by omega, by omega, by omega⟩
          rcases Nat.eq_zero_or_pos l.length with h0 | h0
          · have hans : ansStartOrder ks l q = some [] := by
              have e : ansStartOrder ks l q = some (stTo ks (gsE l q) (gsE l q).length) := optP_pos ⟨hr, hkk⟩
              rw [e, gsE_nil h0 hr.2.1]
              rfl
            repeat' (first | ((with_reducible first | (refine hK _ ?_; clear hK K) | refine stq fun K' hK' => ?_ | refine stc ?_); try simp only [go_sem, hb1, h1]) | (with_reducible first | refine stp ?_ | (refine hK' _ ?_; clear hK' K') | refine kN kl111 fun K hK => ?_ | refine kO fun K hK => ?_) | (refine xS rfl fun K' hK' => ?_; simp only [go_sem, hb1, h1]) | ((with_reducible apply CallK.eq); (· with_reducible first | exact dwKeys4_ok ks hk | exact soEntrants_ok l hn | exact soSize_ok _ | exact soGroups_nil l q h0 hk1 hk8); (· simp [RV.flat, D.sc, datI]); try simp only [go_sem, hb1, h1]) | refine iB ?_ | (with_reducible refine pK_mk ?_ ?_ <;> (intro hc; (try simp only [go_sem, hb1, h1]); (try simp at hc); try (exfalso; omega))) | with_reducible refine And.intro (by first | omega | (unfold inI; omega)) ?_)
            all_goals first
              | (exfalso; omega)
              | skip
            refine pw_loop_over [6, 7, 10, 11, 12, 34, 35, 36, 37, 38, 39, 40, 41, 42, 43, 44, 45, 46, 47, 48] (fun k : Nat => [(34, .d (.int .i64 (k : Int))), (10, .row 0 0), (32, .row 1 0), (8, .row 1 0)]) (fun k : Nat => [(0, .row 3 1 []), (1, .row 31 1 [])]) 2 (fun k : Nat => k ≤ l.length) (fun k : Nat => l.length - k) 0 (Nat.zero_le _) (fits_mk [] (by simp [renL_d, bdL_d, sg, over, wipe, wl, memN, ins, rm, lk, fitFr, fit1, ren, renL, bd, bdL, app, fitHp, hget, renB, bdB] <;> omega)) ?_
            intro k hkl
            simp only [over, wipe, wl, memN, ins, rm, if_true, if_false, Nat.reduceEqDiff, Bool.false_eq_true, reduceCtorEq]
            repeat' (first | ((with_reducible first | (refine hK _ ?_; clear hK K) | refine stq fun K' hK' => ?_ | refine stc ?_); try simp only [go_sem]) | (with_reducible first | refine stp ?_ | (refine hK' _ ?_; clear hK' K') | refine kN kl111 fun K hK => ?_ | refine kO fun K hK => ?_) | (refine xS rfl fun K' hK' => ?_; simp only [go_sem]) | refine iB ?_ | (with_reducible refine pK_mk ?_ ?_ <;> (intro hc; (try simp only [go_sem]); (try simp at hc); try (exfalso; omega))) | with_reducible refine And.intro (by first | omega | (unfold inI; omega)) ?_)
            all_goals first
              | (exfalso; omega)
              | (refine retQ_ret rfl (by simp only [retL, ret1, hget, lk, List.length_map, List.length_nil, List.length_append, List.length_take, if_true, if_false, Nat.reduceEqDiff, Nat.reduceBEq, Bool.false_eq_true, Option.some.injEq]; rfl) (by simp [rowsOf, lk]) ?_; rw [hans]; rfl)
          · have hgg := soGroups_ok l q h0 hE hk1 hk8 hm
            have hgk := grpE_bd hE (many l q)
            have hgl := grpE_len l (many l q)
            have hans : ansStartOrder ks l q = some (stTo ks (grpE l (many l q)) (grpE l (many l q)).length) := optP_pos ⟨hr, hkk⟩
            change many l q ≤ 8 at hm
            generalize grpE l (many l q) = g at hgg hgk hgl hans
            repeat' (first | ((with_reducible first | (refine hK _ ?_; clear hK K) | refine stq fun K' hK' => ?_ | refine stc ?_); try simp only [go_sem, hb1, h1]) | (with_reducible first | refine stp ?_ | (refine hK' _ ?_; clear hK' K') | refine kN kl111 fun K hK => ?_ | refine kO fun K hK => ?_) | (refine xS rfl fun K' hK' => ?_; simp only [go_sem, hb1, h1]) | ((with_reducible apply CallK.eq); (· with_reducible first | exact dwKeys4_ok ks hk | exact soEntrants_ok l hn | exact soSize_ok _ | exact hgg); (· simp [RV.flat, D.sc, datI]); try simp only [go_sem, hb1, h1]) | refine iB ?_ | (with_reducible refine pK_mk ?_ ?_ <;> (intro hc; (try simp only [go_sem, hb1, h1]); (try simp at hc); try (exfalso; omega))) | with_reducible refine And.intro (by first | omega | (unfold inI; omega)) ?_)
            all_goals first
              | (exfalso; omega)
              | skip
            refine pw_loop_over [6, 7, 10, 11, 12, 34, 35, 36, 37, 38, 39, 40, 41, 42, 43, 44, 45, 46, 47, 48] (fun k : Nat => [(34, .d (.int .i64 (k : Int))), (10, .row 0 (stTo ks g k).length), (32, .row 1 g.length), (8, .row 1 g.length)]) (fun k : Nat => [(0, .row 3 1 ((stTo ks g k).map datI)), (1, .deep 0 31 1 (g.map datG))]) 2 (fun k : Nat => k ≤ g.length) (fun k : Nat => g.length - k) 0 (Nat.zero_le _) (fits_mk [] (by simp [renL_d, bdL_d, sg, over, wipe, wl, memN, ins, rm, lk, fitFr, fit1, ren, renL, bd, bdL, app, fitHp, hget, renB, bdB, stTo_zero] <;> omega)) ?_
            intro k hkl
            have hsl := stTo_len (ks := ks) hgk k hkl
            simp only [over, wipe, wl, memN, ins, rm, if_true, if_false, Nat.reduceEqDiff, Bool.false_eq_true, reduceCtorEq]
            by_cases hlt : k < g.length
            · have hx := List.getElem?_eq_getElem hlt
              generalize g[k] = c at hx
              have hcl := hgk c (List.mem_of_getElem? hx)
              have hkr : KeyR (ks ++ [(k : Int)]) := hkk.2.app (KeyR.one (by omega) (by omega))
              have hyl : (ks ++ [(k : Int)]).length ≤ 100 := by have := hkk.1; simp; omega
              have hnl := numZ_len (ks ++ [(k : Int)]) c
              have e := stTo_succ (ks := ks) hx
              have hap : ks.map datI ++ [[.int .i64 (k : Int)]] = (ks ++ [(k : Int)]).map datI := by simp [datI]
              have hxl : ks.length + 1 = (ks ++ [(k : Int)]).length := by simp
              have hsn := dwNumbers_ok (ks ++ [(k : Int)]) c hyl hkr (by omega)
              generalize numZ (ks ++ [(k : Int)]) c = nn at hsn hnl e
              generalize ks ++ [(k : Int)] = ys at hap hxl hsn
              repeat' (first | ((with_reducible first | (refine hK _ ?_; clear hK K) | refine stq fun K' hK' => ?_ | refine stc ?_); try simp only [go_sem, hap, hxl, hlt, List.getElem?_map, hx, Option.map_some, datG, List.length_map]) | (with_reducible first | refine stp ?_ | (refine hK' _ ?_; clear hK' K') | refine kN kl111 fun K hK => ?_ | refine kO fun K hK => ?_) | (refine xS rfl fun K' hK' => ?_; simp only [go_sem, hap, hxl, hlt, List.getElem?_map, hx, Option.map_some, datG, List.length_map]) | ((with_reducible apply CallK.eq); (· with_reducible first | exact l1OwnM_ok ks hk | exact hsn); (· simp [RV.flat, D.sc, datI]); try simp only [go_sem, hap, hxl, hlt, List.getElem?_map, hx, Option.map_some, datG, List.length_map]) | refine iB ?_ | (with_reducible refine pK_mk ?_ ?_ <;> (intro hc; (try simp only [go_sem, hap, hxl, hlt, List.getElem?_map, hx, Option.map_some, datG, List.length_map]); (try simp at hc); try (exfalso; omega))) | with_reducible refine And.intro (by first | omega | (unfold inI; omega)) ?_)
              all_goals first
                | (exfalso; omega)
                | exact ⟨k + 1, by omega, by omega, (fits_mk [] (by simp [renL_d, bdL_d, sg, over, wipe, wl, memN, ins, rm, lk, fitFr, fit1, ren, renL, bd, bdL, app, fitHp, hget, renB, bdB, e] <;> omega))⟩
            · obtain rfl : k = g.length := by omega
              repeat' (first | ((with_reducible first | (refine hK _ ?_; clear hK K) | refine stq fun K' hK' => ?_ | refine stc ?_); try simp only [go_sem]) | (with_reducible first | refine stp ?_ | (refine hK' _ ?_; clear hK' K') | refine kN kl111 fun K hK => ?_ | refine kO fun K hK => ?_) | (refine xS rfl fun K' hK' => ?_; simp only [go_sem]) | refine iB ?_ | (with_reducible refine pK_mk ?_ ?_ <;> (intro hc; (try simp only [go_sem]); (try simp at hc); try (exfalso; omega))) | with_reducible refine And.intro (by first | omega | (unfold inI; omega)) ?_)
              refine retQ_ret rfl (by simp only [retL, ret1, hget, lk, List.length_map, List.length_nil, List.length_append, List.length_take, if_true, if_false, Nat.reduceEqDiff, Nat.reduceBEq, Bool.false_eq_true, Option.some.injEq]; rfl) (by simp [rowsOf, lk]) ?_; rw [hans]; rfl
        · have hans : ansStartOrder ks l s = none := optP_neg fun h => hm h.1.2.2.2
          obtain ⟨q, rfl, hk1, hk8⟩ : ∃ k : Nat, s = (k : Int) ∧ 1 ≤ k ∧ k ≤ 8 := ⟨s.toNat, by omega, by omega, by omega⟩
          change ¬ many l q ≤ 8 at hm
          repeat' (first | ((with_reducible first | (refine hK _ ?_; clear hK K) | refine stq fun K' hK' => ?_ | refine stc ?_); try simp only [go_sem, hb1, h1]) | (with_reducible first | refine stp ?_ | (refine hK' _ ?_; clear hK' K') | refine kN kl111 fun K hK => ?_ | refine kO fun K hK => ?_) | (refine xS rfl fun K' hK' => ?_; simp only [go_sem, hb1, h1]) | ((with_reducible apply CallK.eq); (· with_reducible first | exact dwKeys4_ok ks hk | exact soEntrants_ok l hn | exact soSize_ok _ | exact soGroups_many l q h40 hk1 hk8 (by omega)); (· simp [RV.flat, D.sc, datI]); try simp only [go_sem, hb1, h1]) | refine iB ?_ | (with_reducible refine pK_mk ?_ ?_ <;> (intro hc; (try simp only [go_sem, hb1, h1]); (try simp at hc); try (exfalso; omega))) | with_reducible refine And.intro (by first | omega | (unfold inI; omega)) ?_)
          all_goals first
            | (exfalso; omega)
            | skip
          refine pw_loop_over [6, 7, 10, 11, 12, 34, 35, 36, 37, 38, 39, 40, 41, 42, 43, 44, 45, 46, 47, 48] (fun k : Nat => [(34, .d (.int .i64 (k : Int))), (10, .row 0 0), (32, .row 1 0), (8, .row 1 0)]) (fun k : Nat => [(0, .row 3 1 []), (1, .row 31 1 [])]) 2 (fun k : Nat => k ≤ 0) (fun k : Nat => 0 - k) 0 (Nat.zero_le _) (fits_mk [] (by simp [renL_d, bdL_d, sg, over, wipe, wl, memN, ins, rm, lk, fitFr, fit1, ren, renL, bd, bdL, app, fitHp, hget, renB, bdB] <;> omega)) ?_
          intro k hkl
          simp only [over, wipe, wl, memN, ins, rm, if_true, if_false, Nat.reduceEqDiff, Bool.false_eq_true, reduceCtorEq]
          repeat' (first | ((with_reducible first | (refine hK _ ?_; clear hK K) | refine stq fun K' hK' => ?_ | refine stc ?_); try simp only [go_sem]) | (with_reducible first | refine stp ?_ | (refine hK' _ ?_; clear hK' K') | refine kN kl111 fun K hK => ?_ | refine kO fun K hK => ?_) | (refine xS rfl fun K' hK' => ?_; simp only [go_sem]) | refine iB ?_ | (with_reducible refine pK_mk ?_ ?_ <;> (intro hc; (try simp only [go_sem]); (try simp at hc); try (exfalso; omega))) | with_reducible refine And.intro (by first | omega | (unfold inI; omega)) ?_)
          all_goals first
            | (exfalso; omega)
            | (refine retQ_ret rfl (by simp only [retL, ret1, hget, lk, List.length_map, List.length_nil, List.length_append, List.length_take, if_true, if_false, Nat.reduceEqDiff, Nat.reduceBEq, Bool.false_eq_true, Option.some.injEq]; rfl) (by simp [rowsOf, lk]) ?_; rw [hans]; rfl)
      · have hans : ansStartOrder ks l s = none := optP_neg fun h => h8 ⟨h.1.2.1, h.1.2.2.1⟩
        repeat' (first | ((with_reducible first | (refine hK _ ?_; clear hK K) | refine stq fun K' hK' => ?_ | refine stc ?_); try simp only [go_sem, hb1, h1]) | (with_reducible first | refine stp ?_ | (refine hK' _ ?_; clear hK' K') | refine kN kl111 fun K hK => ?_ | refine kO fun K hK => ?_) | (refine xS rfl fun K' hK' => ?_; simp only [go_sem, hb1, h1]) | ((with_reducible apply CallK.eq); (· with_reducible first | exact dwKeys4_ok ks hk | exact soEntrants_ok l hn | exact soSize_ok _); (· simp [RV.flat, D.sc, datI]); try simp only [go_sem, hb1, h1]) | refine iB ?_ | (with_reducible refine pK_mk ?_ ?_ <;> (intro hc; (try simp only [go_sem, hb1, h1]); (try simp at hc); try (exfalso; omega))) | with_reducible refine And.intro (by first | omega | (unfold inI; omega)) ?_)
        all_goals first
          | (exfalso; omega)
          | (refine retQ_ret rfl (by simp only [retL, ret1, hget, lk, List.length_map, List.length_nil, List.length_append, List.length_take, if_true, if_false, Nat.reduceEqDiff, Nat.reduceBEq, Bool.false_eq_true, Option.some.injEq]; rfl) (by simp [rowsOf, lk]) ?_; rw [hans]; rfl)
    · have h1 := bP_false hE
      have hans : ansStartOrder ks l s = none := optP_neg fun h => hE h.1.1
      repeat' (first | ((with_reducible first | (refine hK _ ?_; clear hK K) | refine stq fun K' hK' => ?_ | refine stc ?_); try simp only [go_sem, hb1, h1]) | (with_reducible first | refine stp ?_ | (refine hK' _ ?_; clear hK' K') | refine kN kl111 fun K hK => ?_ | refine kO fun K hK => ?_) | (refine xS rfl fun K' hK' => ?_; simp only [go_sem, hb1, h1]) | ((with_reducible apply CallK.eq); (· with_reducible first | exact dwKeys4_ok ks hk | exact soEntrants_ok l hn); (· simp [RV.flat, D.sc, datI]); try simp only [go_sem, hb1, h1]) | refine iB ?_ | (with_reducible refine pK_mk ?_ ?_ <;> (intro hc; (try simp only [go_sem, hb1, h1]); (try simp at hc); try (exfalso; omega))) | with_reducible refine And.intro (by first | omega | (unfold inI; omega)) ?_)
      all_goals first
        | (exfalso; omega)
        | (refine retQ_ret rfl (by simp only [retL, ret1, hget, lk, List.length_map, List.length_nil, List.length_append, List.length_take, if_true, if_false, Nat.reduceEqDiff, Nat.reduceBEq, Bool.false_eq_true, Option.some.injEq]; rfl) (by simp [rowsOf, lk]) ?_; rw [hans]; rfl)
  · have hb1 := bP_false hkk
    have hans : ansStartOrder ks l s = none := optP_neg fun h => hkk h.2
    repeat' (first | ((with_reducible first | (refine hK _ ?_; clear hK K) | refine stq fun K' hK' => ?_ | refine stc ?_); try simp only [go_sem, hb1]) | (with_reducible first | refine stp ?_ | (refine hK' _ ?_; clear hK' K') | refine kN kl111 fun K hK => ?_ | refine kO fun K hK => ?_) | (refine xS rfl fun K' hK' => ?_; simp only [go_sem, hb1]) | ((with_reducible apply CallK.eq); (· with_reducible first | exact dwKeys4_ok ks hk); (· simp [RV.flat, D.sc, datI]); try simp only [go_sem, hb1]) | refine iB ?_ | (with_reducible refine pK_mk ?_ ?_ <;> (intro hc; (try simp only [go_sem, hb1]); (try simp at hc); try (exfalso; omega))) | with_reducible refine And.intro (by first | omega | (unfold inI; omega)) ?_)
    all_goals first
      | (exfalso; omega)
      | (refine retQ_ret rfl (by simp only [retL, ret1, hget, lk, List.length_map, List.length_nil, List.length_append, List.length_take, if_true, if_false, Nat.reduceEqDiff, Nat.reduceBEq, Bool.false_eq_true, Option.some.injEq]; rfl) (by simp [rowsOf, lk]) ?_; rw [hans]; rfl)
end Go.Proofs.YthocihmhljmgdaaGreatDoor

/-
  Two of an order exchanged: the program's ExchangeStarts and the reference's, in the abstract machine.
-/
namespace Go.Proofs.YthocihmhljmgdaaGreatDoor
open Go.RowKit

section
variable {P : Program} {o : Oper} {s : AS}
end
end Go.Proofs.YthocihmhljmgdaaGreatDoor

/-
  The number of a skater in a starting order: the program's StartNumber and the reference's; further functions of the law FnStarts.
-/
namespace Go.Proofs.YthocihmhljmgdaaGreatDoor
open Go.RowKit

end Go.Proofs.YthocihmhljmgdaaGreatDoor
namespace Go.Proofs.YthocihmhljmgdaaGreatDoor
open Go.RowKit Go.Sort

theorem OrdOk.rng {o : List Int} (h : OrdOk o) : ∀ x ∈ o, 1 ≤ x ∧ x ≤ 999 := by
  intro x hx
  obtain ⟨i, hi⟩ := List.getElem?_of_mem hx
  have := h.2 i x (List.getElem?_eq_some_iff.1 hi).1 hi
  exact ⟨this.1, this.2.1⟩
theorem upI_pick (g : List Int) : (upI g.length).map (fun i => g.getD i.toNat 0) = g := by
  apply List.ext_getElem (by simp [upI])
  intro k h1 h2
  simp [upI, List.getD, List.getElem?_eq_getElem h2]
theorem numZ_perm {ks g : List Int} (hl : ks.length ≤ 800) (hk : KeyR ks) (hn : g.length ≤ 1000) : (numZ ks g).Perm g := by
  have h := (shufT_perm hl hk hn (g.length - 1) (Nat.le_refl _)).map (fun i => g.getD i.toNat 0)
  rw [upI_pick] at h
  exact h
theorem st_perm {ks : List Int} {gs : List (List Int)} (hl : ks.length ≤ 4) (hk : KeyR ks) (hg : gs.length ≤ 8) (hb : ∀ c ∈ gs, c.length ≤ 40) : ∀ k, k ≤ gs.length → (stTo ks gs k).Perm (gs.take k).flatten
  | 0, _ => by simp [stTo]
  | k + 1, hkk => by
    have hx := List.getElem?_eq_getElem (show k < gs.length by omega)
    have hc := hb _ (List.mem_of_getElem? hx)
    rw [stTo_succ hx, take_snoc hx, List.flatten_append]
    refine (st_perm hl hk hg hb k (by omega)).append ?_
    rw [List.flatten_singleton]
    refine numZ_perm (by simp; omega) (fun x h => ?_) (by omega)
    rcases List.mem_append.1 h with h | h
    · exact hk x h
    · rw [List.mem_singleton.1 h]; omega
theorem sort_flat : ∀ cs : List (List Int), (cs.map sortUp).flatten.Perm cs.flatten
  | [] => List.Perm.refl _
  | c :: cs => by rw [List.map_cons, List.flatten_cons, List.flatten_cons]; exact (sortUp_perm c).append (sort_flat cs)
theorem cut_flat {ss xs : List Int} : ∀ k, k ≤ ss.length → (cutZ ss xs k).flatten = xs.take (offZ ss k)
  | 0, _ => by simp [cutZ, offZ]
  | k + 1, hk => by
    have hx := List.getElem?_eq_getElem (show k < ss.length by omega)
    rw [cutZ_succ hx, List.flatten_append, List.flatten_singleton, cut_flat k (by omega), offZ_succ hx, List.take_add]
theorem many_pos {l : List EntrantD} {s : Nat} (hs : 1 ≤ s) (h0 : 0 < l.length) : 0 < many l s := Nat.div_pos (by omega) hs
theorem gs_perm {l : List EntrantD} {s : Int} (h : RgOk l s) : (gsE l s).flatten.Perm (l.map EntrantD.skater) := by
  have h1 := ordE_aux h.1 l.length (Nat.le_refl _)
  rw [List.take_length] at h1
  refine (show (gsE l s).flatten.Perm (chE l (many l s.toNat)).flatten from sort_flat _).trans ?_
  rcases Nat.eq_zero_or_pos l.length with e | e
  · have hl := List.eq_nil_of_length_eq_zero e
    subst hl
    have : many ([] : List EntrantD) s.toNat = 0 := Nat.div_eq_of_lt (by have := h.2.1; simp; omega)
    rw [this]
    exact List.Perm.refl _
  · have hg := many_pos (l := l) (s := s.toNat) (by have := h.2.1; omega) e
    have hf : (chE l (many l s.toNat)).flatten = (ordE l).map EntrantD.skater := by
      have hlen : ((ordE l).map EntrantD.skater).length = l.length := by rw [List.length_map, h1.1.length_eq]
      unfold chE
      rw [cut_flat _ (by rw [szsZ_len]; exact Nat.le_refl _), offZ_all hg, List.take_of_length_le (by omega)]
    rw [hf]
    exact h1.1.map _
end Go.Proofs.YthocihmhljmgdaaGreatDoor
