/-
  Scores after inquiries: the reference's functions, in the abstract machine.
-/
import Derived.Test.YtphakidbddamfaaGreatZSg
import Derived.Test.YtphakidbddamfaaGreatZOrd
import Derived.Test.YtphakidbddamfaaGreatZIq
import Derived.Test.YtphakidbddamfaaGreatZJa
import Derived.Test.YtphakidbddamfaaGreatZMo
import Derived.Test.YtphakidbddamfaaGreatZJc
import Derived.Test.YtphakidbddamfaaGreatZGr
set_option linter.unusedSimpArgs false
set_option linter.unusedVariables false
set_option maxHeartbeats 2000000
set_option maxRecDepth 100000
namespace Go.Proofs.YtphakidbddamfaaGreat
open Go.RowKit

theorem mkOwn_ok (m : MarksD) (hf : MkFit 1048576 m) : FnAg Tryz.prog 132 [.agg m.cs] [.deep 23 1 (m.grades.map (datL 1 datI)), .deep 23 1 (m.components.map (datL 1 datI))] := by
  obtain ⟨⟨hf1, hf2⟩, hf3, hf4⟩ := hf
  refine fn_okA G_ok Tryz.func132 rfl rfl ?_; simp only [Tryz.ntmps132, List.length_cons, List.length_nil, Nat.reduceAdd, Nat.reduceSub, enm]
  repeat' (first | with_reducible refine stop_seq (id := 1) ?_ | with_reducible refine stop_one (id := 1) ?_ | ((with_reducible first | (refine hK _ ?_; clear hK K) | refine stq fun K' hK' => ?_ | refine stc ?_); try simp only [go_sem]) | (with_reducible first | refine stp ?_ | (refine hK' _ ?_; clear hK' K') | refine kN kl132 fun K hK => ?_ | refine kO fun K hK => ?_) | refine iB ?_ | (with_reducible apply pw_seq_any_to kl132 mixed) | (with_reducible refine pw_any mixed ?_) | ((first | refine any_step G_ok [0, 2] (by decide +kernel) rfl ?_ | refine any_step G_ok [1, 2] (by decide +kernel) rfl ?_ | refine any_step G_ok [2] (by decide +kernel) rfl ?_ | refine any_step G_ok [3] (by decide +kernel) rfl ?_ | refine any_step G_ok [4] (by decide +kernel) rfl ?_ | refine any_step G_ok [5] (by decide +kernel) rfl ?_ | refine any_step G_ok [6] (by decide +kernel) rfl ?_ | refine any_step G_ok [7] (by decide +kernel) rfl ?_ | refine any_step G_ok [1, 3] (by decide +kernel) rfl ?_ | refine any_step G_ok [1, 4] (by decide +kernel) rfl ?_ | refine any_step G_ok [1] (by decide +kernel) rfl ?_ | refine any_step G_ok [0, 3] (by decide +kernel) rfl ?_ | refine any_step G_ok [0, 4] (by decide +kernel) rfl ?_ | refine any_step G_ok [0] (by decide +kernel) rfl ?_); (repeat' with_reducible first | exact True.intro | refine And.intro ?_ ?_) <;> refine ⟨_, rfl, fun K' hK' => ?_⟩ <;> ((first | with_reducible refine s_none rfl ?_ | refine s_some2 rfl ?_); simp only [go_sem])) | (refine any_done (by decide +kernel) ?_; try simp only [go_sem]) | (with_reducible exact Or.inl rfl) | (exact Or.inr (fits_mk [] (by simp [renL_d, bdL_d, sg, over, wipe, wl, memN, ins, rm, lk, fitFr, fit1, ren, renL, bd, bdL, app, fitHp, hget, renB, bdB] <;> omega))) | (with_reducible refine pK_mk ?_ ?_ <;> (intro hc; (try simp only [go_sem]); (try simp at hc); try (exfalso; omega))) | with_reducible refine And.intro (by first | omega | (unfold inI; omega)) ?_)
  unfold Stop
  refine pw_seq (pw_region ?_)
  refine po_build_nil2 23 1 23 1 rfl (G_ok _ _ G45) rfl ?_
  refine exec_sound G_ok ?_
  simp only [go_sem]
  refine exec_sound G_ok ?_
  simp only [go_sem, nilP, nilL]
  refine thenA_normal ?_
  refine pw_deepen 2 rfl (fun _ h => by cases h) ?_
  refine pw_deepen 3 rfl (fun _ h => by cases h) ?_
  simp only [go_sem]
  repeat' (first | ((with_reducible first | (refine hK _ ?_; clear hK K) | refine stq fun K' hK' => ?_ | refine stc ?_); try simp only [go_sem]) | (with_reducible first | refine stp ?_ | (refine hK' _ ?_; clear hK' K') | refine kN kl132 fun K hK => ?_ | refine kO fun K hK => ?_) | refine iB ?_ | (with_reducible refine pK_mk ?_ ?_ <;> (intro hc; (try simp only [go_sem]); (try simp at hc); try (exfalso; omega))) | with_reducible refine And.intro (by first | omega | (unfold inI; omega)) ?_)
  refine pw_loop_over [5, 12, 13, 14, 15, 16, 17, 18, 19, 20, 21, 22, 23] (fun k : Nat => [(1, .bptr 0 0), (2, .bptr 1 0), (3, .bptr 2 0), (8, .und), (12, .d (.int .i64 (k : Int)))]) (fun k => [(0, .box 45 m.cs), (1, .box 45 [.d (.lst 1 []), .d (.lst 1 [])]), (2, .box 45 [.row 3 k, .row 4 0]), (3, .deep 0 23 1 ((m.grades.take k).map (datL 1 datI))), (4, .deep 0 23 1 [])]) 5 (fun k => k ≤ m.grades.length) (fun k => m.grades.length - k) 0 (Nat.zero_le _) (fits_mk [(3, 2), (4, 3)] (by simp [renL_d, bdL_d, sg, over, wipe, wl, memN, ins, rm, lk, fitFr, fit1, ren, renL, bd, bdL, app, fitHp, hget, renB, bdB, List.take_zero] <;> omega)) ?_
  intro k hk; simp only [over, wipe, wl, memN, ins, rm, if_true, if_false, Nat.reduceEqDiff, Bool.false_eq_true, reduceCtorEq]
  by_cases hlt : k < m.grades.length
  · have hx := List.getElem?_eq_getElem hlt
    generalize m.grades[k] = x at hx
    have hxl := hf2 x (List.mem_of_getElem? hx)
    have hyt := take_snoc hx
    have htl : ((m.grades.take k).map (datL 1 datI)).length = k := by simp; omega
    repeat' (first | ((with_reducible first | (refine hK _ ?_; clear hK K) | refine stq fun K' hK' => ?_ | refine stc ?_); try simp only [go_sem, List.getElem?_map, hx, Option.map_some, datL, hlt]) | (with_reducible first | refine stp ?_ | (refine hK' _ ?_; clear hK' K') | refine kN kl132 fun K hK => ?_ | refine kO fun K hK => ?_) | refine iB ?_ | (with_reducible refine pK_mk ?_ ?_ <;> (intro hc; (try simp only [go_sem, List.getElem?_map, hx, Option.map_some, datL, hlt]); (try simp at hc); try (exfalso; omega))) | with_reducible refine And.intro (by first | omega | (unfold inI; omega)) ?_)
    refine pw_anyN mixed ?_
    refine anyN_take 0 rfl rfl rfl (by decide +kernel) (by decide +kernel) (by decide +kernel) (pure_field rfl (G_ok _ _ G45) rfl rfl) ?_
    try simp only [go_sem, Nat.zero_add, Int.toNat_natCast, Nat.mul_one, List.length_map, datL]
    refine anyN_take 2 rfl rfl rfl (by decide +kernel) (by decide +kernel) (by decide +kernel) (pure_move (.inl rfl)) ?_
    try simp only [go_sem, Nat.zero_add, Int.toNat_natCast, Nat.mul_one, List.length_map, datL]
    repeat' (first
      | (with_reducible refine hK' _ ?_; clear hK' K'; try simp only [go_sem, Nat.zero_add, Int.toNat_natCast, Nat.mul_one, List.length_map, datL])
      | ((with_reducible apply CallK.eq); (focus (with_reducible first | exact l1OwnI_ok x (by omega))); (focus (first | exact rfl | (simp [RV.flat, D.sc, datI]; done))); try simp only [go_sem, Nat.zero_add, Int.toNat_natCast, Nat.mul_one, List.length_map, datL])
      | with_reducible refine And.intro (by first | omega | (unfold inI; omega)) ?_
      | (refine anyN_take 6 rfl rfl rfl (by decide +kernel) (by decide +kernel) (by decide +kernel) (pure_field rfl (G_ok _ _ G45) rfl rfl) ?_; try simp only [go_sem, Nat.zero_add, Int.toNat_natCast, Nat.mul_one, List.length_map, datL])
      | (refine anyN_step G_ok [1, 3] (by decide +kernel) rfl ⟨⟨_, rfl, fun K' hK' => ?_⟩, ⟨_, rfl, fun K' hK' => ?_⟩, trivial⟩ <;> ((first | with_reducible refine s_none rfl ?_ | refine s_some2 rfl ?_); simp only [go_sem, Nat.zero_add, Int.toNat_natCast, Nat.mul_one, List.length_map, datL]))
      | (refine anyN_step G_ok [3] (by decide +kernel) rfl ⟨⟨_, rfl, fun K' hK' => ?_⟩, trivial⟩ <;> ((first | with_reducible refine s_none rfl ?_ | refine s_some2 rfl ?_); simp only [go_sem, Nat.zero_add, Int.toNat_natCast, Nat.mul_one, List.length_map, datL]))
      | (refine anyN_step G_ok [4] (by decide +kernel) rfl ⟨⟨_, rfl, fun K' hK' => ?_⟩, trivial⟩ <;> ((first | with_reducible refine s_none rfl ?_ | refine s_some2 rfl ?_); simp only [go_sem, Nat.zero_add, Int.toNat_natCast, Nat.mul_one, List.length_map, datL]))
      | (refine anyN_step G_ok [5] (by decide +kernel) rfl ⟨⟨_, rfl, fun K' hK' => ?_⟩, trivial⟩ <;> ((first | with_reducible refine s_none rfl ?_ | refine s_some2 rfl ?_); simp only [go_sem, Nat.zero_add, Int.toNat_natCast, Nat.mul_one, List.length_map, datL]))
      | (refine anyN_step G_ok [7] (by decide +kernel) rfl ⟨⟨_, rfl, fun K' hK' => ?_⟩, trivial⟩ <;> ((first | with_reducible refine s_none rfl ?_ | refine s_some2 rfl ?_); simp only [go_sem, Nat.zero_add, Int.toNat_natCast, Nat.mul_one, List.length_map, datL]))
      | (refine anyN_step G_ok [1, 4] (by decide +kernel) rfl ⟨⟨_, rfl, fun K' hK' => ?_⟩, ⟨_, rfl, fun K' hK' => ?_⟩, trivial⟩ <;> ((first | with_reducible refine s_none rfl ?_ | refine s_some2 rfl ?_); simp only [go_sem, Nat.zero_add, Int.toNat_natCast, Nat.mul_one, List.length_map, datL]))
      | (refine anyN_step G_ok [1] (by decide +kernel) rfl ⟨⟨_, rfl, fun K' hK' => ?_⟩, trivial⟩ <;> ((first | with_reducible refine s_none rfl ?_ | refine s_some2 rfl ?_); simp only [go_sem, Nat.zero_add, Int.toNat_natCast, Nat.mul_one, List.length_map, datL]))
      | (refine anyN_done (by decide +kernel) ?_; try simp only [go_sem, Nat.zero_add, Int.toNat_natCast, Nat.mul_one, List.length_map, datL])
      | with_reducible refine thenA_normal ?_ | with_reducible refine inBlockA_same ?_ | with_reducible refine inBlockA_normal ?_
      | ((refine po_buildSlice_deep (cs := [.row 5 x.length]) (ds := datL 1 datI x) rfl (G_ok _ _ G27) (by decide) rfl (by simp [ownL, ownC, hget, D.scB, datL]) (by simp [rowIds]) (by simp only [flatL, flatC, hget, if_true, if_false, Nat.reduceEqDiff]; exact ⟨flatE_datI _, trivial⟩) ?_); (refine hK' _ ?_); (clear hK' K'); (simp only [go_sem, datL, List.length_map]))
      | ((refine po_append_deep (es := (m.grades.take k).map (datL 1 datI)) (fs := [datL 1 datI x]) (n := k) (n2 := 1) rfl (G_ok _ _ G27) rfl rfl rfl rfl (by decide) htl rfl (by exact True.intro) (by exact True.intro) (by simp <;> omega) ?_); (refine hK' _ ?_); (clear hK' K'); (simp only [go_sem, datL, List.length_map])))
    all_goals
      repeat' (first | ((with_reducible first | (refine hK _ ?_; clear hK K) | refine stq fun K' hK' => ?_ | refine stc ?_); try simp only [go_sem]) | (with_reducible first | refine stp ?_ | (refine hK' _ ?_; clear hK' K') | refine kN kl132 fun K hK => ?_ | refine kO fun K hK => ?_) | refine iB ?_ | (with_reducible apply pw_seq_any_to kl132 mixed) | (with_reducible refine pw_any mixed ?_) | ((first | refine any_step G_ok [0, 2] (by decide +kernel) rfl ?_ | refine any_step G_ok [1, 2] (by decide +kernel) rfl ?_ | refine any_step G_ok [2] (by decide +kernel) rfl ?_ | refine any_step G_ok [3] (by decide +kernel) rfl ?_ | refine any_step G_ok [4] (by decide +kernel) rfl ?_ | refine any_step G_ok [5] (by decide +kernel) rfl ?_ | refine any_step G_ok [6] (by decide +kernel) rfl ?_ | refine any_step G_ok [7] (by decide +kernel) rfl ?_ | refine any_step G_ok [1, 3] (by decide +kernel) rfl ?_ | refine any_step G_ok [1, 4] (by decide +kernel) rfl ?_ | refine any_step G_ok [1] (by decide +kernel) rfl ?_ | refine any_step G_ok [0, 3] (by decide +kernel) rfl ?_ | refine any_step G_ok [0, 4] (by decide +kernel) rfl ?_ | refine any_step G_ok [0] (by decide +kernel) rfl ?_); (repeat' with_reducible first | exact True.intro | refine And.intro ?_ ?_) <;> refine ⟨_, rfl, fun K' hK' => ?_⟩ <;> ((first | with_reducible refine s_none rfl ?_ | refine s_some2 rfl ?_); simp only [go_sem])) | (refine any_done (by decide +kernel) ?_; try simp only [go_sem]) | (with_reducible exact Or.inl rfl) | (exact Or.inr (fits_mk [] (by simp [renL_d, bdL_d, sg, over, wipe, wl, memN, ins, rm, lk, fitFr, fit1, ren, renL, bd, bdL, app, fitHp, hget, renB, bdB] <;> omega))) | (with_reducible refine pK_mk ?_ ?_ <;> (intro hc; (try simp only [go_sem]); (try simp at hc); try (exfalso; omega))) | with_reducible refine And.intro (by first | omega | (unfold inI; omega)) ?_)
      exact ⟨k + 1, by omega, by omega, (fits_mk [(3, 7), (4, 4)] (by simp [renL_d, bdL_d, sg, over, wipe, wl, memN, ins, rm, lk, fitFr, fit1, ren, renL, bd, bdL, app, fitHp, hget, renB, bdB, datL, hyt, -List.map_take] <;> omega))⟩
  obtain rfl : k = m.grades.length := by omega
  rw [List.take_length]
  repeat' (first | ((with_reducible first | (refine hK _ ?_; clear hK K) | refine stq fun K' hK' => ?_ | refine stc ?_); try simp only [go_sem]) | (with_reducible first | refine stp ?_ | (refine hK' _ ?_; clear hK' K') | refine kN kl132 fun K hK => ?_ | refine kO fun K hK => ?_) | refine iB ?_ | (with_reducible refine pK_mk ?_ ?_ <;> (intro hc; (try simp only [go_sem]); (try simp at hc); try (exfalso; omega))) | with_reducible refine And.intro (by first | omega | (unfold inI; omega)) ?_)
  refine pw_loop_over [7, 27, 28, 29, 30, 31, 32, 33, 34, 35, 36, 37, 38] (fun k : Nat => [(1, .bptr 0 0), (2, .bptr 1 0), (3, .bptr 2 0), (27, .d (.int .i64 (k : Int)))]) (fun k => [(0, .box 45 m.cs), (1, .box 45 [.d (.lst 1 []), .d (.lst 1 [])]), (2, .box 45 [.row 3 m.grades.length, .row 4 k]), (3, .deep 0 23 1 (m.grades.map (datL 1 datI))), (4, .deep 0 23 1 ((m.components.take k).map (datL 1 datI)))]) 5 (fun k => k ≤ m.components.length) (fun k => m.components.length - k) 0 (Nat.zero_le _) (fits_mk [(3, 3), (4, 4)] (by simp [renL_d, bdL_d, sg, over, wipe, wl, memN, ins, rm, lk, fitFr, fit1, ren, renL, bd, bdL, app, fitHp, hget, renB, bdB, List.take_zero] <;> omega)) ?_
  intro k hk; simp only [over, wipe, wl, memN, ins, rm, if_true, if_false, Nat.reduceEqDiff, Bool.false_eq_true, reduceCtorEq]
  by_cases hlt : k < m.components.length
  · have hx := List.getElem?_eq_getElem hlt
    generalize m.components[k] = x at hx
    have hxl := hf4 x (List.mem_of_getElem? hx)
    have hyt := take_snoc hx
    have htl : ((m.components.take k).map (datL 1 datI)).length = k := by simp; omega
    repeat' (first | ((with_reducible first | (refine hK _ ?_; clear hK K) | refine stq fun K' hK' => ?_ | refine stc ?_); try simp only [go_sem, List.getElem?_map, hx, Option.map_some, datL, hlt]) | (with_reducible first | refine stp ?_ | (refine hK' _ ?_; clear hK' K') | refine kN kl132 fun K hK => ?_ | refine kO fun K hK => ?_) | refine iB ?_ | (with_reducible refine pK_mk ?_ ?_ <;> (intro hc; (try simp only [go_sem, List.getElem?_map, hx, Option.map_some, datL, hlt]); (try simp at hc); try (exfalso; omega))) | with_reducible refine And.intro (by first | omega | (unfold inI; omega)) ?_)
    refine pw_anyN mixed ?_
    refine anyN_take 0 rfl rfl rfl (by decide +kernel) (by decide +kernel) (by decide +kernel) (pure_field rfl (G_ok _ _ G45) rfl rfl) ?_
    try simp only [go_sem, Nat.zero_add, Int.toNat_natCast, Nat.mul_one, List.length_map, datL]
    refine anyN_take 2 rfl rfl rfl (by decide +kernel) (by decide +kernel) (by decide +kernel) (pure_move (.inl rfl)) ?_
    try simp only [go_sem, Nat.zero_add, Int.toNat_natCast, Nat.mul_one, List.length_map, datL]
    repeat' (first
      | (with_reducible refine hK' _ ?_; clear hK' K'; try simp only [go_sem, Nat.zero_add, Int.toNat_natCast, Nat.mul_one, List.length_map, datL])
      | ((with_reducible apply CallK.eq); (focus (with_reducible first | exact l1OwnI_ok x (by omega))); (focus (first | exact rfl | (simp [RV.flat, D.sc, datI]; done))); try simp only [go_sem, Nat.zero_add, Int.toNat_natCast, Nat.mul_one, List.length_map, datL])
      | with_reducible refine And.intro (by first | omega | (unfold inI; omega)) ?_
      | (refine anyN_take 6 rfl rfl rfl (by decide +kernel) (by decide +kernel) (by decide +kernel) (pure_field rfl (G_ok _ _ G45) rfl rfl) ?_; try simp only [go_sem, Nat.zero_add, Int.toNat_natCast, Nat.mul_one, List.length_map, datL])
      | (refine anyN_step G_ok [1, 3] (by decide +kernel) rfl ⟨⟨_, rfl, fun K' hK' => ?_⟩, ⟨_, rfl, fun K' hK' => ?_⟩, trivial⟩ <;> ((first | with_reducible refine s_none rfl ?_ | refine s_some2 rfl ?_); simp only [go_sem, Nat.zero_add, Int.toNat_natCast, Nat.mul_one, List.length_map, datL]))
      | (refine anyN_step G_ok [3] (by decide +kernel) rfl ⟨⟨_, rfl, fun K' hK' => ?_⟩, trivial⟩ <;> ((first | with_reducible refine s_none rfl ?_ | refine s_some2 rfl ?_); simp only [go_sem, Nat.zero_add, Int.toNat_natCast, Nat.mul_one, List.length_map, datL]))
      | (refine anyN_step G_ok [4] (by decide +kernel) rfl ⟨⟨_, rfl, fun K' hK' => ?_⟩, trivial⟩ <;> ((first | with_reducible refine s_none rfl ?_ | refine s_some2 rfl ?_); simp only [go_sem, Nat.zero_add, Int.toNat_natCast, Nat.mul_one, List.length_map, datL]))
      | (refine anyN_step G_ok [5] (by decide +kernel) rfl ⟨⟨_, rfl, fun K' hK' => ?_⟩, trivial⟩ <;> ((first | with_reducible refine s_none rfl ?_ | refine s_some2 rfl ?_); simp only [go_sem, Nat.zero_add, Int.toNat_natCast, Nat.mul_one, List.length_map, datL]))
      | (refine anyN_step G_ok [7] (by decide +kernel) rfl ⟨⟨_, rfl, fun K' hK' => ?_⟩, trivial⟩ <;> ((first | with_reducible refine s_none rfl ?_ | refine s_some2 rfl ?_); simp only [go_sem, Nat.zero_add, Int.toNat_natCast, Nat.mul_one, List.length_map, datL]))
      | (refine anyN_step G_ok [1, 4] (by decide +kernel) rfl ⟨⟨_, rfl, fun K' hK' => ?_⟩, ⟨_, rfl, fun K' hK' => ?_⟩, trivial⟩ <;> ((first | with_reducible refine s_none rfl ?_ | refine s_some2 rfl ?_); simp only [go_sem, Nat.zero_add, Int.toNat_natCast, Nat.mul_one, List.length_map, datL]))
      | (refine anyN_step G_ok [1] (by decide +kernel) rfl ⟨⟨_, rfl, fun K' hK' => ?_⟩, trivial⟩ <;> ((first | with_reducible refine s_none rfl ?_ | refine s_some2 rfl ?_); simp only [go_sem, Nat.zero_add, Int.toNat_natCast, Nat.mul_one, List.length_map, datL]))
      | (refine anyN_done (by decide +kernel) ?_; try simp only [go_sem, Nat.zero_add, Int.toNat_natCast, Nat.mul_one, List.length_map, datL])
      | with_reducible refine thenA_normal ?_ | with_reducible refine inBlockA_same ?_ | with_reducible refine inBlockA_normal ?_
      | ((refine po_buildSlice_deep (cs := [.row 5 x.length]) (ds := datL 1 datI x) rfl (G_ok _ _ G27) (by decide) rfl (by simp [ownL, ownC, hget, D.scB, datL]) (by simp [rowIds]) (by simp only [flatL, flatC, hget, if_true, if_false, Nat.reduceEqDiff]; exact ⟨flatE_datI _, trivial⟩) ?_); (refine hK' _ ?_); (clear hK' K'); (simp only [go_sem, datL, List.length_map]))
      | ((refine po_append_deep (es := (m.components.take k).map (datL 1 datI)) (fs := [datL 1 datI x]) (n := k) (n2 := 1) rfl (G_ok _ _ G27) rfl rfl rfl rfl (by decide) htl rfl (by exact True.intro) (by exact True.intro) (by simp <;> omega) ?_); (refine hK' _ ?_); (clear hK' K'); (simp only [go_sem, datL, List.length_map])))
    all_goals
      repeat' (first | ((with_reducible first | (refine hK _ ?_; clear hK K) | refine stq fun K' hK' => ?_ | refine stc ?_); try simp only [go_sem]) | (with_reducible first | refine stp ?_ | (refine hK' _ ?_; clear hK' K') | refine kN kl132 fun K hK => ?_ | refine kO fun K hK => ?_) | refine iB ?_ | (with_reducible apply pw_seq_any_to kl132 mixed) | (with_reducible refine pw_any mixed ?_) | ((first | refine any_step G_ok [0, 2] (by decide +kernel) rfl ?_ | refine any_step G_ok [1, 2] (by decide +kernel) rfl ?_ | refine any_step G_ok [2] (by decide +kernel) rfl ?_ | refine any_step G_ok [3] (by decide +kernel) rfl ?_ | refine any_step G_ok [4] (by decide +kernel) rfl ?_ | refine any_step G_ok [5] (by decide +kernel) rfl ?_ | refine any_step G_ok [6] (by decide +kernel) rfl ?_ | refine any_step G_ok [7] (by decide +kernel) rfl ?_ | refine any_step G_ok [1, 3] (by decide +kernel) rfl ?_ | refine any_step G_ok [1, 4] (by decide +kernel) rfl ?_ | refine any_step G_ok [1] (by decide +kernel) rfl ?_ | refine any_step G_ok [0, 3] (by decide +kernel) rfl ?_ | refine any_step G_ok [0, 4] (by decide +kernel) rfl ?_ | refine any_step G_ok [0] (by decide +kernel) rfl ?_); (repeat' with_reducible first | exact True.intro | refine And.intro ?_ ?_) <;> refine ⟨_, rfl, fun K' hK' => ?_⟩ <;> ((first | with_reducible refine s_none rfl ?_ | refine s_some2 rfl ?_); simp only [go_sem])) | (refine any_done (by decide +kernel) ?_; try simp only [go_sem]) | (with_reducible exact Or.inl rfl) | (exact Or.inr (fits_mk [] (by simp [renL_d, bdL_d, sg, over, wipe, wl, memN, ins, rm, lk, fitFr, fit1, ren, renL, bd, bdL, app, fitHp, hget, renB, bdB] <;> omega))) | (with_reducible refine pK_mk ?_ ?_ <;> (intro hc; (try simp only [go_sem]); (try simp at hc); try (exfalso; omega))) | with_reducible refine And.intro (by first | omega | (unfold inI; omega)) ?_)
      exact ⟨k + 1, by omega, by omega, (fits_mk [(3, 3), (4, 7)] (by simp [renL_d, bdL_d, sg, over, wipe, wl, memN, ins, rm, lk, fitFr, fit1, ren, renL, bd, bdL, app, fitHp, hget, renB, bdB, datL, hyt, -List.map_take] <;> omega))⟩
  obtain rfl : k = m.components.length := by omega
  rw [List.take_length]
  repeat' (first | ((with_reducible first | (refine hK _ ?_; clear hK K) | refine stq fun K' hK' => ?_ | refine stc ?_); try simp only [go_sem]) | (with_reducible first | refine stp ?_ | (refine hK' _ ?_; clear hK' K') | refine kN kl132 fun K hK => ?_ | refine kO fun K hK => ?_) | refine iB ?_ | (with_reducible apply pw_seq_any_to kl132 mixed) | (with_reducible refine pw_any mixed ?_) | ((first | refine any_step G_ok [0, 2] (by decide +kernel) rfl ?_ | refine any_step G_ok [1, 2] (by decide +kernel) rfl ?_ | refine any_step G_ok [2] (by decide +kernel) rfl ?_ | refine any_step G_ok [3] (by decide +kernel) rfl ?_ | refine any_step G_ok [4] (by decide +kernel) rfl ?_ | refine any_step G_ok [5] (by decide +kernel) rfl ?_ | refine any_step G_ok [6] (by decide +kernel) rfl ?_ | refine any_step G_ok [7] (by decide +kernel) rfl ?_ | refine any_step G_ok [1, 3] (by decide +kernel) rfl ?_ | refine any_step G_ok [1, 4] (by decide +kernel) rfl ?_ | refine any_step G_ok [1] (by decide +kernel) rfl ?_ | refine any_step G_ok [0, 3] (by decide +kernel) rfl ?_ | refine any_step G_ok [0, 4] (by decide +kernel) rfl ?_ | refine any_step G_ok [0] (by decide +kernel) rfl ?_); (repeat' with_reducible first | exact True.intro | refine And.intro ?_ ?_) <;> refine ⟨_, rfl, fun K' hK' => ?_⟩ <;> ((first | with_reducible refine s_none rfl ?_ | refine s_some2 rfl ?_); simp only [go_sem])) | (refine any_done (by decide +kernel) ?_; try simp only [go_sem]) | (with_reducible exact Or.inl rfl) | (exact Or.inr (fits_mk [] (by simp [renL_d, bdL_d, sg, over, wipe, wl, memN, ins, rm, lk, fitFr, fit1, ren, renL, bd, bdL, app, fitHp, hget, renB, bdB] <;> omega))) | (with_reducible refine pK_mk ?_ ?_ <;> (intro hc; (try simp only [go_sem]); (try simp at hc); try (exfalso; omega))) | with_reducible refine And.intro (by first | omega | (unfold inI; omega)) ?_)
  refine ⟨_, rfl, by simp only [retL, ret1, hget, lk, List.take_succ_cons, List.take_zero, List.drop_zero, List.length_map, if_true, if_false, Nat.reduceEqDiff], by simp [rowsOf, lk]⟩
theorem sgWith_ok (p : PerfD) (l : List ItemD) (hpf : PfFit 1048576 p) (hn : l.length ≤ 1048576) (hs : ∀ r ∈ l, ItFit 1048576 r) : FnAg Tryz.prog 82 [.agg p.cs, .d (.lst 3 (l.map ItemD.dat))] [rvI l, .deep 23 1 (p.marks.grades.map (datL 1 datI)), .deep 23 1 (p.marks.components.map (datL 1 datI)), .d (.int .i64 p.slips.falls), .d (.int .i64 p.slips.seconds), .d (.int .i64 p.slips.other)] := by
  have hi := itOwn_ok l hn hs
  by_cases h0 : l.length = 0
  · rw [show rvI l = _ from if_pos h0] at hi ⊢
    refine fn_okA G_ok Tryz.func82 rfl rfl ?_; simp only [Tryz.ntmps82, List.length_cons, List.length_nil, Nat.reduceAdd, Nat.reduceSub, enm]
    repeat' (first | ((with_reducible first | (refine hK _ ?_; clear hK K) | refine stq fun K' hK' => ?_ | refine stc ?_); try simp only [go_sem]) | (with_reducible first | refine stp ?_ | (refine hK' _ ?_; clear hK' K') | refine kN kl82 fun K hK => ?_ | refine kO fun K hK => ?_) | (with_reducible refine pK_mk ?_ ?_ <;> (intro hc; (try simp only [go_sem]); (try simp at hc); try (exfalso; omega))) | with_reducible refine And.intro (by first | omega | (unfold inI; omega)) ?_)
    refine pw_seq_anyN kl82 mixed ?_
    refine anyN_take 0 rfl rfl rfl (by decide +kernel) (by decide +kernel) (by decide +kernel) (pure_move (.inl rfl)) ?_
    try simp only [go_sem, Nat.zero_add, Int.toNat_natCast, Nat.mul_one, List.length_map, List.length_nil]
    refine anyN_take 2 rfl rfl rfl (by decide +kernel) (by decide +kernel) (by decide +kernel) (pure_field rfl (G_ok _ _ G48) rfl rfl) ?_
    try simp only [go_sem, Nat.zero_add, Int.toNat_natCast, Nat.mul_one, List.length_map, List.length_nil]
    refine anyN_take 5 rfl rfl rfl (by decide +kernel) (by decide +kernel) (by decide +kernel) (pure_field rfl (G_ok _ _ G48) rfl rfl) ?_
    try simp only [go_sem, Nat.zero_add, Int.toNat_natCast, Nat.mul_one, List.length_map, List.length_nil]
    repeat' (first
      | (with_reducible refine hK' _ ?_; clear hK' K'; try simp only [go_sem, Nat.zero_add, Int.toNat_natCast, Nat.mul_one, List.length_map, List.length_nil])
      | ((with_reducible apply CallK.eq); (focus (with_reducible first | exact hi)); (focus (first | exact rfl | (simp [RV.flat, D.sc, datI]; done))); try simp only [go_sem, Nat.zero_add, Int.toNat_natCast, Nat.mul_one, List.length_map, List.length_nil])
      | with_reducible refine And.intro (by first | omega | (unfold inI; omega)) ?_
      | (refine anyN_step G_ok [1, 3, 6] (by decide +kernel) rfl ⟨⟨_, rfl, fun K' hK' => ?_⟩, ⟨_, rfl, fun K' hK' => ?_⟩, ⟨_, rfl, fun K' hK' => ?_⟩, trivial⟩ <;> ((first | with_reducible refine s_none rfl ?_ | refine s_some2 rfl ?_); simp only [go_sem, Nat.zero_add, Int.toNat_natCast, Nat.mul_one, List.length_map, List.length_nil]))
      | (refine anyN_step G_ok [3, 6] (by decide +kernel) rfl ⟨⟨_, rfl, fun K' hK' => ?_⟩, ⟨_, rfl, fun K' hK' => ?_⟩, trivial⟩ <;> ((first | with_reducible refine s_none rfl ?_ | refine s_some2 rfl ?_); simp only [go_sem, Nat.zero_add, Int.toNat_natCast, Nat.mul_one, List.length_map, List.length_nil]))
      | (refine anyN_step G_ok [4, 6] (by decide +kernel) rfl ⟨⟨_, rfl, fun K' hK' => ?_⟩, ⟨_, rfl, fun K' hK' => ?_⟩, trivial⟩ <;> ((first | with_reducible refine s_none rfl ?_ | refine s_some2 rfl ?_); simp only [go_sem, Nat.zero_add, Int.toNat_natCast, Nat.mul_one, List.length_map, List.length_nil]))
      | (refine anyN_step G_ok [6] (by decide +kernel) rfl ⟨⟨_, rfl, fun K' hK' => ?_⟩, trivial⟩ <;> ((first | with_reducible refine s_none rfl ?_ | refine s_some2 rfl ?_); simp only [go_sem, Nat.zero_add, Int.toNat_natCast, Nat.mul_one, List.length_map, List.length_nil]))
      | (refine anyN_step G_ok [7] (by decide +kernel) rfl ⟨⟨_, rfl, fun K' hK' => ?_⟩, trivial⟩ <;> ((first | with_reducible refine s_none rfl ?_ | refine s_some2 rfl ?_); simp only [go_sem, Nat.zero_add, Int.toNat_natCast, Nat.mul_one, List.length_map, List.length_nil]))
      | (refine anyN_step G_ok [8] (by decide +kernel) rfl ⟨⟨_, rfl, fun K' hK' => ?_⟩, trivial⟩ <;> ((first | with_reducible refine s_none rfl ?_ | refine s_some2 rfl ?_); simp only [go_sem, Nat.zero_add, Int.toNat_natCast, Nat.mul_one, List.length_map, List.length_nil]))
      | (refine anyN_step G_ok [4] (by decide +kernel) rfl ⟨⟨_, rfl, fun K' hK' => ?_⟩, trivial⟩ <;> ((first | with_reducible refine s_none rfl ?_ | refine s_some2 rfl ?_); simp only [go_sem, Nat.zero_add, Int.toNat_natCast, Nat.mul_one, List.length_map, List.length_nil]))
      | (refine anyN_step G_ok [3] (by decide +kernel) rfl ⟨⟨_, rfl, fun K' hK' => ?_⟩, trivial⟩ <;> ((first | with_reducible refine s_none rfl ?_ | refine s_some2 rfl ?_); simp only [go_sem, Nat.zero_add, Int.toNat_natCast, Nat.mul_one, List.length_map, List.length_nil]))
      | (refine anyN_step G_ok [1, 6] (by decide +kernel) rfl ⟨⟨_, rfl, fun K' hK' => ?_⟩, ⟨_, rfl, fun K' hK' => ?_⟩, trivial⟩ <;> ((first | with_reducible refine s_none rfl ?_ | refine s_some2 rfl ?_); simp only [go_sem, Nat.zero_add, Int.toNat_natCast, Nat.mul_one, List.length_map, List.length_nil]))
      | (refine anyN_step G_ok [1] (by decide +kernel) rfl ⟨⟨_, rfl, fun K' hK' => ?_⟩, trivial⟩ <;> ((first | with_reducible refine s_none rfl ?_ | refine s_some2 rfl ?_); simp only [go_sem, Nat.zero_add, Int.toNat_natCast, Nat.mul_one, List.length_map, List.length_nil]))
      | (refine anyN_step G_ok [1, 3] (by decide +kernel) rfl ⟨⟨_, rfl, fun K' hK' => ?_⟩, ⟨_, rfl, fun K' hK' => ?_⟩, trivial⟩ <;> ((first | with_reducible refine s_none rfl ?_ | refine s_some2 rfl ?_); simp only [go_sem, Nat.zero_add, Int.toNat_natCast, Nat.mul_one, List.length_map, List.length_nil]))
      | (refine anyN_done (by decide +kernel) ?_; try simp only [go_sem, Nat.zero_add, Int.toNat_natCast, Nat.mul_one, List.length_map, List.length_nil])
      | ((refine CallK.po (po_callA rfl rfl (mkOwn_ok p.marks hpf.2) ⟨fun h => by simp [AS.get, lk, rf2, rf1, rf0] at h, ?_⟩)); (refine hK' _ ?_); (clear hK' K'); (simp only [go_sem, List.length_map])))
    all_goals
      repeat' (first | ((with_reducible first | (refine hK _ ?_; clear hK K) | refine stq fun K' hK' => ?_ | refine stc ?_); try simp only [go_sem]) | (with_reducible first | refine stp ?_ | (refine hK' _ ?_; clear hK' K') | refine kN kl82 fun K hK => ?_ | refine kO fun K hK => ?_) | (with_reducible apply pw_seq_any_to kl82 mixed) | (with_reducible refine pw_any mixed ?_) | ((first | refine any_step G_ok [0, 2, 5] (by decide +kernel) rfl ?_ | refine any_step G_ok [1, 2, 5] (by decide +kernel) rfl ?_ | refine any_step G_ok [2, 5] (by decide +kernel) rfl ?_ | refine any_step G_ok [3, 5] (by decide +kernel) rfl ?_ | refine any_step G_ok [4, 5] (by decide +kernel) rfl ?_ | refine any_step G_ok [5] (by decide +kernel) rfl ?_ | refine any_step G_ok [6] (by decide +kernel) rfl ?_ | refine any_step G_ok [7] (by decide +kernel) rfl ?_ | refine any_step G_ok [8] (by decide +kernel) rfl ?_ | refine any_step G_ok [4, 6] (by decide +kernel) rfl ?_ | refine any_step G_ok [4] (by decide +kernel) rfl ?_ | refine any_step G_ok [3, 6] (by decide +kernel) rfl ?_ | refine any_step G_ok [3] (by decide +kernel) rfl ?_ | refine any_step G_ok [2, 6] (by decide +kernel) rfl ?_ | refine any_step G_ok [2] (by decide +kernel) rfl ?_ | refine any_step G_ok [1, 3, 5] (by decide +kernel) rfl ?_ | refine any_step G_ok [1, 5] (by decide +kernel) rfl ?_ | refine any_step G_ok [1, 6] (by decide +kernel) rfl ?_ | refine any_step G_ok [1] (by decide +kernel) rfl ?_ | refine any_step G_ok [1, 3, 6] (by decide +kernel) rfl ?_ | refine any_step G_ok [1, 3] (by decide +kernel) rfl ?_ | refine any_step G_ok [1, 2, 6] (by decide +kernel) rfl ?_ | refine any_step G_ok [1, 2] (by decide +kernel) rfl ?_ | refine any_step G_ok [0, 3, 5] (by decide +kernel) rfl ?_ | refine any_step G_ok [0, 5] (by decide +kernel) rfl ?_ | refine any_step G_ok [0, 6] (by decide +kernel) rfl ?_ | refine any_step G_ok [0] (by decide +kernel) rfl ?_ | refine any_step G_ok [0, 3, 6] (by decide +kernel) rfl ?_ | refine any_step G_ok [0, 3] (by decide +kernel) rfl ?_ | refine any_step G_ok [0, 2, 6] (by decide +kernel) rfl ?_ | refine any_step G_ok [0, 2] (by decide +kernel) rfl ?_); (repeat' with_reducible first | exact True.intro | refine And.intro ?_ ?_) <;> refine ⟨_, rfl, fun K' hK' => ?_⟩ <;> ((first | with_reducible refine s_none rfl ?_ | refine s_some2 rfl ?_); simp only [go_sem])) | (refine any_done (by decide +kernel) ?_; try simp only [go_sem]) | (with_reducible exact Or.inl rfl) | (exact Or.inr (fits_mk [] (by simp [renL_d, bdL_d, sg, over, wipe, wl, memN, ins, rm, lk, fitFr, fit1, ren, renL, bd, bdL, app, fitHp, hget, renB, bdB] <;> omega))) | (with_reducible refine pK_mk ?_ ?_ <;> (intro hc; (try simp only [go_sem]); (try simp at hc); try (exfalso; omega))) | with_reducible refine And.intro (by first | omega | (unfold inI; omega)) ?_)
      refine ⟨_, rfl, by simp only [retL, ret1, hget, lk, List.take_succ_cons, List.take_zero, List.drop_zero, List.length_map, List.length_nil, if_true, if_false, Nat.reduceEqDiff], by simp [rowsOf, rowIds, lk]⟩
  · rw [show rvI l = _ from if_neg h0] at hi ⊢
    refine fn_okA G_ok Tryz.func82 rfl rfl ?_; simp only [Tryz.ntmps82, List.length_cons, List.length_nil, Nat.reduceAdd, Nat.reduceSub, enm]
    repeat' (first | ((with_reducible first | (refine hK _ ?_; clear hK K) | refine stq fun K' hK' => ?_ | refine stc ?_); try simp only [go_sem]) | (with_reducible first | refine stp ?_ | (refine hK' _ ?_; clear hK' K') | refine kN kl82 fun K hK => ?_ | refine kO fun K hK => ?_) | (with_reducible refine pK_mk ?_ ?_ <;> (intro hc; (try simp only [go_sem]); (try simp at hc); try (exfalso; omega))) | with_reducible refine And.intro (by first | omega | (unfold inI; omega)) ?_)
    refine pw_seq_anyN kl82 mixed ?_
    refine anyN_take 0 rfl rfl rfl (by decide +kernel) (by decide +kernel) (by decide +kernel) (pure_move (.inl rfl)) ?_
    try simp only [go_sem, Nat.zero_add, Int.toNat_natCast, Nat.mul_one, List.length_map, List.length_nil]
    refine anyN_take 2 rfl rfl rfl (by decide +kernel) (by decide +kernel) (by decide +kernel) (pure_field rfl (G_ok _ _ G48) rfl rfl) ?_
    try simp only [go_sem, Nat.zero_add, Int.toNat_natCast, Nat.mul_one, List.length_map, List.length_nil]
    refine anyN_take 5 rfl rfl rfl (by decide +kernel) (by decide +kernel) (by decide +kernel) (pure_field rfl (G_ok _ _ G48) rfl rfl) ?_
    try simp only [go_sem, Nat.zero_add, Int.toNat_natCast, Nat.mul_one, List.length_map, List.length_nil]
    repeat' (first
      | (with_reducible refine hK' _ ?_; clear hK' K'; try simp only [go_sem, Nat.zero_add, Int.toNat_natCast, Nat.mul_one, List.length_map, List.length_nil])
      | ((with_reducible apply CallK.eq); (focus (with_reducible first | exact hi)); (focus (first | exact rfl | (simp [RV.flat, D.sc, datI]; done))); try simp only [go_sem, Nat.zero_add, Int.toNat_natCast, Nat.mul_one, List.length_map, List.length_nil])
      | with_reducible refine And.intro (by first | omega | (unfold inI; omega)) ?_
      | (refine anyN_step G_ok [1, 3, 6] (by decide +kernel) rfl ⟨⟨_, rfl, fun K' hK' => ?_⟩, ⟨_, rfl, fun K' hK' => ?_⟩, ⟨_, rfl, fun K' hK' => ?_⟩, trivial⟩ <;> ((first | with_reducible refine s_none rfl ?_ | refine s_some2 rfl ?_); simp only [go_sem, Nat.zero_add, Int.toNat_natCast, Nat.mul_one, List.length_map, List.length_nil]))
      | (refine anyN_step G_ok [3, 6] (by decide +kernel) rfl ⟨⟨_, rfl, fun K' hK' => ?_⟩, ⟨_, rfl, fun K' hK' => ?_⟩, trivial⟩ <;> ((first | with_reducible refine s_none rfl ?_ | refine s_some2 rfl ?_); simp only [go_sem, Nat.zero_add, Int.toNat_natCast, Nat.mul_one, List.length_map, List.length_nil]))
      | (refine anyN_step G_ok [4, 6] (by decide +kernel) rfl ⟨⟨_, rfl, fun K' hK' => ?_⟩, ⟨_, rfl, fun K' hK' => ?_⟩, trivial⟩ <;> ((first | with_reducible refine s_none rfl ?_ | refine s_some2 rfl ?_); simp only [go_sem, Nat.zero_add, Int.toNat_natCast, Nat.mul_one, List.length_map, List.length_nil]))
      | (refine anyN_step G_ok [6] (by decide +kernel) rfl ⟨⟨_, rfl, fun K' hK' => ?_⟩, trivial⟩ <;> ((first | with_reducible refine s_none rfl ?_ | refine s_some2 rfl ?_); simp only [go_sem, Nat.zero_add, Int.toNat_natCast, Nat.mul_one, List.length_map, List.length_nil]))
      | (refine anyN_step G_ok [7] (by decide +kernel) rfl ⟨⟨_, rfl, fun K' hK' => ?_⟩, trivial⟩ <;> ((first | with_reducible refine s_none rfl ?_ | refine s_some2 rfl ?_); simp only [go_sem, Nat.zero_add, Int.toNat_natCast, Nat.mul_one, List.length_map, List.length_nil]))
      | (refine anyN_step G_ok [8] (by decide +kernel) rfl ⟨⟨_, rfl, fun K' hK' => ?_⟩, trivial⟩ <;> ((first | with_reducible refine s_none rfl ?_ | refine s_some2 rfl ?_); simp only [go_sem, Nat.zero_add, Int.toNat_natCast, Nat.mul_one, List.length_map, List.length_nil]))
      | (refine anyN_step G_ok [4] (by decide +kernel) rfl ⟨⟨_, rfl, fun K' hK' => ?_⟩, trivial⟩ <;> ((first | with_reducible refine s_none rfl ?_ | refine s_some2 rfl ?_); simp only [go_sem, Nat.zero_add, Int.toNat_natCast, Nat.mul_one, List.length_map, List.length_nil]))
      | (refine anyN_step G_ok [3] (by decide +kernel) rfl ⟨⟨_, rfl, fun K' hK' => ?_⟩, trivial⟩ <;> ((first | with_reducible refine s_none rfl ?_ | refine s_some2 rfl ?_); simp only [go_sem, Nat.zero_add, Int.toNat_natCast, Nat.mul_one, List.length_map, List.length_nil]))
      | (refine anyN_step G_ok [1, 6] (by decide +kernel) rfl ⟨⟨_, rfl, fun K' hK' => ?_⟩, ⟨_, rfl, fun K' hK' => ?_⟩, trivial⟩ <;> ((first | with_reducible refine s_none rfl ?_ | refine s_some2 rfl ?_); simp only [go_sem, Nat.zero_add, Int.toNat_natCast, Nat.mul_one, List.length_map, List.length_nil]))
      | (refine anyN_step G_ok [1] (by decide +kernel) rfl ⟨⟨_, rfl, fun K' hK' => ?_⟩, trivial⟩ <;> ((first | with_reducible refine s_none rfl ?_ | refine s_some2 rfl ?_); simp only [go_sem, Nat.zero_add, Int.toNat_natCast, Nat.mul_one, List.length_map, List.length_nil]))
      | (refine anyN_step G_ok [1, 3] (by decide +kernel) rfl ⟨⟨_, rfl, fun K' hK' => ?_⟩, ⟨_, rfl, fun K' hK' => ?_⟩, trivial⟩ <;> ((first | with_reducible refine s_none rfl ?_ | refine s_some2 rfl ?_); simp only [go_sem, Nat.zero_add, Int.toNat_natCast, Nat.mul_one, List.length_map, List.length_nil]))
      | (refine anyN_done (by decide +kernel) ?_; try simp only [go_sem, Nat.zero_add, Int.toNat_natCast, Nat.mul_one, List.length_map, List.length_nil])
      | ((refine CallK.po (po_callA rfl rfl (mkOwn_ok p.marks hpf.2) ⟨fun h => by simp [AS.get, lk, rf2, rf1, rf0] at h, ?_⟩)); (refine hK' _ ?_); (clear hK' K'); (simp only [go_sem, List.length_map])))
    all_goals
      repeat' (first | ((with_reducible first | (refine hK _ ?_; clear hK K) | refine stq fun K' hK' => ?_ | refine stc ?_); try simp only [go_sem]) | (with_reducible first | refine stp ?_ | (refine hK' _ ?_; clear hK' K') | refine kN kl82 fun K hK => ?_ | refine kO fun K hK => ?_) | (with_reducible apply pw_seq_any_to kl82 mixed) | (with_reducible refine pw_any mixed ?_) | ((first | refine any_step G_ok [0, 2, 5] (by decide +kernel) rfl ?_ | refine any_step G_ok [1, 2, 5] (by decide +kernel) rfl ?_ | refine any_step G_ok [2, 5] (by decide +kernel) rfl ?_ | refine any_step G_ok [3, 5] (by decide +kernel) rfl ?_ | refine any_step G_ok [4, 5] (by decide +kernel) rfl ?_ | refine any_step G_ok [5] (by decide +kernel) rfl ?_ | refine any_step G_ok [6] (by decide +kernel) rfl ?_ | refine any_step G_ok [7] (by decide +kernel) rfl ?_ | refine any_step G_ok [8] (by decide +kernel) rfl ?_ | refine any_step G_ok [4, 6] (by decide +kernel) rfl ?_ | refine any_step G_ok [4] (by decide +kernel) rfl ?_ | refine any_step G_ok [3, 6] (by decide +kernel) rfl ?_ | refine any_step G_ok [3] (by decide +kernel) rfl ?_ | refine any_step G_ok [2, 6] (by decide +kernel) rfl ?_ | refine any_step G_ok [2] (by decide +kernel) rfl ?_ | refine any_step G_ok [1, 3, 5] (by decide +kernel) rfl ?_ | refine any_step G_ok [1, 5] (by decide +kernel) rfl ?_ | refine any_step G_ok [1, 6] (by decide +kernel) rfl ?_ | refine any_step G_ok [1] (by decide +kernel) rfl ?_ | refine any_step G_ok [1, 3, 6] (by decide +kernel) rfl ?_ | refine any_step G_ok [1, 3] (by decide +kernel) rfl ?_ | refine any_step G_ok [1, 2, 6] (by decide +kernel) rfl ?_ | refine any_step G_ok [1, 2] (by decide +kernel) rfl ?_ | refine any_step G_ok [0, 3, 5] (by decide +kernel) rfl ?_ | refine any_step G_ok [0, 5] (by decide +kernel) rfl ?_ | refine any_step G_ok [0, 6] (by decide +kernel) rfl ?_ | refine any_step G_ok [0] (by decide +kernel) rfl ?_ | refine any_step G_ok [0, 3, 6] (by decide +kernel) rfl ?_ | refine any_step G_ok [0, 3] (by decide +kernel) rfl ?_ | refine any_step G_ok [0, 2, 6] (by decide +kernel) rfl ?_ | refine any_step G_ok [0, 2] (by decide +kernel) rfl ?_); (repeat' with_reducible first | exact True.intro | refine And.intro ?_ ?_) <;> refine ⟨_, rfl, fun K' hK' => ?_⟩ <;> ((first | with_reducible refine s_none rfl ?_ | refine s_some2 rfl ?_); simp only [go_sem])) | (refine any_done (by decide +kernel) ?_; try simp only [go_sem]) | (with_reducible exact Or.inl rfl) | (exact Or.inr (fits_mk [] (by simp [renL_d, bdL_d, sg, over, wipe, wl, memN, ins, rm, lk, fitFr, fit1, ren, renL, bd, bdL, app, fitHp, hget, renB, bdB] <;> omega))) | (with_reducible refine pK_mk ?_ ?_ <;> (intro hc; (try simp only [go_sem]); (try simp at hc); try (exfalso; omega))) | with_reducible refine And.intro (by first | omega | (unfold inI; omega)) ?_)
      refine ⟨_, rfl, by simp only [retL, ret1, hget, lk, List.take_succ_cons, List.take_zero, List.drop_zero, List.length_map, List.length_nil, if_true, if_false, Nat.reduceEqDiff], by simp [rowsOf, rowIds, lk]⟩
theorem sgWith_dat (p : PerfD) (l : List ItemD) (hpf : PfFit 1048576 p) (hn : l.length ≤ 1048576) (hs : ∀ r ∈ l, ItFit 1048576 r) : FnEq Tryz.prog 82 [.agg p.cs, .d (.lst 3 (l.map ItemD.dat))] [.agg [.lst 3 (l.map ItemD.dat), .lst 1 (p.marks.grades.map (datL 1 datI)), .lst 1 (p.marks.components.map (datL 1 datI)), .int .i64 p.slips.falls, .int .i64 p.slips.seconds, .int .i64 p.slips.other]] :=
  ag_data (sgWith_ok p l hpf hn hs) (by simp only [List.map_cons, List.map_nil, rvI_data]; rfl)
theorem iqWith_ok (c : CodeD) (p : PerfD) (f : Int) (i k m : Int) (hpf : PfFit 1048576 p) (hA : AskP c p f) (hN : HasNm p.items i k) (hm1 : 0 ≤ m) (hm2 : m ≤ 3) : FnEq Tryz.prog 65 [.agg c.cs, .agg p.cs, .d (.int .i64 f), .d (.int .i64 i), .d (.int .i64 k), .d (.int .i64 m)] [.d (.int .i64 (segW c (withI p (stepI p.items (oneI i k m))) f))] := by
  have hi0 := hN.1
  have hj0 := hN.2.1
  obtain ⟨a, b, mk, ha, hb, hnm, hml, hjn, hmn, hm, hmk⟩ := hN.there (q := []) hA.1.2.1 0
  rw [itTo_zero] at hb
  have hilt : i.toNat < p.items.length := (List.getElem?_eq_some_iff.1 ha).1
  have hjlt : k.toNat < b.marks.length := by omega
  have h0 : p.items.length ≠ 0 := by omega
  have hw := sgWith_ok p p.items hpf hpf.1.1 hpf.1.2
  rw [show rvI p.items = _ from if_neg h0] at hw
  have hset := stepI_set (j := k) (m := m) hb
  have hs2 := sgScore_ok c _ f (ask_one (i := i) (k := k) hA hm1 hm2)
  simp only [withI] at hs2 ⊢
  refine fn_ok G_ok Tryz.func65 rfl rfl ?_; simp only [Tryz.ntmps65, List.length_cons, List.length_nil, Nat.reduceAdd, Nat.reduceSub, enm]
  repeat' (first | ((with_reducible first | (refine hK _ ?_; clear hK K) | refine stq fun K' hK' => ?_ | refine stc ?_); try simp only [go_sem]) | (with_reducible first | refine stp ?_ | (refine hK' _ ?_; clear hK' K') | refine kN kl65 fun K hK => ?_ | refine kO fun K hK => ?_) | (with_reducible refine pK_mk ?_ ?_ <;> (intro hc; (try simp only [go_sem]); (try simp at hc); try (exfalso; omega))) | with_reducible refine And.intro (by first | omega | (unfold inI; omega)) ?_)
  refine CallK.po (po_callA rfl rfl hw ⟨fun h => by simp [AS.get, lk, rf2, rf1, rf0] at h, ?_⟩)
  repeat' (first | ((with_reducible first | (refine hK _ ?_; clear hK K) | refine stq fun K' hK' => ?_ | refine stc ?_); try simp only [go_sem, List.getElem?_map, Option.map_some, ItemD.dat, hb, hilt, hjlt, hm, datI, List.length_map, hi0, hj0]) | (with_reducible first | refine stp ?_ | (refine hK' _ ?_; clear hK' K') | refine kN kl65 fun K hK => ?_ | refine kO fun K hK => ?_) | ((with_reducible apply CallK.eq); (· with_reducible first | exact hs2); (· simp [RV.flat, D.sc, datI]); try simp only [go_sem, List.getElem?_map, Option.map_some, ItemD.dat, hb, hilt, hjlt, hm, datI, List.length_map, hi0, hj0]) | (with_reducible refine pK_mk ?_ ?_ <;> (intro hc; (try simp only [go_sem, List.getElem?_map, Option.map_some, ItemD.dat, hb, hilt, hjlt, hm, datI, List.length_map, hi0, hj0]); (try simp at hc); try (exfalso; omega))) | with_reducible refine And.intro (by first | omega | (unfold inI; omega)) ?_)
  all_goals first
    | (exfalso; omega)
    | skip
  refine po_store_al (es' := b.marks.map datI) (e1 := datI mk) (ds := [.int .i64 m]) rfl (G_ok _ _ G3) rfl rfl rfl (by simp [alC, hb, ItemD.dat]) (by rw [List.getElem?_map, hm]; rfl) rfl rfl rfl (Nat.le_refl _) ?_
  have hln := stepI_len p.items (oneI i k m)
  repeat' (first | ((with_reducible first | (refine hK _ ?_; clear hK K) | refine stq fun K' hK' => ?_ | refine stc ?_); try simp only [go_sem, setC, List.getElem?_map, hb, Option.map_some, ItemD.dat, List.set_cons_succ, List.set_cons_zero, spl, datI, hset, hln, List.length_map]) | (with_reducible first | refine stp ?_ | (refine hK' _ ?_; clear hK' K') | refine kN kl65 fun K hK => ?_ | refine kO fun K hK => ?_) | ((with_reducible apply CallK.eq); (· with_reducible first | exact hs2); (· simp [RV.flat, D.sc, datI]); try simp only [go_sem, setC, List.getElem?_map, hb, Option.map_some, ItemD.dat, List.set_cons_succ, List.set_cons_zero, spl, datI, hset, hln, List.length_map]) | (with_reducible refine pK_mk ?_ ?_ <;> (intro hc; (try simp only [go_sem, setC, List.getElem?_map, hb, Option.map_some, ItemD.dat, List.set_cons_succ, List.set_cons_zero, spl, datI, hset, hln, List.length_map]); (try simp at hc); try (exfalso; omega))) | with_reducible refine And.intro (by first | omega | (unfold inI; omega)) ?_)
  all_goals first
    | (exfalso; omega)
    | (refine retQ_ret rfl rfl (by simp [rowsOf, lk]) ?_; rfl)
theorem spec_ScoreAfter_ok (c : CodeD) (p : PerfD) (f : Int) (q : List InquiryD) (hcf : CdFit 1048576 c) (hpf : PfFit 1048576 p) (hq : q.length ≤ 1048576) : FnEq Tryz.prog 19 [.agg c.cs, .agg p.cs, .d (.int .i64 f), .d (.lst 5 (q.map InquiryD.dat))] [.d (.int .i64 ((ansScoreAfter c p f q).getD 0)), .d (.bool (ansScoreAfter c p f q).isSome)] := by
  have hs0 := sgAsked_ok c p f hcf hpf
  refine fn_ok G_ok Tryz.func19 rfl rfl ?_; simp only [Tryz.ntmps19, List.length_cons, List.length_nil, Nat.reduceAdd, Nat.reduceSub, enm]
  by_cases hA : AskP c p f
  · have hb := bP_true hA
    have hd := eq_dataI (iqRun_ok p.items q hpf.1.1 hpf.1.2 hA.1.2.1 (by omega))
    rw [decR_data] at hd
    by_cases hI : InqsOk p.items q ∧ q.length ≤ 20
    · have hb2 := bP_true hI
      rw [show ansScoreAfter c p f q = _ from optP_pos ⟨hA, hI⟩]
      have hw : iqW p.items q = itTo p.items q q.length := if_pos (bP_true hI.1)
      rw [hw] at hd
      have hfit : ∀ r ∈ itTo p.items q q.length, ItFit 1048576 r := fun r hr => by
        obtain ⟨j, hj⟩ := List.getElem?_of_mem hr
        have hlt := (List.getElem?_eq_some_iff.1 hj).1
        rw [itTo_len] at hlt
        have ha := List.getElem?_eq_getElem hlt
        obtain ⟨b, hb, h1, h2, h3⟩ := itTo_like (q := q) ha q.length
        rw [hj] at hb
        cases hb
        obtain ⟨g1, g2, g3⟩ := hpf.1.2 _ (List.mem_of_getElem? ha)
        exact ⟨by rw [h1]; exact g1, by rw [h1]; exact g2, by rw [h2]; exact g3⟩
      have hs1 := sgWith_dat p (itTo p.items q q.length) hpf (by rw [itTo_len]; exact hpf.1.1) hfit
      have hs2 := sgScore_ok c _ f (ask_itTo hA hI.1)
      generalize itTo p.items q q.length = l at hd hs1 hs2 ⊢
      simp only [withI] at hs2 ⊢
      repeat' (first | ((with_reducible first | (refine hK _ ?_; clear hK K) | refine stq fun K' hK' => ?_ | refine stc ?_); try simp only [go_sem, hb, hb2]) | (with_reducible first | refine stp ?_ | (refine hK' _ ?_; clear hK' K') | refine kN kl19 fun K hK => ?_ | refine kO fun K hK => ?_) | ((with_reducible apply CallK.eq); (· with_reducible first | exact hs0 | exact hd); (· simp [RV.flat, D.sc, datI]); try simp only [go_sem, hb, hb2]) | (with_reducible refine pK_mk ?_ ?_ <;> (intro hc; (try simp only [go_sem, hb, hb2]); (try simp at hc); try (exfalso; omega))) | with_reducible refine And.intro (by first | omega | (unfold inI; omega)) ?_)
      all_goals first
        | (exfalso; omega)
        | skip
      refine pw_seq_grow kl19 mixed [[4], [5], [10], [27, 28], [2], [26, 29, 30], [31], []] 32 rfl (by decide +kernel) (fun K hK => ?_)
      refine grow_quiet G_ok (fun KP hKP => ?_)
      simp only [go_sem, restr, Nat.zero_add, Int.toNat_natCast, Nat.mul_one]
      repeat (first | (with_reducible refine hKP _ ?_; clear hKP KP) | with_reducible refine And.intro (by first | omega | (unfold inI; omega)) ?_ | (with_reducible refine pK_mk (fun hc => ?_) (fun hc => ?_) <;> (try simp only [go_sem, restr, Nat.zero_add, Int.toNat_natCast, Nat.mul_one]) <;> (try simp at hc) <;> (try (exfalso; omega))))
      try simp only [go_sem, restr, Nat.zero_add, Int.toNat_natCast, Nat.mul_one]
      refine grow_quiet G_ok (fun KP hKP => ?_)
      simp only [go_sem, restr, Nat.zero_add, Int.toNat_natCast, Nat.mul_one]
      repeat (first | (with_reducible refine hKP _ ?_; clear hKP KP) | with_reducible refine And.intro (by first | omega | (unfold inI; omega)) ?_ | (with_reducible refine pK_mk (fun hc => ?_) (fun hc => ?_) <;> (try simp only [go_sem, restr, Nat.zero_add, Int.toNat_natCast, Nat.mul_one]) <;> (try simp at hc) <;> (try (exfalso; omega))))
      try simp only [go_sem, restr, Nat.zero_add, Int.toNat_natCast, Nat.mul_one]
      refine grow_quiet G_ok (fun KP hKP => ?_)
      simp only [go_sem, restr, Nat.zero_add, Int.toNat_natCast, Nat.mul_one]
      repeat (first | (with_reducible refine hKP _ ?_; clear hKP KP) | with_reducible refine And.intro (by first | omega | (unfold inI; omega)) ?_ | (with_reducible refine pK_mk (fun hc => ?_) (fun hc => ?_) <;> (try simp only [go_sem, restr, Nat.zero_add, Int.toNat_natCast, Nat.mul_one]) <;> (try simp at hc) <;> (try (exfalso; omega))))
      try simp only [go_sem, restr, Nat.zero_add, Int.toNat_natCast, Nat.mul_one]
      (first | (apply grow_call rfl rfl; focus (simp only [go_sem, restr, Nat.zero_add, Int.toNat_natCast, Nat.mul_one]; (with_reducible first | exact hs1 | exact hs2))) | (apply grow_callA rfl rfl; focus (simp only [go_sem, restr, Nat.zero_add, Int.toNat_natCast, Nat.mul_one]; (with_reducible first | exact hs1 | exact hs2))))
      focus (first | rfl | (simp only [go_sem, restr, Nat.zero_add, Int.toNat_natCast, Nat.mul_one]; done) | (simp [restr, AS.get, lk, rf2, rf1, rf0]; done))
      try simp only [go_sem, restr, Nat.zero_add, Int.toNat_natCast, Nat.mul_one]
      refine grow_quiet G_ok (fun KP hKP => ?_)
      simp only [go_sem, restr, Nat.zero_add, Int.toNat_natCast, Nat.mul_one]
      repeat (first | (with_reducible refine hKP _ ?_; clear hKP KP) | with_reducible refine And.intro (by first | omega | (unfold inI; omega)) ?_ | (with_reducible refine pK_mk (fun hc => ?_) (fun hc => ?_) <;> (try simp only [go_sem, restr, Nat.zero_add, Int.toNat_natCast, Nat.mul_one]) <;> (try simp at hc) <;> (try (exfalso; omega))))
      try simp only [go_sem, restr, Nat.zero_add, Int.toNat_natCast, Nat.mul_one]
      refine grow_quiet G_ok (fun KP hKP => ?_)
      simp only [go_sem, restr, Nat.zero_add, Int.toNat_natCast, Nat.mul_one]
      repeat (first | (with_reducible refine hKP _ ?_; clear hKP KP) | ((with_reducible apply CallQ.eqs); (focus (with_reducible first | exact hs1 | exact hs2)); (focus (first | exact rfl | (simp [RV.flat, D.sc, datI]; done))); try simp only [go_sem, restr, Nat.zero_add, Int.toNat_natCast, Nat.mul_one]) | with_reducible refine And.intro (by first | omega | (unfold inI; omega)) ?_ | (with_reducible refine pK_mk (fun hc => ?_) (fun hc => ?_) <;> (try simp only [go_sem, restr, Nat.zero_add, Int.toNat_natCast, Nat.mul_one]) <;> (try simp at hc) <;> (try (exfalso; omega))))
      try simp only [go_sem, restr, Nat.zero_add, Int.toNat_natCast, Nat.mul_one]
      refine grow_quiet G_ok (fun KP hKP => ?_)
      simp only [go_sem, restr, Nat.zero_add, Int.toNat_natCast, Nat.mul_one]
      repeat (first | (with_reducible refine hKP _ ?_; clear hKP KP) | with_reducible refine And.intro (by first | omega | (unfold inI; omega)) ?_ | (with_reducible refine pK_mk (fun hc => ?_) (fun hc => ?_) <;> (try simp only [go_sem, restr, Nat.zero_add, Int.toNat_natCast, Nat.mul_one]) <;> (try simp at hc) <;> (try (exfalso; omega))))
      try simp only [go_sem, restr, Nat.zero_add, Int.toNat_natCast, Nat.mul_one]
      refine grow_quiet G_ok (fun KP hKP => ?_)
      simp only [go_sem, restr, Nat.zero_add, Int.toNat_natCast, Nat.mul_one]
      repeat (first | (with_reducible refine hKP _ ?_; clear hKP KP) | with_reducible refine And.intro (by first | omega | (unfold inI; omega)) ?_ | (with_reducible refine pK_mk (fun hc => ?_) (fun hc => ?_) <;> (try simp only [go_sem, restr, Nat.zero_add, Int.toNat_natCast, Nat.mul_one]) <;> (try simp at hc) <;> (try (exfalso; omega))))
      try simp only [go_sem, restr, Nat.zero_add, Int.toNat_natCast, Nat.mul_one]
      refine grow_nil ?_
      refine hK _ ?_
      clear hK K
      try simp only [go_sem, restr, Nat.zero_add, Int.toNat_natCast, Nat.mul_one]
      repeat' (first | ((with_reducible first | (refine hK _ ?_; clear hK K) | refine stq fun K' hK' => ?_ | refine stc ?_); try simp only [go_sem]) | (with_reducible first | refine stp ?_ | (refine hK' _ ?_; clear hK' K') | refine kN kl19 fun K hK => ?_ | refine kO fun K hK => ?_) | (with_reducible apply pw_seq_any_to kl19 mixed) | (with_reducible refine pw_any mixed ?_) | ((first | refine any_step G_ok [0, 1, 2, 4] (by decide +kernel) rfl ?_ | refine any_step G_ok [1, 2, 4] (by decide +kernel) rfl ?_ | refine any_step G_ok [2, 4] (by decide +kernel) rfl ?_ | refine any_step G_ok [3, 4] (by decide +kernel) rfl ?_ | refine any_step G_ok [4] (by decide +kernel) rfl ?_ | refine any_step G_ok [5] (by decide +kernel) rfl ?_ | refine any_step G_ok [6] (by decide +kernel) rfl ?_ | refine any_step G_ok [7] (by decide +kernel) rfl ?_ | refine any_step G_ok [3] (by decide +kernel) rfl ?_ | refine any_step G_ok [2] (by decide +kernel) rfl ?_ | refine any_step G_ok [1, 4] (by decide +kernel) rfl ?_ | refine any_step G_ok [1] (by decide +kernel) rfl ?_ | refine any_step G_ok [1, 2] (by decide +kernel) rfl ?_ | refine any_step G_ok [0, 2, 4] (by decide +kernel) rfl ?_ | refine any_step G_ok [0, 3, 4] (by decide +kernel) rfl ?_ | refine any_step G_ok [0, 4] (by decide +kernel) rfl ?_ | refine any_step G_ok [0] (by decide +kernel) rfl ?_ | refine any_step G_ok [0, 3] (by decide +kernel) rfl ?_ | refine any_step G_ok [0, 2] (by decide +kernel) rfl ?_ | refine any_step G_ok [0, 1, 4] (by decide +kernel) rfl ?_ | refine any_step G_ok [0, 1] (by decide +kernel) rfl ?_ | refine any_step G_ok [0, 1, 2] (by decide +kernel) rfl ?_); (repeat' with_reducible first | exact True.intro | refine And.intro ?_ ?_) <;> refine ⟨_, rfl, fun K' hK' => ?_⟩ <;> ((first | with_reducible refine s_none rfl ?_ | refine s_some2 rfl ?_); simp only [go_sem])) | (refine any_done (by decide +kernel) ?_; try simp only [go_sem]) | (with_reducible exact Or.inl rfl) | (exact Or.inr (fits_mk [] (by simp [renL_d, bdL_d, sg, over, wipe, wl, memN, ins, rm, lk, fitFr, fit1, ren, renL, bd, bdL, app, fitHp, hget, renB, bdB] <;> omega))) | (with_reducible refine pK_mk ?_ ?_ <;> (intro hc; (try simp only [go_sem]); (try simp at hc); try (exfalso; omega))) | with_reducible refine And.intro (by first | omega | (unfold inI; omega)) ?_)
      refine retQ_ret rfl rfl (by simp [rowsOf, lk]) ?_; rfl
    · have hb2 := bP_false hI
      rw [show ansScoreAfter c p f q = _ from optP_neg fun h => hI h.2]
      repeat' (first | ((with_reducible first | (refine hK _ ?_; clear hK K) | refine stq fun K' hK' => ?_ | refine stc ?_); try simp only [go_sem, hb, hb2]) | (with_reducible first | refine stp ?_ | (refine hK' _ ?_; clear hK' K') | refine kN kl19 fun K hK => ?_ | refine kO fun K hK => ?_) | ((with_reducible first | apply CallK.eq | apply CallQ.eqs); (· with_reducible first | exact hs0 | exact hd); (· first | exact rfl | (simp [RV.flat, D.sc, datI]; done)); try simp only [go_sem, hb, hb2]) | (with_reducible apply pw_seq_any_to kl19 mixed) | (with_reducible refine pw_any mixed ?_) | ((first | refine any_step G_ok [0, 1, 2, 4] (by decide +kernel) rfl ?_ | refine any_step G_ok [1, 2, 4] (by decide +kernel) rfl ?_ | refine any_step G_ok [2, 4] (by decide +kernel) rfl ?_ | refine any_step G_ok [3, 4] (by decide +kernel) rfl ?_ | refine any_step G_ok [4] (by decide +kernel) rfl ?_ | refine any_step G_ok [5] (by decide +kernel) rfl ?_ | refine any_step G_ok [6] (by decide +kernel) rfl ?_ | refine any_step G_ok [7] (by decide +kernel) rfl ?_ | refine any_step G_ok [3] (by decide +kernel) rfl ?_ | refine any_step G_ok [2] (by decide +kernel) rfl ?_ | refine any_step G_ok [1, 4] (by decide +kernel) rfl ?_ | refine any_step G_ok [1] (by decide +kernel) rfl ?_ | refine any_step G_ok [1, 2] (by decide +kernel) rfl ?_ | refine any_step G_ok [0, 2, 4] (by decide +kernel) rfl ?_ | refine any_step G_ok [0, 3, 4] (by decide +kernel) rfl ?_ | refine any_step G_ok [0, 4] (by decide +kernel) rfl ?_ | refine any_step G_ok [0] (by decide +kernel) rfl ?_ | refine any_step G_ok [0, 3] (by decide +kernel) rfl ?_ | refine any_step G_ok [0, 2] (by decide +kernel) rfl ?_ | refine any_step G_ok [0, 1, 4] (by decide +kernel) rfl ?_ | refine any_step G_ok [0, 1] (by decide +kernel) rfl ?_ | refine any_step G_ok [0, 1, 2] (by decide +kernel) rfl ?_); (repeat' with_reducible first | exact True.intro | refine And.intro ?_ ?_) <;> refine ⟨_, rfl, fun K' hK' => ?_⟩ <;> ((first | with_reducible refine s_none rfl ?_ | refine s_some2 rfl ?_); simp only [go_sem, hb, hb2])) | (refine any_done (by decide +kernel) ?_; try simp only [go_sem, hb, hb2]) | (with_reducible exact Or.inl rfl) | (exact Or.inr (fits_mk [] (by simp [renL_d, bdL_d, sg, over, wipe, wl, memN, ins, rm, lk, fitFr, fit1, ren, renL, bd, bdL, app, fitHp, hget, renB, bdB] <;> omega))) | (with_reducible refine pK_mk ?_ ?_ <;> (intro hc; (try simp only [go_sem, hb, hb2]); (try simp at hc); try (exfalso; omega))) | with_reducible refine And.intro (by first | omega | (unfold inI; omega)) ?_)
      all_goals first
        | (exfalso; omega)
        | (refine retQ_ret rfl rfl (by simp [rowsOf, lk]) ?_; rfl)
  · have hb := bP_false hA
    rw [show ansScoreAfter c p f q = _ from optP_neg fun h => hA h.1]
    repeat' (first | ((with_reducible first | (refine hK _ ?_; clear hK K) | refine stq fun K' hK' => ?_ | refine stc ?_); try simp only [go_sem, hb]) | (with_reducible first | refine stp ?_ | (refine hK' _ ?_; clear hK' K') | refine kN kl19 fun K hK => ?_ | refine kO fun K hK => ?_) | ((with_reducible first | apply CallK.eq | apply CallQ.eqs); (· with_reducible first | exact hs0); (· first | exact rfl | (simp [RV.flat, D.sc, datI]; done)); try simp only [go_sem, hb]) | (with_reducible apply pw_seq_any_to kl19 mixed) | (with_reducible refine pw_any mixed ?_) | ((first | refine any_step G_ok [0, 1, 2, 4] (by decide +kernel) rfl ?_ | refine any_step G_ok [1, 2, 4] (by decide +kernel) rfl ?_ | refine any_step G_ok [2, 4] (by decide +kernel) rfl ?_ | refine any_step G_ok [3, 4] (by decide +kernel) rfl ?_ | refine any_step G_ok [4] (by decide +kernel) rfl ?_ | refine any_step G_ok [5] (by decide +kernel) rfl ?_ | refine any_step G_ok [6] (by decide +kernel) rfl ?_ | refine any_step G_ok [7] (by decide +kernel) rfl ?_ | refine any_step G_ok [3] (by decide +kernel) rfl ?_ | refine any_step G_ok [2] (by decide +kernel) rfl ?_ | refine any_step G_ok [1, 4] (by decide +kernel) rfl ?_ | refine any_step G_ok [1] (by decide +kernel) rfl ?_ | refine any_step G_ok [1, 2] (by decide +kernel) rfl ?_ | refine any_step G_ok [0, 2, 4] (by decide +kernel) rfl ?_ | refine any_step G_ok [0, 3, 4] (by decide +kernel) rfl ?_ | refine any_step G_ok [0, 4] (by decide +kernel) rfl ?_ | refine any_step G_ok [0] (by decide +kernel) rfl ?_ | refine any_step G_ok [0, 3] (by decide +kernel) rfl ?_ | refine any_step G_ok [0, 2] (by decide +kernel) rfl ?_ | refine any_step G_ok [0, 1, 4] (by decide +kernel) rfl ?_ | refine any_step G_ok [0, 1] (by decide +kernel) rfl ?_ | refine any_step G_ok [0, 1, 2] (by decide +kernel) rfl ?_); (repeat' with_reducible first | exact True.intro | refine And.intro ?_ ?_) <;> refine ⟨_, rfl, fun K' hK' => ?_⟩ <;> ((first | with_reducible refine s_none rfl ?_ | refine s_some2 rfl ?_); simp only [go_sem, hb])) | (refine any_done (by decide +kernel) ?_; try simp only [go_sem, hb]) | (with_reducible exact Or.inl rfl) | (exact Or.inr (fits_mk [] (by simp [renL_d, bdL_d, sg, over, wipe, wl, memN, ins, rm, lk, fitFr, fit1, ren, renL, bd, bdL, app, fitHp, hget, renB, bdB] <;> omega))) | (with_reducible refine pK_mk ?_ ?_ <;> (intro hc; (try simp only [go_sem, hb]); (try simp at hc); try (exfalso; omega))) | with_reducible refine And.intro (by first | omega | (unfold inI; omega)) ?_)
    all_goals first
      | (exfalso; omega)
      | (refine retQ_ret rfl rfl (by simp [rowsOf, lk]) ?_; rfl)
theorem spec_InquiryGain_ok (c : CodeD) (p : PerfD) (f : Int) (x : InquiryD) (hcf : CdFit 1048576 c) (hpf : PfFit 1048576 p) : FnEq Tryz.prog 11 [.agg c.cs, .agg p.cs, .d (.int .i64 f), .agg [.d (.int .i64 x.tick), .d (.int .i64 x.item), .d (.int .i64 x.name), .d (.int .i64 x.mark), .d (.bool x.acc)]] [.d (.int .i64 ((ansInquiryGain c p f x).getD 0)), .d (.bool (ansInquiryGain c p f x).isSome)] := by
  have hs0 := sgAsked_ok c p f hcf hpf
  refine fn_ok G_ok Tryz.func11 rfl rfl ?_; simp only [Tryz.ntmps11, List.length_cons, List.length_nil, Nat.reduceAdd, Nat.reduceSub, enm]
  by_cases hA : AskP c p f
  · have hb := bP_true hA
    have hd := iqRun_ok p.items [x] hpf.1.1 hpf.1.2 hA.1.2.1 (by simp)
    simp only [List.map_cons, List.map_nil, InquiryD.dat] at hd
    by_cases hI : InqsOk p.items [x]
    · have hx0 := hI 0 x rfl
      have hN : HasNm p.items x.item x.name := hx0.2.2.2.1
      have hne : (itTo p.items [x] [x].length).length ≠ 0 := by
        obtain ⟨_, _, y, hy, _⟩ := hN
        have := (List.getElem?_eq_some_iff.1 hy).1
        rw [itTo_len]; omega
      rw [decR_yes hI, show rvI (itTo p.items [x] [x].length) = _ from if_neg hne, show decide ((([x] : List InquiryD).length : Int) ≤ 20) = true from by simp] at hd
      rw [show ansInquiryGain c p f x = _ from optP_pos ⟨hA, hI⟩]
      have hs1 := iqWith_ok c p f x.item x.name x.mark hpf hA hN hx0.2.2.2.2.1 hx0.2.2.2.2.2.1
      have hA1 := ask_one (i := x.item) (k := x.name) hA hx0.2.2.2.2.1 hx0.2.2.2.2.2.1
      have hs2 := sgScore_ok c p f hA
      have hb3 := segW_bd hA
      have hb4 := segW_bd hA1
      generalize segW c p f = u at hs2 hb3 ⊢
      generalize segW c (withI p (stepI p.items (oneI x.item x.name x.mark))) f = v at hs1 hb4 ⊢
      repeat' (first | ((with_reducible first | (refine hK _ ?_; clear hK K) | refine stq fun K' hK' => ?_ | refine stc ?_); try simp only [go_sem, hb]) | (with_reducible first | refine stp ?_ | (refine hK' _ ?_; clear hK' K') | refine kN kl11 fun K hK => ?_ | refine kO fun K hK => ?_) | ((with_reducible apply CallK.eq); (· with_reducible first | exact hs0 | exact hd); (· simp [RV.flat, D.sc, datI]); try simp only [go_sem, hb]) | (with_reducible refine pK_mk ?_ ?_ <;> (intro hc; (try simp only [go_sem, hb]); (try simp at hc); try (exfalso; omega))) | with_reducible refine And.intro (by first | omega | (unfold inI; omega)) ?_)
      all_goals first
        | (exfalso; omega)
        | skip
      refine pw_seq_grow kl11 mixed [[4], [5], [2], [7], [30], [7], [32], [7], [34], [27, 28, 29, 31, 33, 35], [4], [5], [2], [37, 38, 39], [36, 40], [41], []] 42 rfl (by decide +kernel) (fun K hK => ?_)
      refine grow_quiet G_ok (fun KP hKP => ?_)
      simp only [go_sem, restr, Nat.zero_add, Int.toNat_natCast, Nat.mul_one]
      repeat (first | (with_reducible refine hKP _ ?_; clear hKP KP) | with_reducible refine And.intro (by first | omega | (unfold inI; omega)) ?_ | (with_reducible refine pK_mk (fun hc => ?_) (fun hc => ?_) <;> (try simp only [go_sem, restr, Nat.zero_add, Int.toNat_natCast, Nat.mul_one]) <;> (try simp at hc) <;> (try (exfalso; omega))))
      try simp only [go_sem, restr, Nat.zero_add, Int.toNat_natCast, Nat.mul_one]
      refine grow_quiet G_ok (fun KP hKP => ?_)
      simp only [go_sem, restr, Nat.zero_add, Int.toNat_natCast, Nat.mul_one]
      repeat (first | (with_reducible refine hKP _ ?_; clear hKP KP) | with_reducible refine And.intro (by first | omega | (unfold inI; omega)) ?_ | (with_reducible refine pK_mk (fun hc => ?_) (fun hc => ?_) <;> (try simp only [go_sem, restr, Nat.zero_add, Int.toNat_natCast, Nat.mul_one]) <;> (try simp at hc) <;> (try (exfalso; omega))))
      try simp only [go_sem, restr, Nat.zero_add, Int.toNat_natCast, Nat.mul_one]
      refine grow_quiet G_ok (fun KP hKP => ?_)
      simp only [go_sem, restr, Nat.zero_add, Int.toNat_natCast, Nat.mul_one]
      repeat (first | (with_reducible refine hKP _ ?_; clear hKP KP) | with_reducible refine And.intro (by first | omega | (unfold inI; omega)) ?_ | (with_reducible refine pK_mk (fun hc => ?_) (fun hc => ?_) <;> (try simp only [go_sem, restr, Nat.zero_add, Int.toNat_natCast, Nat.mul_one]) <;> (try simp at hc) <;> (try (exfalso; omega))))
      try simp only [go_sem, restr, Nat.zero_add, Int.toNat_natCast, Nat.mul_one]
      refine grow_quiet G_ok (fun KP hKP => ?_)
      simp only [go_sem, restr, Nat.zero_add, Int.toNat_natCast, Nat.mul_one]
      repeat (first | (with_reducible refine hKP _ ?_; clear hKP KP) | with_reducible refine And.intro (by first | omega | (unfold inI; omega)) ?_ | (with_reducible refine pK_mk (fun hc => ?_) (fun hc => ?_) <;> (try simp only [go_sem, restr, Nat.zero_add, Int.toNat_natCast, Nat.mul_one]) <;> (try simp at hc) <;> (try (exfalso; omega))))
      try simp only [go_sem, restr, Nat.zero_add, Int.toNat_natCast, Nat.mul_one]
      refine grow_quiet G_ok (fun KP hKP => ?_)
      simp only [go_sem, restr, Nat.zero_add, Int.toNat_natCast, Nat.mul_one]
      repeat (first | (with_reducible refine hKP _ ?_; clear hKP KP) | with_reducible refine And.intro (by first | omega | (unfold inI; omega)) ?_ | (with_reducible refine pK_mk (fun hc => ?_) (fun hc => ?_) <;> (try simp only [go_sem, restr, Nat.zero_add, Int.toNat_natCast, Nat.mul_one]) <;> (try simp at hc) <;> (try (exfalso; omega))))
      try simp only [go_sem, restr, Nat.zero_add, Int.toNat_natCast, Nat.mul_one]
      refine grow_quiet G_ok (fun KP hKP => ?_)
      simp only [go_sem, restr, Nat.zero_add, Int.toNat_natCast, Nat.mul_one]
      repeat (first | (with_reducible refine hKP _ ?_; clear hKP KP) | with_reducible refine And.intro (by first | omega | (unfold inI; omega)) ?_ | (with_reducible refine pK_mk (fun hc => ?_) (fun hc => ?_) <;> (try simp only [go_sem, restr, Nat.zero_add, Int.toNat_natCast, Nat.mul_one]) <;> (try simp at hc) <;> (try (exfalso; omega))))
      try simp only [go_sem, restr, Nat.zero_add, Int.toNat_natCast, Nat.mul_one]
      refine grow_quiet G_ok (fun KP hKP => ?_)
      simp only [go_sem, restr, Nat.zero_add, Int.toNat_natCast, Nat.mul_one]
      repeat (first | (with_reducible refine hKP _ ?_; clear hKP KP) | with_reducible refine And.intro (by first | omega | (unfold inI; omega)) ?_ | (with_reducible refine pK_mk (fun hc => ?_) (fun hc => ?_) <;> (try simp only [go_sem, restr, Nat.zero_add, Int.toNat_natCast, Nat.mul_one]) <;> (try simp at hc) <;> (try (exfalso; omega))))
      try simp only [go_sem, restr, Nat.zero_add, Int.toNat_natCast, Nat.mul_one]
      refine grow_quiet G_ok (fun KP hKP => ?_)
      simp only [go_sem, restr, Nat.zero_add, Int.toNat_natCast, Nat.mul_one]
      repeat (first | (with_reducible refine hKP _ ?_; clear hKP KP) | with_reducible refine And.intro (by first | omega | (unfold inI; omega)) ?_ | (with_reducible refine pK_mk (fun hc => ?_) (fun hc => ?_) <;> (try simp only [go_sem, restr, Nat.zero_add, Int.toNat_natCast, Nat.mul_one]) <;> (try simp at hc) <;> (try (exfalso; omega))))
      try simp only [go_sem, restr, Nat.zero_add, Int.toNat_natCast, Nat.mul_one]
      refine grow_quiet G_ok (fun KP hKP => ?_)
      simp only [go_sem, restr, Nat.zero_add, Int.toNat_natCast, Nat.mul_one]
      repeat (first | (with_reducible refine hKP _ ?_; clear hKP KP) | with_reducible refine And.intro (by first | omega | (unfold inI; omega)) ?_ | (with_reducible refine pK_mk (fun hc => ?_) (fun hc => ?_) <;> (try simp only [go_sem, restr, Nat.zero_add, Int.toNat_natCast, Nat.mul_one]) <;> (try simp at hc) <;> (try (exfalso; omega))))
      try simp only [go_sem, restr, Nat.zero_add, Int.toNat_natCast, Nat.mul_one]
      refine grow_quiet G_ok (fun KP hKP => ?_)
      simp only [go_sem, restr, Nat.zero_add, Int.toNat_natCast, Nat.mul_one]
      repeat (first | (with_reducible refine hKP _ ?_; clear hKP KP) | ((with_reducible apply CallQ.eqs); (focus (with_reducible first | exact hs1 | exact hs2)); (focus (first | exact rfl | (simp [RV.flat, D.sc, datI]; done))); try simp only [go_sem, restr, Nat.zero_add, Int.toNat_natCast, Nat.mul_one]) | with_reducible refine And.intro (by first | omega | (unfold inI; omega)) ?_ | (with_reducible refine pK_mk (fun hc => ?_) (fun hc => ?_) <;> (try simp only [go_sem, restr, Nat.zero_add, Int.toNat_natCast, Nat.mul_one]) <;> (try simp at hc) <;> (try (exfalso; omega))))
      try simp only [go_sem, restr, Nat.zero_add, Int.toNat_natCast, Nat.mul_one]
      refine grow_quiet G_ok (fun KP hKP => ?_)
      simp only [go_sem, restr, Nat.zero_add, Int.toNat_natCast, Nat.mul_one]
      repeat (first | (with_reducible refine hKP _ ?_; clear hKP KP) | with_reducible refine And.intro (by first | omega | (unfold inI; omega)) ?_ | (with_reducible refine pK_mk (fun hc => ?_) (fun hc => ?_) <;> (try simp only [go_sem, restr, Nat.zero_add, Int.toNat_natCast, Nat.mul_one]) <;> (try simp at hc) <;> (try (exfalso; omega))))
      try simp only [go_sem, restr, Nat.zero_add, Int.toNat_natCast, Nat.mul_one]
      refine grow_quiet G_ok (fun KP hKP => ?_)
      simp only [go_sem, restr, Nat.zero_add, Int.toNat_natCast, Nat.mul_one]
      repeat (first | (with_reducible refine hKP _ ?_; clear hKP KP) | with_reducible refine And.intro (by first | omega | (unfold inI; omega)) ?_ | (with_reducible refine pK_mk (fun hc => ?_) (fun hc => ?_) <;> (try simp only [go_sem, restr, Nat.zero_add, Int.toNat_natCast, Nat.mul_one]) <;> (try simp at hc) <;> (try (exfalso; omega))))
      try simp only [go_sem, restr, Nat.zero_add, Int.toNat_natCast, Nat.mul_one]
      refine grow_quiet G_ok (fun KP hKP => ?_)
      simp only [go_sem, restr, Nat.zero_add, Int.toNat_natCast, Nat.mul_one]
      repeat (first | (with_reducible refine hKP _ ?_; clear hKP KP) | with_reducible refine And.intro (by first | omega | (unfold inI; omega)) ?_ | (with_reducible refine pK_mk (fun hc => ?_) (fun hc => ?_) <;> (try simp only [go_sem, restr, Nat.zero_add, Int.toNat_natCast, Nat.mul_one]) <;> (try simp at hc) <;> (try (exfalso; omega))))
      try simp only [go_sem, restr, Nat.zero_add, Int.toNat_natCast, Nat.mul_one]
      refine grow_quiet G_ok (fun KP hKP => ?_)
      simp only [go_sem, restr, Nat.zero_add, Int.toNat_natCast, Nat.mul_one]
      repeat (first | (with_reducible refine hKP _ ?_; clear hKP KP) | ((with_reducible apply CallQ.eqs); (focus (with_reducible first | exact hs1 | exact hs2)); (focus (first | exact rfl | (simp [RV.flat, D.sc, datI]; done))); try simp only [go_sem, restr, Nat.zero_add, Int.toNat_natCast, Nat.mul_one]) | with_reducible refine And.intro (by first | omega | (unfold inI; omega)) ?_ | (with_reducible refine pK_mk (fun hc => ?_) (fun hc => ?_) <;> (try simp only [go_sem, restr, Nat.zero_add, Int.toNat_natCast, Nat.mul_one]) <;> (try simp at hc) <;> (try (exfalso; omega))))
      try simp only [go_sem, restr, Nat.zero_add, Int.toNat_natCast, Nat.mul_one]
      refine grow_quiet G_ok (fun KP hKP => ?_)
      simp only [go_sem, restr, Nat.zero_add, Int.toNat_natCast, Nat.mul_one]
      repeat (first | (with_reducible refine hKP _ ?_; clear hKP KP) | with_reducible refine And.intro (by first | omega | (unfold inI; omega)) ?_ | (with_reducible refine pK_mk (fun hc => ?_) (fun hc => ?_) <;> (try simp only [go_sem, restr, Nat.zero_add, Int.toNat_natCast, Nat.mul_one]) <;> (try simp at hc) <;> (try (exfalso; omega))))
      try simp only [go_sem, restr, Nat.zero_add, Int.toNat_natCast, Nat.mul_one]
      refine grow_quiet G_ok (fun KP hKP => ?_)
      simp only [go_sem, restr, Nat.zero_add, Int.toNat_natCast, Nat.mul_one]
      repeat (first | (with_reducible refine hKP _ ?_; clear hKP KP) | with_reducible refine And.intro (by first | omega | (unfold inI; omega)) ?_ | (with_reducible refine pK_mk (fun hc => ?_) (fun hc => ?_) <;> (try simp only [go_sem, restr, Nat.zero_add, Int.toNat_natCast, Nat.mul_one]) <;> (try simp at hc) <;> (try (exfalso; omega))))
      try simp only [go_sem, restr, Nat.zero_add, Int.toNat_natCast, Nat.mul_one]
      refine grow_quiet G_ok (fun KP hKP => ?_)
      simp only [go_sem, restr, Nat.zero_add, Int.toNat_natCast, Nat.mul_one]
      repeat (first | (with_reducible refine hKP _ ?_; clear hKP KP) | with_reducible refine And.intro (by first | omega | (unfold inI; omega)) ?_ | (with_reducible refine pK_mk (fun hc => ?_) (fun hc => ?_) <;> (try simp only [go_sem, restr, Nat.zero_add, Int.toNat_natCast, Nat.mul_one]) <;> (try simp at hc) <;> (try (exfalso; omega))))
      try simp only [go_sem, restr, Nat.zero_add, Int.toNat_natCast, Nat.mul_one]
      refine grow_nil ?_
      refine hK _ ?_
      clear hK K
      try simp only [go_sem, restr, Nat.zero_add, Int.toNat_natCast, Nat.mul_one]
      repeat' (first | ((with_reducible first | (refine hK _ ?_; clear hK K) | refine stq fun K' hK' => ?_ | refine stc ?_); try simp only [go_sem]) | (with_reducible first | refine stp ?_ | (refine hK' _ ?_; clear hK' K') | refine kN kl11 fun K hK => ?_ | refine kO fun K hK => ?_) | (with_reducible refine pw_seq_drawK kl11 G_ok mixed (by kernel_rfl) (fun K hK => ?_)) | (with_reducible refine pw_draw G_ok mixed (by kernel_rfl) ?_) | (with_reducible refine pK_mk ?_ ?_ <;> (intro hc; (try simp only [go_sem]); (try simp at hc); try (exfalso; omega))) | with_reducible refine And.intro (by first | omega | (unfold inI; omega)) ?_)
      refine retQ_ret rfl rfl (by simp [rowsOf, lk]) ?_; rfl
    · rw [decR_no hI] at hd
      rw [show ansInquiryGain c p f x = _ from optP_neg fun h => hI h.2]
      repeat' (first | ((with_reducible first | (refine hK _ ?_; clear hK K) | refine stq fun K' hK' => ?_ | refine stc ?_); try simp only [go_sem, hb]) | (with_reducible first | refine stp ?_ | (refine hK' _ ?_; clear hK' K') | refine kN kl11 fun K hK => ?_ | refine kO fun K hK => ?_) | ((with_reducible first | apply CallK.eq | apply CallQ.eqs); (· with_reducible first | exact hs0 | exact hd); (· first | exact rfl | (simp [RV.flat, D.sc, datI]; done)); try simp only [go_sem, hb]) | (with_reducible refine pw_seq_drawK kl11 G_ok mixed (by kernel_rfl) (fun K hK => ?_)) | (with_reducible refine pw_draw G_ok mixed (by kernel_rfl) ?_) | (with_reducible refine pK_mk ?_ ?_ <;> (intro hc; (try simp only [go_sem, hb]); (try simp at hc); try (exfalso; omega))) | with_reducible refine And.intro (by first | omega | (unfold inI; omega)) ?_)
      all_goals first
        | (exfalso; omega)
        | (refine retQ_ret rfl rfl (by simp [rowsOf, lk]) ?_; rfl)
  · have hb := bP_false hA
    rw [show ansInquiryGain c p f x = _ from optP_neg fun h => hA h.1]
    repeat' (first | ((with_reducible first | (refine hK _ ?_; clear hK K) | refine stq fun K' hK' => ?_ | refine stc ?_); try simp only [go_sem, hb]) | (with_reducible first | refine stp ?_ | (refine hK' _ ?_; clear hK' K') | refine kN kl11 fun K hK => ?_ | refine kO fun K hK => ?_) | ((with_reducible first | apply CallK.eq | apply CallQ.eqs); (· with_reducible first | exact hs0); (· first | exact rfl | (simp [RV.flat, D.sc, datI]; done)); try simp only [go_sem, hb]) | (with_reducible refine pw_seq_drawK kl11 G_ok mixed (by kernel_rfl) (fun K hK => ?_)) | (with_reducible refine pw_draw G_ok mixed (by kernel_rfl) ?_) | (with_reducible refine pK_mk ?_ ?_ <;> (intro hc; (try simp only [go_sem, hb]); (try simp at hc); try (exfalso; omega))) | with_reducible refine And.intro (by first | omega | (unfold inI; omega)) ?_)
    all_goals first
      | (exfalso; omega)
      | (refine retQ_ret rfl rfl (by simp [rowsOf, lk]) ?_; rfl)
end Go.Proofs.YtphakidbddamfaaGreat
