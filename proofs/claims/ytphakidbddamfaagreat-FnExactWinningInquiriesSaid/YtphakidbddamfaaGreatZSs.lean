/-
  The greatest, the least, numbers put in order, trimmed sums: the program's functions and the reference's, in the abstract machine.
-/
import Derived.Test.YtphakidbddamfaaGreatZSq
import Derived.Test.YtphakidbddamfaaGreatZSc
import Derived.Test.YtphakidbddamfaaGreatZTk
set_option linter.unusedSimpArgs false
set_option linter.unusedVariables false
set_option maxHeartbeats 2000000
set_option maxRecDepth 100000
namespace Go.Proofs.YtphakidbddamfaaGreat
open Go.RowKit

def mxT (xs : List Int) (k : Nat) : Int := maxW (xs.take k)
def mnT (xs : List Int) (k : Nat) : Int := minW (xs.take k)
theorem mxT_one (xs : List Int) : mxT xs 1 = xs.headD 0 := maxW_one xs
theorem mnT_one (xs : List Int) : mnT xs 1 = xs.headD 0 := minW_one xs
theorem mxT_succ {xs : List Int} {k : Nat} {x : Int} (h0 : 0 < k) (hx : xs[k]? = some x) : mxT xs (k + 1) = max (mxT xs k) x := maxW_succ h0 hx
theorem mnT_succ {xs : List Int} {k : Nat} {x : Int} (h0 : 0 < k) (hx : xs[k]? = some x) : mnT xs (k + 1) = min (mnT xs k) x := minW_succ h0 hx
theorem mxT_end {xs : List Int} {k : Nat} (h : xs.length ≤ k) : mxT xs k = maxW xs := by unfold mxT; rw [List.take_of_length_le h]
theorem mnT_end {xs : List Int} {k : Nat} (h : xs.length ≤ k) : mnT xs k = minW xs := by unfold mnT; rw [List.take_of_length_le h]
theorem head_get {xs : List Int} (h0 : 0 < xs.length) : xs[0]? = some (xs.headD 0) := by cases xs with
  | nil => simp at h0
  | cons a l => rfl
theorem maxI_ok (xs : List Int) (h0 : 0 < xs.length) (hn : xs.length ≤ 16777216) : FnEq Tryz.prog 257 [.d (.lst 1 (xs.map datI))] [.d (.int .i64 (maxW xs))] := by
  have hh := head_get h0
  have hg1 := mxT_one xs
  refine fn_ok G_ok Tryz.func257 rfl rfl ?_; simp only [Tryz.ntmps257, List.length_cons, List.length_nil, Nat.reduceAdd, Nat.reduceSub, enm]
  generalize xs.headD 0 = a0 at hh hg1
  repeat' (first | ((with_reducible first | (refine hK _ ?_; clear hK K) | refine stq fun K' hK' => ?_ | refine stc ?_); try simp only [go_sem, List.getElem?_map, hh, Option.map_some, datI]) | (with_reducible first | refine stp ?_ | (refine hK' _ ?_; clear hK' K') | refine kN kl257 fun K hK => ?_ | refine kO fun K hK => ?_) | refine iB ?_ | (with_reducible refine pK_mk ?_ ?_ <;> (intro hc; (try simp only [go_sem, List.getElem?_map, hh, Option.map_some, datI]); (try simp at hc); try (exfalso; omega))) | with_reducible refine And.intro (by first | omega | (unfold inI; omega)) ?_)
  all_goals first
    | (exfalso; omega)
    | skip
  refine pw_loop_over [2, 3, 4, 12, 13, 14, 15, 16, 17, 18, 19, 20, 21, 22, 23] (fun k : Nat => [(4, .d (.int .i64 (k : Int))), (3, .d (.int .i64 (mxT xs k)))]) (fun _ => []) 0 (fun k => 1 ≤ k ∧ k ≤ xs.length) (fun k => xs.length - k) 1 ⟨by omega, by omega⟩ (fits_mk [] (by simp [renL_d, bdL_d, sg, over, wipe, wl, memN, ins, rm, lk, fitFr, fit1, ren, renL, bd, bdL, app, fitHp, hget, renB, bdB, hg1] <;> omega)) ?_
  rintro k ⟨hk1, hk⟩
  simp only [over, wipe, wl, memN, ins, rm, if_true, if_false, Nat.reduceEqDiff, Bool.false_eq_true, reduceCtorEq]
  by_cases hlt : k < xs.length
  · have hx := List.getElem?_eq_getElem hlt
    generalize xs[k] = x at hx
    have hs := mxT_succ hk1 hx
    repeat' (first | ((with_reducible first | (refine hK _ ?_; clear hK K) | refine stq fun K' hK' => ?_ | refine stc ?_); try simp only [go_sem, List.getElem?_map, hx, Option.map_some, datI, hlt]) | (with_reducible first | refine stp ?_ | (refine hK' _ ?_; clear hK' K') | refine kN kl257 fun K hK => ?_ | refine kO fun K hK => ?_) | refine iB ?_ | (with_reducible refine pK_mk ?_ ?_ <;> (intro hc; (try simp only [go_sem, List.getElem?_map, hx, Option.map_some, datI, hlt]); (try simp at hc); try (exfalso; omega))) | with_reducible refine And.intro (by first | omega | (unfold inI; omega)) ?_)
    all_goals first
      | (exfalso; omega)
      | exact ⟨k + 1, ⟨by omega, by omega⟩, by omega, (fits_mk [] (by simp [renL_d, bdL_d, sg, over, wipe, wl, memN, ins, rm, lk, fitFr, fit1, ren, renL, bd, bdL, app, fitHp, hget, renB, bdB, hs] <;> omega))⟩
  · rw [← mxT_end (xs := xs) (k := k) (by omega)]
    repeat' (first | ((with_reducible first | (refine hK _ ?_; clear hK K) | refine stq fun K' hK' => ?_ | refine stc ?_); try simp only [go_sem]) | (with_reducible first | refine stp ?_ | (refine hK' _ ?_; clear hK' K') | refine kN kl257 fun K hK => ?_ | refine kO fun K hK => ?_) | refine iB ?_ | (with_reducible refine pK_mk ?_ ?_ <;> (intro hc; (try simp only [go_sem]); (try simp at hc); try (exfalso; omega))) | with_reducible refine And.intro (by first | omega | (unfold inI; omega)) ?_)
    all_goals first
      | (exfalso; omega)
      | (refine retQ_ret rfl rfl (by simp [rowsOf, lk]) ?_; rfl)
theorem minI_ok (xs : List Int) (h0 : 0 < xs.length) (hn : xs.length ≤ 16777216) : FnEq Tryz.prog 258 [.d (.lst 1 (xs.map datI))] [.d (.int .i64 (minW xs))] := by
  have hh := head_get h0
  have hg1 := mnT_one xs
  refine fn_ok G_ok Tryz.func258 rfl rfl ?_; simp only [Tryz.ntmps258, List.length_cons, List.length_nil, Nat.reduceAdd, Nat.reduceSub, enm]
  generalize xs.headD 0 = a0 at hh hg1
  repeat' (first | ((with_reducible first | (refine hK _ ?_; clear hK K) | refine stq fun K' hK' => ?_ | refine stc ?_); try simp only [go_sem, List.getElem?_map, hh, Option.map_some, datI]) | (with_reducible first | refine stp ?_ | (refine hK' _ ?_; clear hK' K') | refine kN kl258 fun K hK => ?_ | refine kO fun K hK => ?_) | refine iB ?_ | (with_reducible refine pK_mk ?_ ?_ <;> (intro hc; (try simp only [go_sem, List.getElem?_map, hh, Option.map_some, datI]); (try simp at hc); try (exfalso; omega))) | with_reducible refine And.intro (by first | omega | (unfold inI; omega)) ?_)
  all_goals first
    | (exfalso; omega)
    | skip
  refine pw_loop_over [2, 3, 4, 12, 13, 14, 15, 16, 17, 18, 19, 20, 21, 22, 23] (fun k : Nat => [(4, .d (.int .i64 (k : Int))), (3, .d (.int .i64 (mnT xs k)))]) (fun _ => []) 0 (fun k => 1 ≤ k ∧ k ≤ xs.length) (fun k => xs.length - k) 1 ⟨by omega, by omega⟩ (fits_mk [] (by simp [renL_d, bdL_d, sg, over, wipe, wl, memN, ins, rm, lk, fitFr, fit1, ren, renL, bd, bdL, app, fitHp, hget, renB, bdB, hg1] <;> omega)) ?_
  rintro k ⟨hk1, hk⟩
  simp only [over, wipe, wl, memN, ins, rm, if_true, if_false, Nat.reduceEqDiff, Bool.false_eq_true, reduceCtorEq]
  by_cases hlt : k < xs.length
  · have hx := List.getElem?_eq_getElem hlt
    generalize xs[k] = x at hx
    have hs := mnT_succ hk1 hx
    repeat' (first | ((with_reducible first | (refine hK _ ?_; clear hK K) | refine stq fun K' hK' => ?_ | refine stc ?_); try simp only [go_sem, List.getElem?_map, hx, Option.map_some, datI, hlt]) | (with_reducible first | refine stp ?_ | (refine hK' _ ?_; clear hK' K') | refine kN kl258 fun K hK => ?_ | refine kO fun K hK => ?_) | refine iB ?_ | (with_reducible refine pK_mk ?_ ?_ <;> (intro hc; (try simp only [go_sem, List.getElem?_map, hx, Option.map_some, datI, hlt]); (try simp at hc); try (exfalso; omega))) | with_reducible refine And.intro (by first | omega | (unfold inI; omega)) ?_)
    all_goals first
      | (exfalso; omega)
      | exact ⟨k + 1, ⟨by omega, by omega⟩, by omega, (fits_mk [] (by simp [renL_d, bdL_d, sg, over, wipe, wl, memN, ins, rm, lk, fitFr, fit1, ren, renL, bd, bdL, app, fitHp, hget, renB, bdB, hs] <;> omega))⟩
  · rw [← mnT_end (xs := xs) (k := k) (by omega)]
    repeat' (first | ((with_reducible first | (refine hK _ ?_; clear hK K) | refine stq fun K' hK' => ?_ | refine stc ?_); try simp only [go_sem]) | (with_reducible first | refine stp ?_ | (refine hK' _ ?_; clear hK' K') | refine kN kl258 fun K hK => ?_ | refine kO fun K hK => ?_) | refine iB ?_ | (with_reducible refine pK_mk ?_ ?_ <;> (intro hc; (try simp only [go_sem]); (try simp at hc); try (exfalso; omega))) | with_reducible refine And.intro (by first | omega | (unfold inI; omega)) ?_)
    all_goals first
      | (exfalso; omega)
      | (refine retQ_ret rfl rfl (by simp [rowsOf, lk]) ?_; rfl)
theorem sortD_takeL (xs : List Int) (k : Nat) : (sortD (xs.take k)).length ≤ xs.length := by rw [sortD_len]; exact List.length_take_le' _ _
set_option maxHeartbeats 8000000 in
theorem poSorted_ok (xs : List Int) (hn : xs.length ≤ 1048576) : FnEq Tryz.prog 255 [.d (.lst 1 (xs.map datI))] [.row 3 1 ((sortD xs).map datI)] := by
  refine fn_ok G_ok Tryz.func255 rfl rfl ?_; simp only [Tryz.ntmps255, List.length_cons, List.length_nil, Nat.reduceAdd, Nat.reduceSub, enm]
  repeat' (first | ((with_reducible first | (refine hK _ ?_; clear hK K) | refine stq fun K' hK' => ?_ | refine stc ?_); try simp only [go_sem]) | (with_reducible first | refine stp ?_ | (refine hK' _ ?_; clear hK' K') | refine kN kl255 fun K hK => ?_ | refine kO fun K hK => ?_) | (refine xS rfl fun K' hK' => ?_; simp only [go_sem]) | refine iB ?_ | (with_reducible refine pK_mk ?_ ?_ <;> (intro hc; (try simp only [go_sem]); (try simp at hc); try (exfalso; omega))) | with_reducible refine And.intro (by first | omega | (unfold inI; omega)) ?_)
  refine pw_loop_over [2, 3, 5, 6, 9, 10, 11, 12, 13, 14, 15, 16, 17, 18, 19, 20, 21, 22, 23, 24, 25, 26, 27, 28, 29, 30, 31, 32, 33, 34, 35, 36, 37, 38, 39, 40] (fun k : Nat => [(9, .d (.int .i64 (k : Int))), (3, .row 0 (sortD (xs.take k)).length)]) (fun k : Nat => [(0, .row 3 1 ((sortD (xs.take k)).map datI))]) 1 (fun k : Nat => k ≤ xs.length) (fun k : Nat => xs.length - k) 0 (Nat.zero_le _) (fits_mk [] (by simp [renL_d, bdL_d, sg, over, wipe, wl, memN, ins, rm, lk, fitFr, fit1, ren, renL, bd, bdL, app, fitHp, hget, renB, bdB, sortD_zero] <;> omega)) ?_
  intro k hk
  have hL := sortD_takeL xs k
  simp only [over, wipe, wl, memN, ins, rm, if_true, if_false, Nat.reduceEqDiff, Bool.false_eq_true, reduceCtorEq]
  by_cases hlt : k < xs.length
  · have hx := List.getElem?_eq_getElem hlt
    generalize xs[k] = x at hx
    have hso := sortD_sorted (xs.take k)
    have hins : ∀ m, m ≤ (sortD (xs.take k)).length → AllLess (sortD (xs.take k)) m x → (∀ y, 0 < m → (sortD (xs.take k))[m - 1]? = some y → x ≤ y) → sortD (xs.take (k + 1)) = (sortD (xs.take k)).take m ++ x :: (sortD (xs.take k)).drop m := by
      intro m hm hA hB
      rw [sortD_snoc hx]
      exact (insertD_at x _ m hso hm hA hB).symm
    generalize ho : sortD (xs.take k) = out at hL hso hins
    repeat' (first | ((with_reducible first | (refine hK _ ?_; clear hK K) | refine stq fun K' hK' => ?_ | refine stc ?_); try simp only [go_sem, List.getElem?_map, hx, Option.map_some, datI]) | (with_reducible first | refine stp ?_ | (refine hK' _ ?_; clear hK' K') | refine kN kl255 fun K hK => ?_ | refine kO fun K hK => ?_) | (refine xS rfl fun K' hK' => ?_; simp only [go_sem, List.getElem?_map, hx, Option.map_some, datI]) | refine iB ?_ | (with_reducible refine pK_mk ?_ ?_ <;> (intro hc; (try simp only [go_sem, List.getElem?_map, hx, Option.map_some, datI]); (try simp at hc); try (exfalso; omega))) | with_reducible refine And.intro (by first | omega | (unfold inI; omega)) ?_)
    refine pw_loop_over [2, 6, 15, 16, 17, 18, 19, 20, 21, 22, 23, 24, 25, 26, 27] (fun m : Nat => [(6, .d (.int .i64 (m : Int)))]) (fun _ => [(0, .row 3 1 (out.map datI))]) 1 (fun m => m ≤ out.length ∧ AllLess out m x) (fun m => m) out.length ⟨by omega, AllLess.start _ _⟩ (fits_mk [] (by simp [renL_d, bdL_d, sg, over, wipe, wl, memN, ins, rm, lk, fitFr, fit1, ren, renL, bd, bdL, app, fitHp, hget, renB, bdB] <;> omega)) ?_
    rintro m ⟨hm, hA⟩
    simp only [over, wipe, wl, memN, ins, rm, if_true, if_false, Nat.reduceEqDiff, Bool.false_eq_true, reduceCtorEq]
    have htl : (List.take m (List.map datI out)).length = m := by simp; omega
    have hdl : (List.drop m (List.map datI out)).length = out.length - m := by simp
    have hmd : m + (out.length - m) = out.length := by omega
    have htx : List.take (out.length - m) (List.drop m (List.map datI out)) = List.drop m (List.map datI out) := List.take_of_length_le (by simp)
    by_cases hm0 : 0 < m
    · have hy := List.getElem?_eq_getElem (show m - 1 < out.length by omega)
      generalize out[m - 1] = y at hy
      have hy' : out[((m : Int) - 1).toNat]? = some y := by rw [show ((m : Int) - 1).toNat = m - 1 by omega]; exact hy
      have hlt2 : ((m : Int) - 1).toNat < out.length := by omega
      by_cases hyx : y < x
      · repeat' (first | ((with_reducible first | (refine hK _ ?_; clear hK K) | refine stq fun K' hK' => ?_ | refine stc ?_); try simp only [go_sem, hlt2, List.getElem?_map, hy', Option.map_some, datI, hyx]) | (with_reducible first | refine stp ?_ | (refine hK' _ ?_; clear hK' K') | refine kN kl255 fun K hK => ?_ | refine kO fun K hK => ?_) | (refine xS rfl fun K' hK' => ?_; simp only [go_sem, hlt2, List.getElem?_map, hy', Option.map_some, datI, hyx]) | refine iB ?_ | (with_reducible refine pK_mk ?_ ?_ <;> (intro hc; (try simp only [go_sem, hlt2, List.getElem?_map, hy', Option.map_some, datI, hyx]); (try simp at hc); try (exfalso; omega))) | with_reducible refine And.intro (by first | omega | (unfold inI; omega)) ?_)
        all_goals first
          | (exfalso; omega)
          | exact ⟨m - 1, ⟨by omega, hA.next hy hyx⟩, by omega, (fits_mk [] (by simp [renL_d, bdL_d, sg, over, wipe, wl, memN, ins, rm, lk, fitFr, fit1, ren, renL, bd, bdL, app, fitHp, hget, renB, bdB] <;> omega))⟩
      · have hins := hins m hm hA (fun y' _ h => by rw [hy] at h; cases h; omega)
        repeat' (first | ((with_reducible first | (refine hK _ ?_; clear hK K) | refine stq fun K' hK' => ?_ | refine stc ?_); try simp only [go_sem, hlt2, List.getElem?_map, hy', Option.map_some, datI, hyx]) | (with_reducible first | refine stp ?_ | (refine hK' _ ?_; clear hK' K') | refine kN kl255 fun K hK => ?_ | refine kO fun K hK => ?_) | (refine xS rfl fun K' hK' => ?_; simp only [go_sem, hlt2, List.getElem?_map, hy', Option.map_some, datI, hyx]) | refine iB ?_ | (with_reducible refine pK_mk ?_ ?_ <;> (intro hc; (try simp only [go_sem, hlt2, List.getElem?_map, hy', Option.map_some, datI, hyx]); (try simp at hc); try (exfalso; omega))) | with_reducible refine And.intro (by first | omega | (unfold inI; omega)) ?_)
        all_goals first
          | (exfalso; omega)
          | skip
        refine pw_anyN mixed ?_
        refine anyN_take 1 rfl rfl rfl (by decide +kernel) (by decide +kernel) (by decide +kernel) (pure_move (.inl rfl)) ?_
        try simp only [go_sem, Nat.zero_add, Int.toNat_natCast, Nat.mul_one, htl, hdl, htx, hm, hmd, Nat.le_refl, List.length_append, List.length_cons, List.length_nil]
        refine anyN_take 2 rfl rfl rfl (by decide +kernel) (by decide +kernel) (by decide +kernel) (pure_move (.inl rfl)) ?_
        try simp only [go_sem, Nat.zero_add, Int.toNat_natCast, Nat.mul_one, htl, hdl, htx, hm, hmd, Nat.le_refl, List.length_append, List.length_cons, List.length_nil]
        refine anyN_take 3 rfl rfl rfl (by decide +kernel) (by decide +kernel) (by decide +kernel) (pure_slice rfl (G_ok _ _ G23) rfl rfl rfl (by omega) (by omega) (by omega) rfl) ?_
        try simp only [go_sem, Nat.zero_add, Int.toNat_natCast, Nat.mul_one, htl, hdl, htx, hm, hmd, Nat.le_refl, List.length_append, List.length_cons, List.length_nil]
        refine anyN_take 5 rfl rfl rfl (by decide +kernel) (by decide +kernel) (by decide +kernel) (pure_move (.inl rfl)) ?_
        try simp only [go_sem, Nat.zero_add, Int.toNat_natCast, Nat.mul_one, htl, hdl, htx, hm, hmd, Nat.le_refl, List.length_append, List.length_cons, List.length_nil]
        refine anyN_take 8 rfl rfl rfl (by decide +kernel) (by decide +kernel) (by decide +kernel) (pure_move (.inl rfl)) ?_
        try simp only [go_sem, Nat.zero_add, Int.toNat_natCast, Nat.mul_one, htl, hdl, htx, hm, hmd, Nat.le_refl, List.length_append, List.length_cons, List.length_nil]
        refine anyN_take 9 rfl rfl rfl (by decide +kernel) (by decide +kernel) (by decide +kernel) (pure_move (.inl rfl)) ?_
        try simp only [go_sem, Nat.zero_add, Int.toNat_natCast, Nat.mul_one, htl, hdl, htx, hm, hmd, Nat.le_refl, List.length_append, List.length_cons, List.length_nil]
        refine anyN_take 10 rfl rfl rfl (by decide +kernel) (by decide +kernel) (by decide +kernel) (pure_slice rfl (G_ok _ _ G23) rfl rfl rfl (by omega) (by omega) (by omega) rfl) ?_
        try simp only [go_sem, Nat.zero_add, Int.toNat_natCast, Nat.mul_one, htl, hdl, htx, hm, hmd, Nat.le_refl, List.length_append, List.length_cons, List.length_nil]
        repeat' (first
          | (with_reducible refine hK' _ ?_; clear hK' K'; try simp only [go_sem, Nat.zero_add, Int.toNat_natCast, Nat.mul_one, htl, hdl, htx, hm, hmd, Nat.le_refl, List.length_append, List.length_cons, List.length_nil])
          | with_reducible refine And.intro (by first | omega | (unfold inI; omega)) ?_
          | (refine anyN_take 12 rfl rfl rfl (by decide +kernel) (by decide +kernel) (by decide +kernel) (pure_move (.inr rfl)) ?_; try simp only [go_sem, Nat.zero_add, Int.toNat_natCast, Nat.mul_one, htl, hdl, htx, hm, hmd, Nat.le_refl, List.length_append, List.length_cons, List.length_nil])
          | (refine anyN_step G_ok [0, 6] (by decide +kernel) rfl ⟨⟨_, rfl, fun K' hK' => ?_⟩, ⟨_, rfl, fun K' hK' => ?_⟩, trivial⟩ <;> ((first | with_reducible refine s_none rfl ?_ | refine s_some2 rfl ?_); simp only [go_sem, Nat.zero_add, Int.toNat_natCast, Nat.mul_one, htl, hdl, htx, hm, hmd, Nat.le_refl, List.length_append, List.length_cons, List.length_nil]))
          | (refine anyN_step G_ok [4, 6] (by decide +kernel) rfl ⟨⟨_, rfl, fun K' hK' => ?_⟩, ⟨_, rfl, fun K' hK' => ?_⟩, trivial⟩ <;> ((first | with_reducible refine s_none rfl ?_ | refine s_some2 rfl ?_); simp only [go_sem, Nat.zero_add, Int.toNat_natCast, Nat.mul_one, htl, hdl, htx, hm, hmd, Nat.le_refl, List.length_append, List.length_cons, List.length_nil]))
          | (refine anyN_step G_ok [6] (by decide +kernel) rfl ⟨⟨_, rfl, fun K' hK' => ?_⟩, trivial⟩ <;> ((first | with_reducible refine s_none rfl ?_ | refine s_some2 rfl ?_); simp only [go_sem, Nat.zero_add, Int.toNat_natCast, Nat.mul_one, htl, hdl, htx, hm, hmd, Nat.le_refl, List.length_append, List.length_cons, List.length_nil]))
          | (refine anyN_step G_ok [7] (by decide +kernel) rfl ⟨⟨_, rfl, fun K' hK' => ?_⟩, trivial⟩ <;> ((first | with_reducible refine s_none rfl ?_ | refine s_some2 rfl ?_); simp only [go_sem, Nat.zero_add, Int.toNat_natCast, Nat.mul_one, htl, hdl, htx, hm, hmd, Nat.le_refl, List.length_append, List.length_cons, List.length_nil]))
          | (refine anyN_step G_ok [11] (by decide +kernel) rfl ⟨⟨_, rfl, fun K' hK' => ?_⟩, trivial⟩ <;> ((first | with_reducible refine s_none rfl ?_ | refine s_some2 rfl ?_); simp only [go_sem, Nat.zero_add, Int.toNat_natCast, Nat.mul_one, htl, hdl, htx, hm, hmd, Nat.le_refl, List.length_append, List.length_cons, List.length_nil]))
          | (refine anyN_step G_ok [4] (by decide +kernel) rfl ⟨⟨_, rfl, fun K' hK' => ?_⟩, trivial⟩ <;> ((first | with_reducible refine s_none rfl ?_ | refine s_some2 rfl ?_); simp only [go_sem, Nat.zero_add, Int.toNat_natCast, Nat.mul_one, htl, hdl, htx, hm, hmd, Nat.le_refl, List.length_append, List.length_cons, List.length_nil]))
          | (refine anyN_step G_ok [0] (by decide +kernel) rfl ⟨⟨_, rfl, fun K' hK' => ?_⟩, trivial⟩ <;> ((first | with_reducible refine s_none rfl ?_ | refine s_some2 rfl ?_); simp only [go_sem, Nat.zero_add, Int.toNat_natCast, Nat.mul_one, htl, hdl, htx, hm, hmd, Nat.le_refl, List.length_append, List.length_cons, List.length_nil]))
          | (refine anyN_done (by decide +kernel) ?_; try simp only [go_sem, Nat.zero_add, Int.toNat_natCast, Nat.mul_one, htl, hdl, htx, hm, hmd, Nat.le_refl, List.length_append, List.length_cons, List.length_nil])
          | with_reducible refine thenA_normal ?_ | with_reducible refine inBlockA_same ?_ | with_reducible refine inBlockA_normal ?_)
        all_goals
          repeat' (first | ((with_reducible first | (refine hK _ ?_; clear hK K) | refine stq fun K' hK' => ?_ | refine stc ?_); try simp only [go_sem]) | (with_reducible first | refine stp ?_ | (refine hK' _ ?_; clear hK' K') | refine kN kl255 fun K hK => ?_ | refine kO fun K hK => ?_) | (refine xS rfl fun K' hK' => ?_; simp only [go_sem]) | refine iB ?_ | (with_reducible refine pK_mk ?_ ?_ <;> (intro hc; (try simp only [go_sem]); (try simp at hc); try (exfalso; omega))) | with_reducible refine And.intro (by first | omega | (unfold inI; omega)) ?_)
          exact ⟨k + 1, by omega, by omega, (fits_mk [] (by simp [renL_d, bdL_d, sg, over, wipe, wl, memN, ins, rm, lk, fitFr, fit1, ren, renL, bd, bdL, app, fitHp, hget, renB, bdB, hins, datI] <;> omega))⟩
    · have hins := hins m hm hA (fun y' h _ => by omega)
      repeat' (first | ((with_reducible first | (refine hK _ ?_; clear hK K) | refine stq fun K' hK' => ?_ | refine stc ?_); try simp only [go_sem]) | (with_reducible first | refine stp ?_ | (refine hK' _ ?_; clear hK' K') | refine kN kl255 fun K hK => ?_ | refine kO fun K hK => ?_) | (refine xS rfl fun K' hK' => ?_; simp only [go_sem]) | refine iB ?_ | (with_reducible refine pK_mk ?_ ?_ <;> (intro hc; (try simp only [go_sem]); (try simp at hc); try (exfalso; omega))) | with_reducible refine And.intro (by first | omega | (unfold inI; omega)) ?_)
      all_goals first
        | (exfalso; omega)
        | skip
      refine pw_anyN mixed ?_
      refine anyN_take 1 rfl rfl rfl (by decide +kernel) (by decide +kernel) (by decide +kernel) (pure_move (.inl rfl)) ?_
      try simp only [go_sem, Nat.zero_add, Int.toNat_natCast, Nat.mul_one, htl, hdl, htx, hm, hmd, Nat.le_refl, List.length_append, List.length_cons, List.length_nil]
      refine anyN_take 2 rfl rfl rfl (by decide +kernel) (by decide +kernel) (by decide +kernel) (pure_move (.inl rfl)) ?_
      try simp only [go_sem, Nat.zero_add, Int.toNat_natCast, Nat.mul_one, htl, hdl, htx, hm, hmd, Nat.le_refl, List.length_append, List.length_cons, List.length_nil]
      refine anyN_take 3 rfl rfl rfl (by decide +kernel) (by decide +kernel) (by decide +kernel) (pure_slice rfl (G_ok _ _ G23) rfl rfl rfl (by omega) (by omega) (by omega) rfl) ?_
      try simp only [go_sem, Nat.zero_add, Int.toNat_natCast, Nat.mul_one, htl, hdl, htx, hm, hmd, Nat.le_refl, List.length_append, List.length_cons, List.length_nil]
      refine anyN_take 5 rfl rfl rfl (by decide +kernel) (by decide +kernel) (by decide +kernel) (pure_move (.inl rfl)) ?_
      try simp only [go_sem, Nat.zero_add, Int.toNat_natCast, Nat.mul_one, htl, hdl, htx, hm, hmd, Nat.le_refl, List.length_append, List.length_cons, List.length_nil]
      refine anyN_take 8 rfl rfl rfl (by decide +kernel) (by decide +kernel) (by decide +kernel) (pure_move (.inl rfl)) ?_
      try simp only [go_sem, Nat.zero_add, Int.toNat_natCast, Nat.mul_one, htl, hdl, htx, hm, hmd, Nat.le_refl, List.length_append, List.length_cons, List.length_nil]
      refine anyN_take 9 rfl rfl rfl (by decide +kernel) (by decide +kernel) (by decide +kernel) (pure_move (.inl rfl)) ?_
      try simp only [go_sem, Nat.zero_add, Int.toNat_natCast, Nat.mul_one, htl, hdl, htx, hm, hmd, Nat.le_refl, List.length_append, List.length_cons, List.length_nil]
      refine anyN_take 10 rfl rfl rfl (by decide +kernel) (by decide +kernel) (by decide +kernel) (pure_slice rfl (G_ok _ _ G23) rfl rfl rfl (by omega) (by omega) (by omega) rfl) ?_
      try simp only [go_sem, Nat.zero_add, Int.toNat_natCast, Nat.mul_one, htl, hdl, htx, hm, hmd, Nat.le_refl, List.length_append, List.length_cons, List.length_nil]
      repeat' (first
        | (with_reducible refine hK' _ ?_; clear hK' K'; try simp only [go_sem, Nat.zero_add, Int.toNat_natCast, Nat.mul_one, htl, hdl, htx, hm, hmd, Nat.le_refl, List.length_append, List.length_cons, List.length_nil])
        | with_reducible refine And.intro (by first | omega | (unfold inI; omega)) ?_
        | (refine anyN_take 12 rfl rfl rfl (by decide +kernel) (by decide +kernel) (by decide +kernel) (pure_move (.inr rfl)) ?_; try simp only [go_sem, Nat.zero_add, Int.toNat_natCast, Nat.mul_one, htl, hdl, htx, hm, hmd, Nat.le_refl, List.length_append, List.length_cons, List.length_nil])
        | (refine anyN_step G_ok [0, 6] (by decide +kernel) rfl ⟨⟨_, rfl, fun K' hK' => ?_⟩, ⟨_, rfl, fun K' hK' => ?_⟩, trivial⟩ <;> ((first | with_reducible refine s_none rfl ?_ | refine s_some2 rfl ?_); simp only [go_sem, Nat.zero_add, Int.toNat_natCast, Nat.mul_one, htl, hdl, htx, hm, hmd, Nat.le_refl, List.length_append, List.length_cons, List.length_nil]))
        | (refine anyN_step G_ok [4, 6] (by decide +kernel) rfl ⟨⟨_, rfl, fun K' hK' => ?_⟩, ⟨_, rfl, fun K' hK' => ?_⟩, trivial⟩ <;> ((first | with_reducible refine s_none rfl ?_ | refine s_some2 rfl ?_); simp only [go_sem, Nat.zero_add, Int.toNat_natCast, Nat.mul_one, htl, hdl, htx, hm, hmd, Nat.le_refl, List.length_append, List.length_cons, List.length_nil]))
        | (refine anyN_step G_ok [6] (by decide +kernel) rfl ⟨⟨_, rfl, fun K' hK' => ?_⟩, trivial⟩ <;> ((first | with_reducible refine s_none rfl ?_ | refine s_some2 rfl ?_); simp only [go_sem, Nat.zero_add, Int.toNat_natCast, Nat.mul_one, htl, hdl, htx, hm, hmd, Nat.le_refl, List.length_append, List.length_cons, List.length_nil]))
        | (refine anyN_step G_ok [7] (by decide +kernel) rfl ⟨⟨_, rfl, fun K' hK' => ?_⟩, trivial⟩ <;> ((first | with_reducible refine s_none rfl ?_ | refine s_some2 rfl ?_); simp only [go_sem, Nat.zero_add, Int.toNat_natCast, Nat.mul_one, htl, hdl, htx, hm, hmd, Nat.le_refl, List.length_append, List.length_cons, List.length_nil]))
        | (refine anyN_step G_ok [11] (by decide +kernel) rfl ⟨⟨_, rfl, fun K' hK' => ?_⟩, trivial⟩ <;> ((first | with_reducible refine s_none rfl ?_ | refine s_some2 rfl ?_); simp only [go_sem, Nat.zero_add, Int.toNat_natCast, Nat.mul_one, htl, hdl, htx, hm, hmd, Nat.le_refl, List.length_append, List.length_cons, List.length_nil]))
        | (refine anyN_step G_ok [4] (by decide +kernel) rfl ⟨⟨_, rfl, fun K' hK' => ?_⟩, trivial⟩ <;> ((first | with_reducible refine s_none rfl ?_ | refine s_some2 rfl ?_); simp only [go_sem, Nat.zero_add, Int.toNat_natCast, Nat.mul_one, htl, hdl, htx, hm, hmd, Nat.le_refl, List.length_append, List.length_cons, List.length_nil]))
        | (refine anyN_step G_ok [0] (by decide +kernel) rfl ⟨⟨_, rfl, fun K' hK' => ?_⟩, trivial⟩ <;> ((first | with_reducible refine s_none rfl ?_ | refine s_some2 rfl ?_); simp only [go_sem, Nat.zero_add, Int.toNat_natCast, Nat.mul_one, htl, hdl, htx, hm, hmd, Nat.le_refl, List.length_append, List.length_cons, List.length_nil]))
        | (refine anyN_done (by decide +kernel) ?_; try simp only [go_sem, Nat.zero_add, Int.toNat_natCast, Nat.mul_one, htl, hdl, htx, hm, hmd, Nat.le_refl, List.length_append, List.length_cons, List.length_nil])
        | with_reducible refine thenA_normal ?_ | with_reducible refine inBlockA_same ?_ | with_reducible refine inBlockA_normal ?_)
      all_goals
        repeat' (first | ((with_reducible first | (refine hK _ ?_; clear hK K) | refine stq fun K' hK' => ?_ | refine stc ?_); try simp only [go_sem]) | (with_reducible first | refine stp ?_ | (refine hK' _ ?_; clear hK' K') | refine kN kl255 fun K hK => ?_ | refine kO fun K hK => ?_) | (refine xS rfl fun K' hK' => ?_; simp only [go_sem]) | refine iB ?_ | (with_reducible refine pK_mk ?_ ?_ <;> (intro hc; (try simp only [go_sem]); (try simp at hc); try (exfalso; omega))) | with_reducible refine And.intro (by first | omega | (unfold inI; omega)) ?_)
        exact ⟨k + 1, by omega, by omega, (fits_mk [] (by simp [renL_d, bdL_d, sg, over, wipe, wl, memN, ins, rm, lk, fitFr, fit1, ren, renL, bd, bdL, app, fitHp, hget, renB, bdB, hins, datI] <;> omega))⟩
  · have e : xs.take k = xs := List.take_of_length_le (by omega)
    rw [e]
    have hsl := sortD_len xs
    repeat' (first | ((with_reducible first | (refine hK _ ?_; clear hK K) | refine stq fun K' hK' => ?_ | refine stc ?_); try simp only [go_sem]) | (with_reducible first | refine stp ?_ | (refine hK' _ ?_; clear hK' K') | refine kN kl255 fun K hK => ?_ | refine kO fun K hK => ?_) | (refine xS rfl fun K' hK' => ?_; simp only [go_sem]) | refine iB ?_ | (with_reducible refine pK_mk ?_ ?_ <;> (intro hc; (try simp only [go_sem]); (try simp at hc); try (exfalso; omega))) | with_reducible refine And.intro (by first | omega | (unfold inI; omega)) ?_)
    all_goals first
      | (exfalso; omega)
      | (refine retQ_ret rfl (by simp only [hsl, retL, ret1, hget, lk, List.length_map, List.length_nil, List.length_append, List.length_take, if_true, if_false, Nat.reduceEqDiff, Nat.reduceBEq, Bool.false_eq_true, Option.some.injEq]; rfl) (by simp [rowsOf, lk]) ?_; rfl)
end Go.Proofs.YtphakidbddamfaaGreat
