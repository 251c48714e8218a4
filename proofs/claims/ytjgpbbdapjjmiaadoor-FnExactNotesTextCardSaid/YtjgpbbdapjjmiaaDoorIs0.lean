/-
  Lists of numbers: what the laws' helpers give (szIntS, eqIntS, toIntS, markIntS, heldIntS), in the abstract machine; lists of numbers opened as arguments.
-/
import Derived.Test.YtjgpbbdapjjmiaaDoorWi
import Derived.Test.YtjgpbbdapjjmiaaDoorDp
import Derived.Test.YtjgpbbdapjjmiaaDoorMf
set_option linter.unusedSimpArgs false
set_option linter.unusedVariables false
set_option maxHeartbeats 2000000
set_option maxRecDepth 100000
namespace Go.Proofs.YtjgpbbdapjjmiaaDoor
open Go.ChangeShapes Go.WideShapes Go.ChangeAt Go.RowKit Go.Deep

theorem eqIntS_ok (xs ys : List Int) (hn : xs.length ≤ 1048576) (hn' : ys.length ≤ 9223372036854775807) : FnEq Tryd.prog 8 [.d (.lst 1 (xs.map datI)), .d (.lst 1 (ys.map datI))] [.d (.bool (bP (xs = ys)))] := by
  refine fn_ok G_ok Tryd.func8 rfl rfl ?_; simp only [Tryd.ntmps8, List.length_cons, List.length_nil, Nat.reduceAdd, Nat.reduceSub, enm]
  repeat' (first | ((with_reducible first | (refine hK _ ?_; clear hK K) | refine stq fun K' hK' => ?_ | refine stc ?_); try simp only [go_sem]) | (with_reducible first | refine stp ?_ | (refine hK' _ ?_; clear hK' K') | refine kN kl8 fun K hK => ?_ | refine kO fun K hK => ?_) | refine iB ?_ | (with_reducible refine pw_seq_drawK kl8 G_ok mixed (by kernel_rfl) (fun K hK => ?_)) | (with_reducible refine pw_draw G_ok mixed (by kernel_rfl) ?_) | (with_reducible refine pK_mk ?_ ?_ <;> (intro hc; (try simp only [go_sem]); (try simp at hc); try (exfalso; omega))) | with_reducible refine And.intro (by first | omega | (unfold inI; omega)) ?_)
  · refine retQ_ret rfl rfl (by simp [rowsOf, lk]) ?_; rw [bP_false fun h => absurd (congrArg List.length h) (by omega)]
  · refine pw_loop_over [4, 5, 11, 12, 13, 14, 15, 16, 17, 18, 19, 20, 21, 22, 23, 24, 25] (fun k : Nat => [(5, .d (.int .i64 (k : Int)))]) (fun k : Nat => []) 0 (fun k : Nat => k ≤ xs.length ∧ xs.take k = ys.take k) (fun k : Nat => xs.length - k) 0 ⟨Nat.zero_le _, by simp⟩ (fits_mk [] (by simp [renL_d, bdL_d, sg, over, wipe, wl, memN, ins, rm, lk, fitFr, fit1, ren, renL, bd, bdL, app, fitHp, hget, renB, bdB] <;> omega)) ?_
    rintro k ⟨hk, hJ⟩
    simp only [over, wipe, wl, memN, ins, rm, if_true, if_false, Nat.reduceEqDiff, Bool.false_eq_true, reduceCtorEq]
    by_cases hlt : k < xs.length
    · have hx := List.getElem?_eq_getElem hlt
      generalize xs[k] = x at hx
      have hy := List.getElem?_eq_getElem (show k < ys.length by omega)
      generalize ys[k] = y at hy
      repeat' (first | ((with_reducible first | (refine hK _ ?_; clear hK K) | refine stq fun K' hK' => ?_ | refine stc ?_); try simp only [go_sem, List.getElem?_map, hx, hy, Option.map_some, datI]) | (with_reducible first | refine stp ?_ | (refine hK' _ ?_; clear hK' K') | refine kN kl8 fun K hK => ?_ | refine kO fun K hK => ?_) | refine iB ?_ | (with_reducible refine pw_seq_drawK kl8 G_ok mixed (by kernel_rfl) (fun K hK => ?_)) | (with_reducible refine pw_draw G_ok mixed (by kernel_rfl) ?_) | (with_reducible refine pK_mk ?_ ?_ <;> (intro hc; (try simp only [go_sem, List.getElem?_map, hx, hy, Option.map_some, datI]); (try simp at hc); try (exfalso; omega))) | with_reducible refine And.intro (by first | omega | (unfold inI; omega)) ?_)
      · refine retQ_ret rfl rfl (by simp [rowsOf, lk]) ?_; rw [bP_false fun h => by rw [h, hy] at hx; exact absurd (Option.some.inj hx).symm (by assumption)]
      · exact ⟨k + 1, ⟨by omega, by rw [take_snoc hx, take_snoc hy, hJ, hc]⟩, by omega, (fits_mk [] (by simp [renL_d, bdL_d, sg, over, wipe, wl, memN, ins, rm, lk, fitFr, fit1, ren, renL, bd, bdL, app, fitHp, hget, renB, bdB] <;> omega))⟩
    · repeat' (first | ((with_reducible first | (refine hK _ ?_; clear hK K) | refine stq fun K' hK' => ?_ | refine stc ?_); try simp only [go_sem]) | (with_reducible first | refine stp ?_ | (refine hK' _ ?_; clear hK' K') | refine kN kl8 fun K hK => ?_ | refine kO fun K hK => ?_) | refine iB ?_ | (with_reducible refine pw_seq_drawK kl8 G_ok mixed (by kernel_rfl) (fun K hK => ?_)) | (with_reducible refine pw_draw G_ok mixed (by kernel_rfl) ?_) | (with_reducible refine pK_mk ?_ ?_ <;> (intro hc; (try simp only [go_sem]); (try simp at hc); try (exfalso; omega))) | with_reducible refine And.intro (by first | omega | (unfold inI; omega)) ?_)
      refine retQ_ret rfl rfl (by simp [rowsOf, lk]) ?_; rw [bP_true (by rwa [List.take_of_length_le (by omega), List.take_of_length_le (by omega)] at hJ)]
theorem sc_datI {xs : List Int} {e : List D} (he : e ∈ xs.map datI) {d : D} (hd : d ∈ e) : d.sc := by
  obtain ⟨x, _, rfl⟩ := List.mem_map.1 he
  rw [show datI x = [.int .i64 x] from rfl, List.mem_singleton] at hd
  subst hd
  simp [D.sc]
theorem flatE_datI (xs : List Int) : flatE (xs.map datI) := fun _ he _ hd => sc_datI he hd
/-- a row that is filled up to a place -/
def fillTo {α : Type} (z : α) (xs : List α) (k : Nat) : List α := xs.take k ++ List.replicate (xs.length - k) z
theorem fillTo_len {α : Type} (z : α) (xs : List α) (k : Nat) (hk : k ≤ xs.length) : (fillTo z xs k).length = xs.length := by unfold fillTo; simp; omega
theorem fillTo_zero {α : Type} (z : α) (xs : List α) : fillTo z xs 0 = List.replicate xs.length z := by unfold fillTo; simp
theorem fillTo_end {α : Type} (z : α) (xs : List α) : fillTo z xs xs.length = xs := by unfold fillTo; simp
theorem fillTo_get {α : Type} (z : α) {xs : List α} {k : Nat} (hk : k < xs.length) : (fillTo z xs k)[k]? = some z := by
  unfold fillTo
  have hl : (xs.take k).length = k := by simp; omega
  rw [List.getElem?_append_right (by omega), hl, Nat.sub_self, List.getElem?_replicate, if_pos (by omega)]
theorem fillTo_set {α : Type} (z : α) {xs : List α} {k : Nat} {x : α} (hx : xs[k]? = some x) : (fillTo z xs k).set k x = fillTo z xs (k + 1) := by
  have hk := (List.getElem?_eq_some_iff.1 hx).1
  have hl : (xs.take k).length = k := by simp; omega
  unfold fillTo
  rw [take_snoc hx, show xs.length - k = (xs.length - (k + 1)) + 1 by omega, List.replicate_succ, List.append_assoc, List.set_append_right _ _ (by omega), hl, Nat.sub_self]
  rfl
/-- the numbers from k on -/
def mkI (k : Int) (n : Nat) : List Int := (List.range n).map fun i : Nat => k + (i : Int)
theorem mkI_len (k : Int) (n : Nat) : (mkI k n).length = n := by simp [mkI]
theorem mkI_get {k : Int} {n i : Nat} (h : i < n) : (mkI k n)[i]? = some (k + (i : Int)) := by unfold mkI; rw [List.getElem?_map, List.getElem?_range h]; rfl
theorem mkI_succ (k : Int) (n : Nat) : mkI k (n + 1) = mkI k n ++ [k + (n : Int)] := by unfold mkI; rw [List.range_succ]; simp
/-- the first k of them marked -/
def mkTo (q : Int) (xs : List Int) (k : Nat) : List Int := mkI q k ++ xs.drop k
theorem mkTo_zero (q : Int) (xs : List Int) : mkTo q xs 0 = xs := rfl
theorem mkTo_end (q : Int) (xs : List Int) : mkTo q xs xs.length = mkI q xs.length := by unfold mkTo; rw [List.drop_length, List.append_nil]
theorem mkTo_len {q : Int} {xs : List Int} {k : Nat} (hk : k ≤ xs.length) : (mkTo q xs k).length = xs.length := by unfold mkTo; rw [List.length_append, mkI_len, List.length_drop]; omega
theorem mkTo_get {q : Int} {xs : List Int} {k : Nat} (hk : k < xs.length) : (mkTo q xs k)[k]? = some (xs[k]) := by unfold mkTo; rw [List.getElem?_append_right (by rw [mkI_len]; exact Nat.le_refl _), mkI_len, Nat.sub_self, List.getElem?_drop]; simp
theorem mkTo_set {k : Int} {i : Nat} {xs : List Int} (h : i < xs.length) : (mkTo k xs i).set i (k + (i : Int)) = mkTo k xs (i + 1) := by
  unfold mkTo
  rw [List.set_append_right _ _ (by rw [mkI_len]; exact Nat.le_refl _), mkI_len, Nat.sub_self, mkI_succ, List.append_assoc, List.drop_eq_getElem_cons h]
  rfl
theorem heldIntS_ok (q : Int) (n : Nat) (hk : 0 ≤ q) (hb : q + (n : Int) ≤ 1099511627776) : FnEq Tryd.prog 10 [.d (.lst 1 ((mkI q n).map datI)), .d (.int .i64 q)] [.d (.int .i64 (q + (n : Int)))] := by
  refine fn_ok G_ok Tryd.func10 rfl rfl ?_; simp only [Tryd.ntmps10, List.length_cons, List.length_nil, Nat.reduceAdd, Nat.reduceSub, enm]
  have hl := mkI_len q n
  repeat' (first | ((with_reducible first | (refine hK _ ?_; clear hK K) | refine stq fun K' hK' => ?_ | refine stc ?_); try simp only [go_sem]) | (with_reducible first | refine stp ?_ | (refine hK' _ ?_; clear hK' K') | refine kN kl10 fun K hK => ?_ | refine kO fun K hK => ?_) | refine iB ?_ | (with_reducible refine pK_mk ?_ ?_ <;> (intro hc; (try simp only [go_sem]); (try simp at hc); try (exfalso; omega))) | with_reducible refine And.intro (by first | omega | (unfold inI; omega)) ?_)
  refine pw_loop_over [1, 4, 5, 6, 7, 8, 9, 10, 11, 12, 13, 14, 15, 16, 17, 18, 19] (fun k : Nat => [(5, .d (.int .i64 (k : Int))), (1, .d (.int .i64 (q + (k : Int))))]) (fun k : Nat => []) 0 (fun k : Nat => k ≤ n) (fun k : Nat => n - k) 0 (Nat.zero_le _) (fits_mk [] (by simp [renL_d, bdL_d, sg, over, wipe, wl, memN, ins, rm, lk, fitFr, fit1, ren, renL, bd, bdL, app, fitHp, hget, renB, bdB, hl] <;> omega)) ?_
  intro i hi
  simp only [over, wipe, wl, memN, ins, rm, if_true, if_false, Nat.reduceEqDiff, Bool.false_eq_true, reduceCtorEq]
  by_cases hlt : i < n
  · have hx := mkI_get (k := q) hlt
    repeat' (first | ((with_reducible first | (refine hK _ ?_; clear hK K) | refine stq fun K' hK' => ?_ | refine stc ?_); try simp only [go_sem, hl, List.getElem?_map, hx, Option.map_some, datI]) | (with_reducible first | refine stp ?_ | (refine hK' _ ?_; clear hK' K') | refine kN kl10 fun K hK => ?_ | refine kO fun K hK => ?_) | refine iB ?_ | (with_reducible refine pK_mk ?_ ?_ <;> (intro hc; (try simp only [go_sem, hl, List.getElem?_map, hx, Option.map_some, datI]); (try simp at hc); try (exfalso; omega))) | with_reducible refine And.intro (by first | omega | (unfold inI; omega)) ?_)
    exact ⟨i + 1, by omega, by omega, (fits_mk [] (by simp [renL_d, bdL_d, sg, over, wipe, wl, memN, ins, rm, lk, fitFr, fit1, ren, renL, bd, bdL, app, fitHp, hget, renB, bdB, Int.add_assoc] <;> omega))⟩
  · repeat' (first | ((with_reducible first | (refine hK _ ?_; clear hK K) | refine stq fun K' hK' => ?_ | refine stc ?_); try simp only [go_sem, hl]) | (with_reducible first | refine stp ?_ | (refine hK' _ ?_; clear hK' K') | refine kN kl10 fun K hK => ?_ | refine kO fun K hK => ?_) | refine iB ?_ | (with_reducible refine pK_mk ?_ ?_ <;> (intro hc; (try simp only [go_sem, hl]); (try simp at hc); try (exfalso; omega))) | with_reducible refine And.intro (by first | omega | (unfold inI; omega)) ?_)
    refine retQ_ret rfl rfl (by simp [rowsOf, lk]) ?_; rw [show i = n by omega]
theorem markIntS_ok (xs : List Int) (q : Int) (hk : 0 ≤ q) (hb : q + (xs.length : Int) ≤ 1099511627776) : FnM Tryd.prog 9 1 (xs.map datI) [.int .i64 q] ((mkI q xs.length).map datI) [.int .i64 (q + (xs.length : Int))] := by
  refine fn_okM G_ok Tryd.func9 rfl rfl (by simp [D.sc]) (by simp [D.sc]) fun ty => ?_; simp only [Tryd.ntmps9, List.length_cons, List.length_nil, Nat.reduceAdd, Nat.reduceSub, List.map_cons, List.map_nil, List.length_map, enm]
  repeat' (first | ((with_reducible first | (refine hK _ ?_; clear hK K) | refine stq fun K' hK' => ?_ | refine stc ?_); try simp only [go_sem]) | (with_reducible first | refine stp ?_ | (refine hK' _ ?_; clear hK' K') | refine kN kl9 fun K hK => ?_ | refine kO fun K hK => ?_) | refine iB ?_ | (with_reducible refine pK_mk ?_ ?_ <;> (intro hc; (try simp only [go_sem]); (try simp at hc); try (exfalso; omega))) | with_reducible refine And.intro (by first | omega | (unfold inI; omega)) ?_)
  refine pw_loop_over [1, 4, 5, 6, 7, 8, 9, 10, 11, 12, 13, 14, 15, 16, 17] (fun k : Nat => [(5, .d (.int .i64 (k : Int))), (1, .d (.int .i64 (q + (k : Int))))]) (fun k : Nat => [(0, .deep 1 ty 1 ((mkTo q xs k).map datI))]) 1 (fun k : Nat => k ≤ xs.length) (fun k : Nat => xs.length - k) 0 (Nat.zero_le _) (fits_mk [] (by simp [renL_d, bdL_d, sg, over, wipe, wl, memN, ins, rm, lk, fitFr, fit1, ren, renL, bd, bdL, app, fitHp, hget, renB, bdB, mkTo_zero] <;> omega)) ?_
  intro k hk
  have hL := mkTo_len (q := q) hk
  simp only [over, wipe, wl, memN, ins, rm, if_true, if_false, Nat.reduceEqDiff, Bool.false_eq_true, reduceCtorEq]
  by_cases hlt : k < xs.length
  · have hx := mkTo_get (q := q) hlt
    repeat' (first | ((with_reducible first | (refine hK _ ?_; clear hK K) | refine stq fun K' hK' => ?_ | refine stc ?_); try simp only [go_sem, hL, hlt, List.getElem?_map, hx, Option.map_some, datI]) | (with_reducible first | refine stp ?_ | (refine hK' _ ?_; clear hK' K') | refine kN kl9 fun K hK => ?_ | refine kO fun K hK => ?_) | refine iB ?_ | (with_reducible refine pK_mk ?_ ?_ <;> (intro hc; (try simp only [go_sem, hL, hlt, List.getElem?_map, hx, Option.map_some, datI]); (try simp at hc); try (exfalso; omega))) | with_reducible refine And.intro (by first | omega | (unfold inI; omega)) ?_)
    have hst : ((mkTo q xs k).map datI).set k [D.int .i64 (q + (k : Int))] = (mkTo q xs (k + 1)).map datI := by rw [← mkTo_set hlt, List.map_set]; rfl
    refine po_store_deep (e := datI xs[k]) (ds := [.int .i64 (q + (k : Int))]) rfl (G_ok _ _ G3) rfl rfl (by rw [List.getElem?_map, hx]; rfl) rfl rfl rfl rfl (Nat.le_refl _) ?_
    repeat' (first | ((with_reducible first | (refine hK _ ?_; clear hK K) | refine stq fun K' hK' => ?_ | refine stc ?_); try simp only [go_sem, datI]) | (with_reducible first | refine stp ?_ | (refine hK' _ ?_; clear hK' K') | refine kN kl9 fun K hK => ?_ | refine kO fun K hK => ?_) | refine iB ?_ | (with_reducible refine pK_mk ?_ ?_ <;> (intro hc; (try simp only [go_sem, datI]); (try simp at hc); try (exfalso; omega))) | with_reducible refine And.intro (by first | omega | (unfold inI; omega)) ?_)
    exact ⟨k + 1, by omega, by omega, (fits_mk [] (by simp [renL_d, bdL_d, sg, over, wipe, wl, memN, ins, rm, lk, fitFr, fit1, ren, renL, bd, bdL, app, fitHp, hget, renB, bdB, Int.add_assoc, hst] <;> omega))⟩
  · obtain rfl : k = xs.length := by omega
    repeat' (first | ((with_reducible first | (refine hK _ ?_; clear hK K) | refine stq fun K' hK' => ?_ | refine stc ?_); try simp only [go_sem, hL]) | (with_reducible first | refine stp ?_ | (refine hK' _ ?_; clear hK' K') | refine kN kl9 fun K hK => ?_ | refine kO fun K hK => ?_) | refine iB ?_ | (with_reducible refine pK_mk ?_ ?_ <;> (intro hc; (try simp only [go_sem, hL]); (try simp at hc); try (exfalso; omega))) | with_reducible refine And.intro (by first | omega | (unfold inI; omega)) ?_)
    rw [mkTo_end]
    exact ⟨rfl, 0, rfl⟩
section
variable {H : Type} {enc : TypeId × Value → H} {w : World} {base : Nat} {spare : Nat → Bool} {held : Bool}
set_option maxRecDepth 100000 in
theorem open_intS0 : OpenK enc Tryd.prog w base spare held (datL 1 datI) (fun xs => xs.length ≤ maxLen ∧ ∀ x ∈ xs, True) 22 1 :=
  OpenK.slc (OpenK.int Tryd.underlying3) Tryd.underlying22 (by kernel_rfl) (by decide)
end
end Go.Proofs.YtjgpbbdapjjmiaaDoor
