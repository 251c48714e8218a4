/-
  Notes: the reference's test, in the abstract machine.
-/
import Derived.Test.YtjgpbbdapjjmiaaDoorNote
set_option linter.unusedSimpArgs false
set_option linter.unusedVariables false
set_option maxHeartbeats 2000000
set_option maxRecDepth 100000
namespace Go.Proofs.YtjgpbbdapjjmiaaDoor
open Go.RowKit

noncomputable def insB (l : List NoteD) (n : Int) : Bool := bP (n ∈ insOf l)
theorem insB_iff {l : List NoteD} {n : Int} : insB l n = true ↔ n ∈ insOf l := bP_iff
theorem insB_not {l : List NoteD} {n : Int} (h : insB l n = false) : n ∉ insOf l := fun h' => Bool.noConfusion ((insB_iff.2 h').symm.trans h)
theorem skB_bP (l : List NoteD) (n : Int) : bP (n ∈ l.map NoteD.skater) = skB l n := by rw [Bool.eq_iff_iff, bP_iff, skB_iff]
theorem l1HasSk_ok (l : List NoteD) (n : Int) (hn : (l.map NoteD.skater).length ≤ 16777216) : FnEq Tryd.prog 36 [.d (.lst 1 ((l.map NoteD.skater).map datI)), .d (.int .i64 n)] [.d (.bool (skB l n))] := by
  rw [← skB_bP]; exact l1Has_ok _ n hn
theorem l1HasIn_ok (l : List NoteD) (n : Int) (hn : (insOf l).length ≤ 16777216) : FnEq Tryd.prog 36 [.d (.lst 1 ((insOf l).map datI)), .d (.int .i64 n)] [.d (.bool (insB l n))] := l1Has_ok _ n hn
theorem wdGood_ok (xs0 : List NoteD) (hn0 : xs0.length ≤ 1048576) : FnEq Tryd.prog 23 [.d (.lst 3 (xs0.map NoteD.dat))] [.d (.bool (bP (NotesOk xs0)))] := by
  refine fn_ok G_ok Tryd.func23 rfl rfl ?_; simp only [Tryd.ntmps23, List.length_cons, List.length_nil, Nat.reduceAdd, Nat.reduceSub, enm]
  repeat' (first | ((with_reducible first | (refine hK _ ?_; clear hK K) | refine stq fun K' hK' => ?_ | refine stc ?_); try simp only [go_sem]) | (with_reducible first | refine stp ?_ | (refine hK' _ ?_; clear hK' K') | refine kN kl23 fun K hK => ?_ | refine kO fun K hK => ?_) | (refine xS rfl fun K' hK' => ?_; simp only [go_sem]) | refine iB ?_ | (with_reducible refine pK_mk ?_ ?_ <;> (intro hc; (try simp only [go_sem]); (try simp at hc); try (exfalso; omega))) | with_reducible refine And.intro (by first | omega | (unfold inI; omega)) ?_)
  refine pw_loop_over [2, 3, 4, 6, 11, 12, 13, 14, 15, 16, 17, 18, 19, 20, 21, 22, 23, 24, 25, 26, 27, 28, 29, 30, 31, 32, 33, 34, 35, 36, 37, 38, 39, 40, 41, 42, 43, 44, 45, 46, 47, 48, 49, 50, 51, 52, 53, 54, 55, 56, 57, 58, 59, 60, 61, 62, 63, 64] (fun k : Nat => [(11, .d (.int .i64 (k : Int))), (3, .row 0 (xs0.take k).length), (4, .row 1 (insOf (xs0.take k)).length)]) (fun k : Nat => [(0, .row 3 1 (((xs0.take k).map NoteD.skater).map datI)), (1, .row 3 1 ((insOf (xs0.take k)).map datI))]) 2 (fun k : Nat => k ≤ xs0.length ∧ Upto (NoteLo xs0) xs0 k) (fun k : Nat => xs0.length - k) 0 ⟨Nat.zero_le _, Upto.zero _ _⟩ (fits_mk [] (by simp [renL_d, bdL_d, sg, over, wipe, wl, memN, ins, rm, lk, fitFr, fit1, ren, renL, bd, bdL, app, fitHp, hget, renB, bdB, insOf, fm_nil] <;> omega)) ?_
  rintro k ⟨hk, hJ⟩
  have hL' : (insOf (xs0.take k)).length ≤ k := fm_take_len _ _ xs0 k
  have hT : (xs0.take k).length ≤ k := List.length_take_le _ _
  simp only [over, wipe, wl, memN, ins, rm, if_true, if_false, Nat.reduceEqDiff, Bool.false_eq_true, reduceCtorEq]
  by_cases hlt : k < xs0.length
  · have hx := List.getElem?_eq_getElem hlt
    generalize xs0[k] = x at hx
    repeat' (first | ((with_reducible first | (refine hK _ ?_; clear hK K) | refine stq fun K' hK' => ?_ | refine stc ?_); try simp only [go_sem, List.getElem?_map, hx, Option.map_some, NoteD.dat]) | (with_reducible first | refine stp ?_ | (refine hK' _ ?_; clear hK' K') | refine kN kl23 fun K hK => ?_ | refine kO fun K hK => ?_) | (refine xS rfl fun K' hK' => ?_; simp only [go_sem, List.getElem?_map, hx, Option.map_some, NoteD.dat]) | ((with_reducible apply CallK.eq); (· with_reducible first | exact l1In_ok _ _ _ | exact l1HasSk_ok (xs0.take k) _ (by simp; omega) | exact l1HasIn_ok (xs0.take k) _ (by omega)); (· simp [RV.flat, D.sc, datI]); try simp only [go_sem, List.getElem?_map, hx, Option.map_some, NoteD.dat]) | refine iB ?_ | (with_reducible refine pK_mk ?_ ?_ <;> (intro hc; (try simp only [go_sem, List.getElem?_map, hx, Option.map_some, NoteD.dat]); (try simp at hc); try (exfalso; omega))) | with_reducible refine And.intro (by first | omega | (unfold inI; omega)) ?_)
    all_goals first
      | (refine retQ_ret rfl rfl (by simp [rowsOf, lk]) ?_; rw [bP_false (NotesOk.not_at hx (by rintro ⟨⟨h1, h2, h3, h4, h5, h6, h7, h8⟩, h9⟩; first | omega | exact h7 (skB_iff.1 (by assumption)) | exact (h8.resolve_left (by omega)).2 ((ins_take k (by assumption)).1 (insB_iff.1 (by assumption)))))])
      | exact ⟨k + 1, ⟨by omega, hJ.succ hx ⟨by omega, by omega, by omega, by omega, by omega, by omega, skB_not (by assumption), by first | exact .inl (by omega) | exact .inr ⟨by omega, fun h => insB_not (by assumption) ((ins_take k (by assumption)).2 h)⟩⟩⟩, by omega, (fits_mk [] (by simp [renL_d, bdL_d, sg, over, wipe, wl, memN, ins, rm, lk, fitFr, fit1, ren, renL, bd, bdL, app, fitHp, hget, renB, bdB, insOf, fm_yes hx, fm_no hx, map_snoc hx, hc, datI] <;> omega))⟩
      | skip
  · have e : xs0.take k = xs0 := List.take_of_length_le (by omega)
    have hU : Upto (NoteLo xs0) xs0 xs0.length := by rwa [show k = xs0.length by omega] at hJ
    repeat' (first | ((with_reducible first | (refine hK _ ?_; clear hK K) | refine stq fun K' hK' => ?_ | refine stc ?_); try simp only [go_sem, e]) | (with_reducible first | refine stp ?_ | (refine hK' _ ?_; clear hK' K') | refine kN kl23 fun K hK => ?_ | refine kO fun K hK => ?_) | (refine xS rfl fun K' hK' => ?_; simp only [go_sem, e]) | refine iB ?_ | (with_reducible refine pK_mk ?_ ?_ <;> (intro hc; (try simp only [go_sem, e]); (try simp at hc); try (exfalso; omega))) | with_reducible refine And.intro (by first | omega | (unfold inI; omega)) ?_)
    refine pw_loop_over [2, 8, 67, 68, 69, 70, 71, 72, 73, 74] (fun k : Nat => [(67, .d (.int .i64 (k : Int)))]) (fun k : Nat => [(0, .row 3 1 ((xs0.map NoteD.skater).map datI)), (1, .row 3 1 ((insOf xs0).map datI))]) 2 (fun k : Nat => k ≤ (insOf xs0).length ∧ ∀ n ∈ (insOf xs0).take k, skB xs0 n = false) (fun k : Nat => (insOf xs0).length - k) 0 ⟨Nat.zero_le _, by simp⟩ (fits_mk [] (by simp [renL_d, bdL_d, sg, over, wipe, wl, memN, ins, rm, lk, fitFr, fit1, ren, renL, bd, bdL, app, fitHp, hget, renB, bdB, e] <;> omega)) ?_
    rintro j ⟨hj, hJ2⟩
    have hI : (insOf xs0).length ≤ xs0.length := fm_len _ _ _
    simp only [over, wipe, wl, memN, ins, rm, if_true, if_false, Nat.reduceEqDiff, Bool.false_eq_true, reduceCtorEq]
    by_cases hlt2 : j < (insOf xs0).length
    · have hy := List.getElem?_eq_getElem hlt2
      generalize (insOf xs0)[j] = y at hy
      repeat' (first | ((with_reducible first | (refine hK _ ?_; clear hK K) | refine stq fun K' hK' => ?_ | refine stc ?_); try simp only [go_sem, List.getElem?_map, hy, Option.map_some, datI, hlt2]) | (with_reducible first | refine stp ?_ | (refine hK' _ ?_; clear hK' K') | refine kN kl23 fun K hK => ?_ | refine kO fun K hK => ?_) | (refine xS rfl fun K' hK' => ?_; simp only [go_sem, List.getElem?_map, hy, Option.map_some, datI, hlt2]) | ((with_reducible apply CallK.eq); (· with_reducible first | exact l1HasSk_ok xs0 _ (by simp; omega)); (· simp [RV.flat, D.sc, datI]); try simp only [go_sem, List.getElem?_map, hy, Option.map_some, datI, hlt2]) | refine iB ?_ | (with_reducible refine pK_mk ?_ ?_ <;> (intro hc; (try simp only [go_sem, List.getElem?_map, hy, Option.map_some, datI, hlt2]); (try simp at hc); try (exfalso; omega))) | with_reducible refine And.intro (by first | omega | (unfold inI; omega)) ?_)

      · refine retQ_ret rfl rfl (by simp [rowsOf, lk]) ?_; rw [bP_false (notes_not (List.mem_of_getElem? hy) (skB_iff.1 (by assumption)))]
      · exact ⟨j + 1, ⟨by omega, fun n hn => by
          rw [take_snoc hy] at hn
          rcases List.mem_append.1 hn with hn | hn
          · exact hJ2 n hn
          · rw [List.mem_singleton] at hn; subst hn; assumption⟩, by omega, (fits_mk [] (by simp [renL_d, bdL_d, sg, over, wipe, wl, memN, ins, rm, lk, fitFr, fit1, ren, renL, bd, bdL, app, fitHp, hget, renB, bdB] <;> omega))⟩
    · rw [List.take_of_length_le (by omega)] at hJ2
      repeat' (first | ((with_reducible first | (refine hK _ ?_; clear hK K) | refine stq fun K' hK' => ?_ | refine stc ?_); try simp only [go_sem]) | (with_reducible first | refine stp ?_ | (refine hK' _ ?_; clear hK' K') | refine kN kl23 fun K hK => ?_ | refine kO fun K hK => ?_) | (refine xS rfl fun K' hK' => ?_; simp only [go_sem]) | refine iB ?_ | (with_reducible refine pK_mk ?_ ?_ <;> (intro hc; (try simp only [go_sem]); (try simp at hc); try (exfalso; omega))) | with_reducible refine And.intro (by first | omega | (unfold inI; omega)) ?_)
      refine retQ_ret rfl rfl (by simp [rowsOf, lk]) ?_; rw [notes_end hU (fun n hn => skB_not (hJ2 n hn))]
end Go.Proofs.YtjgpbbdapjjmiaaDoor
