/-
  Who is withdrawn: noteOf of the program, wdNote of the reference, in the abstract machine.
-/
import Derived.Test.YthocihmhljmgdaaGreatDoorZNu
set_option linter.unusedSimpArgs false
set_option linter.unusedVariables false
set_option maxHeartbeats 2000000
set_option maxRecDepth 100000
namespace Go.Proofs.YthocihmhljmgdaaGreatDoor
open Go.RowKit

theorem held_at {l : List NoteD} {n seg : Int} {k : Nat} {x : NoteD} (hx : l[k]? = some x) (h : hdp n seg x = true) (hn : ∀ y ∈ l.take k, hdp n seg y = false) : heldBy l n seg = x ∧ isHeld l n seg = true := by
  unfold heldBy isHeld; rw [find_at hx h hn]; exact ⟨rfl, rfl⟩
theorem held_no {l : List NoteD} {n seg : Int} (hn : ∀ y ∈ l, hdp n seg y = false) : heldBy l n seg = noteD0 ∧ isHeld l n seg = false := by
  unfold heldBy isHeld; rw [find_none hn]; exact ⟨rfl, rfl⟩
theorem wdNote_ok (l : List NoteD) (n seg : Int) (h : l.length ≤ 1048576) : FnEq Tryz.prog 108 [.d (.lst 3 (l.map NoteD.dat)), .d (.int .i64 n), .d (.int .i64 seg)] [.d (.int .i64 (fIx (hdp n seg) l 0))] := by
  refine fn_ok G_ok Tryz.func108 rfl rfl ?_; simp only [Tryz.ntmps108, List.length_cons, List.length_nil, Nat.reduceAdd, Nat.reduceSub, enm]
  repeat' (first | ((with_reducible first | (refine hK _ ?_; clear hK K) | refine stq fun K' hK' => ?_ | refine stc ?_); try simp only [go_sem]) | (with_reducible first | refine stp ?_ | (refine hK' _ ?_; clear hK' K') | refine kN kl108 fun K hK => ?_ | refine kO fun K hK => ?_) | (refine xS rfl fun K' hK' => ?_; simp only [go_sem]) | refine iB ?_ | (with_reducible refine pK_mk ?_ ?_ <;> (intro hc; (try simp only [go_sem]); (try simp at hc); try (exfalso; omega))) | with_reducible refine And.intro (by first | omega | (unfold inI; omega)) ?_)
  refine pw_loop_over [6, 7, 8, 11, 12, 13, 14, 15, 16, 17, 18, 19, 20, 21, 22, 23, 24, 25, 26, 27] (fun k : Nat => [(11, .d (.int .i64 (k : Int)))]) (fun k : Nat => []) 0 (fun k : Nat => k ≤ l.length ∧ ∀ y ∈ l.take k, hdp n seg y = false) (fun k : Nat => l.length - k) 0 ⟨Nat.zero_le _, by simp⟩ (fits_mk [] (by simp [renL_d, bdL_d, sg, over, wipe, wl, memN, ins, rm, lk, fitFr, fit1, ren, renL, bd, bdL, app, fitHp, hget, renB, bdB] <;> omega)) ?_
  rintro k ⟨hk, hJ⟩
  simp only [over, wipe, wl, memN, ins, rm, if_true, if_false, Nat.reduceEqDiff, Bool.false_eq_true, reduceCtorEq]
  by_cases hlt : k < l.length
  · have hx := List.getElem?_eq_getElem hlt
    generalize l[k] = x at hx
    repeat' (first | ((with_reducible first | (refine hK _ ?_; clear hK K) | refine stq fun K' hK' => ?_ | refine stc ?_); try simp only [go_sem, List.getElem?_map, hx, Option.map_some, NoteD.dat]) | (with_reducible first | refine stp ?_ | (refine hK' _ ?_; clear hK' K') | refine kN kl108 fun K hK => ?_ | refine kO fun K hK => ?_) | (refine xS rfl fun K' hK' => ?_; simp only [go_sem, List.getElem?_map, hx, Option.map_some, NoteD.dat]) | refine iB ?_ | (with_reducible refine pK_mk ?_ ?_ <;> (intro hc; (try simp only [go_sem, List.getElem?_map, hx, Option.map_some, NoteD.dat]); (try simp at hc); try (exfalso; omega))) | with_reducible refine And.intro (by first | omega | (unfold inI; omega)) ?_)
    · refine retQ_ret rfl rfl (by simp [rowsOf, lk]) ?_; rw [fIx_at (i := 0) hx (by simp [hdp]; omega) hJ]; simp
    all_goals exact ⟨k + 1, ⟨by omega, none_snoc hJ hx (by simp [hdp]; omega)⟩, by omega, (fits_mk [] (by simp [renL_d, bdL_d, sg, over, wipe, wl, memN, ins, rm, lk, fitFr, fit1, ren, renL, bd, bdL, app, fitHp, hget, renB, bdB] <;> omega))⟩
  · repeat' (first | ((with_reducible first | (refine hK _ ?_; clear hK K) | refine stq fun K' hK' => ?_ | refine stc ?_); try simp only [go_sem]) | (with_reducible first | refine stp ?_ | (refine hK' _ ?_; clear hK' K') | refine kN kl108 fun K hK => ?_ | refine kO fun K hK => ?_) | (refine xS rfl fun K' hK' => ?_; simp only [go_sem]) | refine iB ?_ | (with_reducible refine pK_mk ?_ ?_ <;> (intro hc; (try simp only [go_sem]); (try simp at hc); try (exfalso; omega))) | with_reducible refine And.intro (by first | omega | (unfold inI; omega)) ?_)
    refine retQ_ret rfl rfl (by simp [rowsOf, lk]) ?_; rw [fIx_none (none_all hJ (by omega))]
theorem noteOf_ok (l : List NoteD) (n seg : Int) (h : l.length ≤ 1048576) : FnEq Tryz.prog 62 [.d (.lst 3 (l.map NoteD.dat)), .d (.int .i64 n), .d (.int .i64 seg)] [.agg [.int .i64 (heldBy l n seg).skater, .int .i64 (heldBy l n seg).before, .int .i64 (heldBy l n seg).inn], .d (.bool (isHeld l n seg))] := by
  refine fn_ok G_ok Tryz.func62 rfl rfl ?_; simp only [Tryz.ntmps62, List.length_cons, List.length_nil, Nat.reduceAdd, Nat.reduceSub, enm]
  repeat' (first | ((with_reducible first | (refine hK _ ?_; clear hK K) | refine stq fun K' hK' => ?_ | refine stc ?_); try simp only [go_sem]) | (with_reducible first | refine stp ?_ | (refine hK' _ ?_; clear hK' K') | refine kN kl62 fun K hK => ?_ | refine kO fun K hK => ?_) | (refine xS rfl fun K' hK' => ?_; simp only [go_sem]) | refine iB ?_ | (with_reducible refine pK_mk ?_ ?_ <;> (intro hc; (try simp only [go_sem]); (try simp at hc); try (exfalso; omega))) | with_reducible refine And.intro (by first | omega | (unfold inI; omega)) ?_)
  refine pw_loop_over [7, 9, 12, 13, 14, 15, 16, 17, 18, 19, 20, 21, 22, 23, 24, 25, 26, 27] (fun k : Nat => [(12, .d (.int .i64 (k : Int)))]) (fun k : Nat => [(0, .box 64 [.d (.int .i64 0), .d (.int .i64 0), .d (.int .i64 0)])]) 1 (fun k : Nat => k ≤ l.length ∧ ∀ y ∈ l.take k, hdp n seg y = false) (fun k : Nat => l.length - k) 0 ⟨Nat.zero_le _, by simp⟩ (fits_mk [] (by simp [renL_d, bdL_d, sg, over, wipe, wl, memN, ins, rm, lk, fitFr, fit1, ren, renL, bd, bdL, app, fitHp, hget, renB, bdB] <;> omega)) ?_
  rintro k ⟨hk, hJ⟩
  simp only [over, wipe, wl, memN, ins, rm, if_true, if_false, Nat.reduceEqDiff, Bool.false_eq_true, reduceCtorEq]
  by_cases hlt : k < l.length
  · have hx := List.getElem?_eq_getElem hlt
    generalize l[k] = x at hx
    repeat' (first | ((with_reducible first | (refine hK _ ?_; clear hK K) | refine stq fun K' hK' => ?_ | refine stc ?_); try simp only [go_sem, List.getElem?_map, hx, Option.map_some, NoteD.dat]) | (with_reducible first | refine stp ?_ | (refine hK' _ ?_; clear hK' K') | refine kN kl62 fun K hK => ?_ | refine kO fun K hK => ?_) | (refine xS rfl fun K' hK' => ?_; simp only [go_sem, List.getElem?_map, hx, Option.map_some, NoteD.dat]) | refine iB ?_ | (with_reducible refine pK_mk ?_ ?_ <;> (intro hc; (try simp only [go_sem, List.getElem?_map, hx, Option.map_some, NoteD.dat]); (try simp at hc); try (exfalso; omega))) | with_reducible refine And.intro (by first | omega | (unfold inI; omega)) ?_)
    · obtain ⟨e1, e2⟩ := held_at hx (by simp [hdp]; omega) hJ
      refine retQ_ret rfl rfl (by simp [rowsOf, rowIds, lk]) ?_; rw [e1, e2]
    all_goals exact ⟨k + 1, ⟨by omega, none_snoc hJ hx (by simp [hdp]; omega)⟩, by omega, (fits_mk [] (by simp [renL_d, bdL_d, sg, over, wipe, wl, memN, ins, rm, lk, fitFr, fit1, ren, renL, bd, bdL, app, fitHp, hget, renB, bdB] <;> omega))⟩
  · obtain ⟨e1, e2⟩ := held_no (none_all hJ (by omega))
    repeat' (first | ((with_reducible first | (refine hK _ ?_; clear hK K) | refine stq fun K' hK' => ?_ | refine stc ?_); try simp only [go_sem]) | (with_reducible first | refine stp ?_ | (refine hK' _ ?_; clear hK' K') | refine kN kl62 fun K hK => ?_ | refine kO fun K hK => ?_) | (refine xS rfl fun K' hK' => ?_; simp only [go_sem]) | refine iB ?_ | (with_reducible refine pK_mk ?_ ?_ <;> (intro hc; (try simp only [go_sem]); (try simp at hc); try (exfalso; omega))) | with_reducible refine And.intro (by first | omega | (unfold inI; omega)) ?_)
    refine retQ_ret rfl rfl (by simp [rowsOf, rowIds, lk]) ?_; rw [e1, e2]; rfl
end Go.Proofs.YthocihmhljmgdaaGreatDoor
