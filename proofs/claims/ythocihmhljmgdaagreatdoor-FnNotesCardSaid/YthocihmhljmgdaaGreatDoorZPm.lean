/-
  Equal lists of notes and of results, as the laws ask for them.
-/
import Derived.Test.YthocihmhljmgdaaGreatDoorZMa
import Derived.Test.YthocihmhljmgdaaGreatDoorZNt
import Derived.Test.YthocihmhljmgdaaGreatDoorZOo
import Derived.Laws.StructEq
set_option linter.unusedSimpArgs false
set_option linter.unusedVariables false
set_option maxHeartbeats 2000000
set_option maxRecDepth 100000
namespace Go.Proofs.YthocihmhljmgdaaGreatDoor
open Go.RowKit

theorem agg3 {m : Nat → Option Loc} {X : Nat → Prop} {w : World} {a b c : Int} {v : Value} (h : R m X w (.agg [.d (.int .i64 a), .d (.int .i64 b), .d (.int .i64 c)]) v) : v = .agg #[.int .i64 a, .int .i64 b, .int .i64 c] := by
  cases h with
  | agg _ us hl h =>
    obtain ⟨l⟩ := us
    match l, hl, h with
    | [u0, u1, u2], _, h =>
      have h0 := (h 0 _ u0 rfl rfl).int
      have h1 := (h 1 _ u1 rfl rfl).int
      have h2 := (h 2 _ u2 rfl rfl).int
      rw [h0, h1, h2]
theorem run_neNote (a1 a2 a3 b1 b2 b3 : Int) (w : World) : (binOp .neq 64 (.agg #[.int .i64 a1, .int .i64 a2, .int .i64 a3]) (.agg #[.int .i64 b1, .int .i64 b2, .int .i64 b3])).run Tryz.prog w = .ok (.bool (!(a1 == b1 && (a2 == b2 && a3 == b3)))) w := by
  have hu := Tryz.underlying64
  have hi := Tryz.underlying3
  simp [go_sem, hu, hi, Tryz.isAgg3]
  by_cases h1 : a1 = b1 <;> by_cases h2 : a2 = b2 <;> by_cases h3 : a3 = b3 <;> simp [h1, h2, h3]
theorem neGuard : Tryz.prog.eqGuardType Tryz.prog.depth 64 = false := by kernel_rfl
theorem pq_neNote {o : Oper} {s : AS} {KP : PV → Prop} {t' : TypeId} {x y : Operand} {a1 a2 a3 b1 b2 b3 : Int} (ho : o.op = .binOp .neq 64 x y t') (hx : s.get x = .agg [.d (.int .i64 a1), .d (.int .i64 a2), .d (.int .i64 a3)]) (hy : s.get y = .agg [.d (.int .i64 b1), .d (.int .i64 b2), .d (.int .i64 b3)])
    (hK : KP (.d (.bool (!(a1 == b1 && (a2 == b2 && a3 == b3)))))) : PQ Tryz.prog o s KP := by
  refine PQ.pure _ hK fun m X w ac hq => ⟨.bool (!(a1 == b1 && (a2 == b2 && a3 == b3))), fun u => ?_, .d _ _ (.bool _)⟩
  have h1 := hq x
  have h2 := hq y
  rw [hx] at h1
  rw [hy] at h2
  have e1 := agg3 h1
  have e2 := agg3 h2
  simp only [execOp, ho, e1, e2, Sem.run_bind, run_eqGuard_agg _ _ _ _ _ _ _ neGuard, Result.andThen_ok, run_neNote, Sem.run_pure]
theorem NoteD.extS {x y : NoteD} : (x.skater == y.skater && (x.before == y.before && x.inn == y.inn)) = bP (x = y) := by
  rw [Bool.eq_iff_iff, bP_iff]
  simp only [Bool.and_eq_true, beq_iff_eq]
  constructor
  · rintro ⟨h1, h2, h3⟩; cases x; cases y; simp_all
  · intro h; subst h; exact ⟨rfl, rfl, rfl⟩
theorem pSameNotes_ok (xs ys : List NoteD) (hn : xs.length ≤ 1048576) (hn' : ys.length ≤ 1048576) : FnEq Tryz.prog 13 [.d (.lst 3 (xs.map NoteD.dat)), .d (.lst 3 (ys.map NoteD.dat))] [.d (.bool (bP (xs = ys)))] := by
  refine fn_ok G_ok Tryz.func13 rfl rfl ?_; simp only [Tryz.ntmps13, List.length_cons, List.length_nil, Nat.reduceAdd, Nat.reduceSub, enm]
  repeat' (first | ((with_reducible first | (refine hK _ ?_; clear hK K) | refine stq fun K' hK' => ?_ | refine stc ?_); try simp only [go_sem]) | (with_reducible first | refine stp ?_ | (refine hK' _ ?_; clear hK' K') | refine kN kl13 fun K hK => ?_ | refine kO fun K hK => ?_) | refine iB ?_ | (with_reducible refine pw_seq_drawK kl13 G_ok mixed (by kernel_rfl) (fun K hK => ?_)) | (with_reducible refine pw_draw G_ok mixed (by kernel_rfl) ?_) | (with_reducible refine pK_mk ?_ ?_ <;> (intro hc; (try simp only [go_sem]); (try simp at hc); try (exfalso; omega))) | with_reducible refine And.intro (by first | omega | (unfold inI; omega)) ?_)
  · refine retQ_ret rfl rfl (by simp [rowsOf, lk]) ?_; rw [bP_false fun h => absurd (congrArg List.length h) (by omega)]
  · refine pw_loop_over [4, 5, 13, 14, 15, 16, 17, 18, 19, 20, 21, 22, 23, 24, 25] (fun k : Nat => [(13, .d (.int .i64 (k : Int)))]) (fun k : Nat => []) 0 (fun k : Nat => k ≤ xs.length ∧ xs.take k = ys.take k) (fun k : Nat => xs.length - k) 0 ⟨Nat.zero_le _, by simp⟩ (fits_mk [] (by simp [renL_d, bdL_d, sg, over, wipe, wl, memN, ins, rm, lk, fitFr, fit1, ren, renL, bd, bdL, app, fitHp, hget, renB, bdB] <;> omega)) ?_
    rintro k ⟨hk, hJ⟩
    simp only [over, wipe, wl, memN, ins, rm, if_true, if_false, Nat.reduceEqDiff, Bool.false_eq_true, reduceCtorEq]
    by_cases hlt : k < xs.length
    · have hx := List.getElem?_eq_getElem hlt
      generalize xs[k] = x at hx
      have hy := List.getElem?_eq_getElem (show k < ys.length by omega)
      generalize ys[k] = y at hy
      repeat' (first | ((with_reducible first | (refine hK _ ?_; clear hK K) | refine stq fun K' hK' => ?_ | refine stc ?_); try simp only [go_sem, List.getElem?_map, hx, hy, Option.map_some, NoteD.dat]) | (with_reducible first | refine stp ?_ | (refine hK' _ ?_; clear hK' K') | refine kN kl13 fun K hK => ?_ | refine kO fun K hK => ?_) | refine iB ?_ | (with_reducible refine pw_seq_drawK kl13 G_ok mixed (by kernel_rfl) (fun K hK => ?_)) | (with_reducible refine pw_draw G_ok mixed (by kernel_rfl) ?_) | (with_reducible refine pK_mk ?_ ?_ <;> (intro hc; (try simp only [go_sem, List.getElem?_map, hx, hy, Option.map_some, NoteD.dat]); (try simp at hc); try (exfalso; omega))) | with_reducible refine And.intro (by first | omega | (unfold inI; omega)) ?_)
      all_goals first
        | (exfalso; omega)
        | skip
      refine pq_neNote rfl rfl rfl ?_
      rw [NoteD.extS]
      by_cases he : x = y
      · rw [bP_true he]
        repeat' (first | ((with_reducible first | (refine hK _ ?_; clear hK K) | refine stq fun K' hK' => ?_ | refine stc ?_); try simp only [go_sem]) | (with_reducible first | refine stp ?_ | (refine hK' _ ?_; clear hK' K') | refine kN kl13 fun K hK => ?_ | refine kO fun K hK => ?_) | refine iB ?_ | (with_reducible refine pw_seq_drawK kl13 G_ok mixed (by kernel_rfl) (fun K hK => ?_)) | (with_reducible refine pw_draw G_ok mixed (by kernel_rfl) ?_) | (with_reducible refine pK_mk ?_ ?_ <;> (intro hc; (try simp only [go_sem]); (try simp at hc); try (exfalso; omega))) | with_reducible refine And.intro (by first | omega | (unfold inI; omega)) ?_)
        exact ⟨k + 1, ⟨by omega, by rw [take_snoc hx, take_snoc hy, hJ, he]⟩, by omega, (fits_mk [] (by simp [renL_d, bdL_d, sg, over, wipe, wl, memN, ins, rm, lk, fitFr, fit1, ren, renL, bd, bdL, app, fitHp, hget, renB, bdB] <;> omega))⟩
      · rw [bP_false he]
        repeat' (first | ((with_reducible first | (refine hK _ ?_; clear hK K) | refine stq fun K' hK' => ?_ | refine stc ?_); try simp only [go_sem]) | (with_reducible first | refine stp ?_ | (refine hK' _ ?_; clear hK' K') | refine kN kl13 fun K hK => ?_ | refine kO fun K hK => ?_) | refine iB ?_ | (with_reducible refine pw_seq_drawK kl13 G_ok mixed (by kernel_rfl) (fun K hK => ?_)) | (with_reducible refine pw_draw G_ok mixed (by kernel_rfl) ?_) | (with_reducible refine pK_mk ?_ ?_ <;> (intro hc; (try simp only [go_sem]); (try simp at hc); try (exfalso; omega))) | with_reducible refine And.intro (by first | omega | (unfold inI; omega)) ?_)
        refine retQ_ret rfl rfl (by simp [rowsOf, lk]) ?_; rw [bP_false fun h => by rw [h, hy] at hx; exact he (Option.some.inj hx).symm]
    · repeat' (first | ((with_reducible first | (refine hK _ ?_; clear hK K) | refine stq fun K' hK' => ?_ | refine stc ?_); try simp only [go_sem]) | (with_reducible first | refine stp ?_ | (refine hK' _ ?_; clear hK' K') | refine kN kl13 fun K hK => ?_ | refine kO fun K hK => ?_) | refine iB ?_ | (with_reducible refine pw_seq_drawK kl13 G_ok mixed (by kernel_rfl) (fun K hK => ?_)) | (with_reducible refine pw_draw G_ok mixed (by kernel_rfl) ?_) | (with_reducible refine pK_mk ?_ ?_ <;> (intro hc; (try simp only [go_sem]); (try simp at hc); try (exfalso; omega))) | with_reducible refine And.intro (by first | omega | (unfold inI; omega)) ?_)
      all_goals first
        | (exfalso; omega)
        | (refine retQ_ret rfl rfl (by simp [rowsOf, lk]) ?_; rw [bP_true (by rwa [List.take_of_length_le (by omega), List.take_of_length_le (by omega)] at hJ)])
theorem pSameResults_ok (xs ys : List ResultD) (hn : xs.length ≤ 1048576) (hn' : ys.length ≤ 1048576) (hs : ∀ r ∈ xs, r.scores.length ≤ 1048576) (hs' : ∀ r ∈ ys, r.scores.length ≤ 1048576) : FnEq Tryz.prog 21 [.d (.lst 2 (xs.map ResultD.dat)), .d (.lst 2 (ys.map ResultD.dat))] [.d (.bool (bP (xs = ys)))] := by
  refine fn_ok G_ok Tryz.func21 rfl rfl ?_; simp only [Tryz.ntmps21, List.length_cons, List.length_nil, Nat.reduceAdd, Nat.reduceSub, enm]
  repeat' (first | ((with_reducible first | (refine hK _ ?_; clear hK K) | refine stq fun K' hK' => ?_ | refine stc ?_); try simp only [go_sem]) | (with_reducible first | refine stp ?_ | (refine hK' _ ?_; clear hK' K') | refine kN kl21 fun K hK => ?_ | refine kO fun K hK => ?_) | (refine xS rfl fun K' hK' => ?_; simp only [go_sem]) | (refine qS rfl fun K' hK' => ?_; simp only [go_sem]) | refine iB ?_ | (with_reducible refine pw_seq_drawK kl21 G_ok mixed (by kernel_rfl) (fun K hK => ?_)) | (with_reducible refine pw_draw G_ok mixed (by kernel_rfl) ?_) | (with_reducible refine pK_mk ?_ ?_ <;> (intro hc; (try simp only [go_sem]); (try simp at hc); try (exfalso; omega))) | with_reducible refine And.intro (by first | omega | (unfold inI; omega)) ?_)
  · refine retQ_ret rfl rfl (by simp [rowsOf, lk]) ?_; rw [bP_false fun h => absurd (congrArg List.length h) (by omega)]
  · refine pw_loop_over [4, 5, 13, 14, 15, 16, 17, 18, 19, 20, 21, 22, 23, 24, 25, 26, 27, 28, 29, 30, 31, 32, 33, 34, 35, 36, 37, 38, 39, 40, 41] (fun k : Nat => [(13, .d (.int .i64 (k : Int)))]) (fun k : Nat => []) 0 (fun k : Nat => k ≤ xs.length ∧ xs.take k = ys.take k) (fun k : Nat => xs.length - k) 0 ⟨Nat.zero_le _, by simp⟩ (fits_mk [] (by simp [renL_d, bdL_d, sg, over, wipe, wl, memN, ins, rm, lk, fitFr, fit1, ren, renL, bd, bdL, app, fitHp, hget, renB, bdB] <;> omega)) ?_
    rintro k ⟨hk, hJ⟩
    simp only [over, wipe, wl, memN, ins, rm, if_true, if_false, Nat.reduceEqDiff, Bool.false_eq_true, reduceCtorEq]
    by_cases hlt : k < xs.length
    · have hx := List.getElem?_eq_getElem hlt
      generalize xs[k] = x at hx
      have hy := List.getElem?_eq_getElem (show k < ys.length by omega)
      generalize ys[k] = y at hy
      have hxl := hs x (List.mem_of_getElem? hx)
      have hyl := hs' y (List.mem_of_getElem? hy)
      have hq := sameInts_ok x.scores y.scores hxl hyl
      by_cases h1 : x.skater = y.skater
      · by_cases h2 : x.scores = y.scores
        · have hxy : x = y := by cases x; cases y; simp only [ResultD.mk.injEq]; exact ⟨h1, h2⟩
          rw [bP_true h2] at hq
          repeat' (first | ((with_reducible first | (refine hK _ ?_; clear hK K) | refine stq fun K' hK' => ?_ | refine stc ?_); try simp only [go_sem, List.getElem?_map, hx, hy, Option.map_some, ResultD.dat, h1]) | (with_reducible first | refine stp ?_ | (refine hK' _ ?_; clear hK' K') | refine kN kl21 fun K hK => ?_ | refine kO fun K hK => ?_) | (refine xS rfl fun K' hK' => ?_; simp only [go_sem, List.getElem?_map, hx, hy, Option.map_some, ResultD.dat, h1]) | (refine qS rfl fun K' hK' => ?_; simp only [go_sem, List.getElem?_map, hx, hy, Option.map_some, ResultD.dat, h1]) | ((with_reducible first | apply CallK.eq | apply CallQ.eqs); (· with_reducible first | exact hq); (· first | exact rfl | (simp [RV.flat, D.sc, datI]; done)); try simp only [go_sem, List.getElem?_map, hx, hy, Option.map_some, ResultD.dat, h1]) | refine iB ?_ | (with_reducible refine pw_seq_drawK kl21 G_ok mixed (by kernel_rfl) (fun K hK => ?_)) | (with_reducible refine pw_draw G_ok mixed (by kernel_rfl) ?_) | (with_reducible refine pK_mk ?_ ?_ <;> (intro hc; (try simp only [go_sem, List.getElem?_map, hx, hy, Option.map_some, ResultD.dat, h1]); (try simp at hc); try (exfalso; omega))) | with_reducible refine And.intro (by first | omega | (unfold inI; omega)) ?_)
          all_goals first
            | (exfalso; simp at hc; done)
            | exact ⟨k + 1, ⟨by omega, by rw [take_snoc hx, take_snoc hy, hJ, hxy]⟩, by omega, (fits_mk [] (by simp [renL_d, bdL_d, sg, over, wipe, wl, memN, ins, rm, lk, fitFr, fit1, ren, renL, bd, bdL, app, fitHp, hget, renB, bdB] <;> omega))⟩
        · rw [bP_false h2] at hq
          repeat' (first | ((with_reducible first | (refine hK _ ?_; clear hK K) | refine stq fun K' hK' => ?_ | refine stc ?_); try simp only [go_sem, List.getElem?_map, hx, hy, Option.map_some, ResultD.dat, h1]) | (with_reducible first | refine stp ?_ | (refine hK' _ ?_; clear hK' K') | refine kN kl21 fun K hK => ?_ | refine kO fun K hK => ?_) | (refine xS rfl fun K' hK' => ?_; simp only [go_sem, List.getElem?_map, hx, hy, Option.map_some, ResultD.dat, h1]) | (refine qS rfl fun K' hK' => ?_; simp only [go_sem, List.getElem?_map, hx, hy, Option.map_some, ResultD.dat, h1]) | ((with_reducible first | apply CallK.eq | apply CallQ.eqs); (· with_reducible first | exact hq); (· first | exact rfl | (simp [RV.flat, D.sc, datI]; done)); try simp only [go_sem, List.getElem?_map, hx, hy, Option.map_some, ResultD.dat, h1]) | refine iB ?_ | (with_reducible refine pw_seq_drawK kl21 G_ok mixed (by kernel_rfl) (fun K hK => ?_)) | (with_reducible refine pw_draw G_ok mixed (by kernel_rfl) ?_) | (with_reducible refine pK_mk ?_ ?_ <;> (intro hc; (try simp only [go_sem, List.getElem?_map, hx, hy, Option.map_some, ResultD.dat, h1]); (try simp at hc); try (exfalso; omega))) | with_reducible refine And.intro (by first | omega | (unfold inI; omega)) ?_)
          all_goals first
            | (exfalso; simp at hc; done)
            | (refine retQ_ret rfl rfl (by simp [rowsOf, lk]) ?_; rw [bP_false fun h => by rw [h, hy] at hx; exact h2 (by rw [Option.some.inj hx])])
      · repeat' (first | ((with_reducible first | (refine hK _ ?_; clear hK K) | refine stq fun K' hK' => ?_ | refine stc ?_); try simp only [go_sem, List.getElem?_map, hx, hy, Option.map_some, ResultD.dat, h1]) | (with_reducible first | refine stp ?_ | (refine hK' _ ?_; clear hK' K') | refine kN kl21 fun K hK => ?_ | refine kO fun K hK => ?_) | (refine xS rfl fun K' hK' => ?_; simp only [go_sem, List.getElem?_map, hx, hy, Option.map_some, ResultD.dat, h1]) | (refine qS rfl fun K' hK' => ?_; simp only [go_sem, List.getElem?_map, hx, hy, Option.map_some, ResultD.dat, h1]) | ((with_reducible first | apply CallK.eq | apply CallQ.eqs); (· with_reducible first | exact hq); (· first | exact rfl | (simp [RV.flat, D.sc, datI]; done)); try simp only [go_sem, List.getElem?_map, hx, hy, Option.map_some, ResultD.dat, h1]) | refine iB ?_ | (with_reducible refine pw_seq_drawK kl21 G_ok mixed (by kernel_rfl) (fun K hK => ?_)) | (with_reducible refine pw_draw G_ok mixed (by kernel_rfl) ?_) | (with_reducible refine pK_mk ?_ ?_ <;> (intro hc; (try simp only [go_sem, List.getElem?_map, hx, hy, Option.map_some, ResultD.dat, h1]); (try simp at hc); try (exfalso; omega))) | with_reducible refine And.intro (by first | omega | (unfold inI; omega)) ?_)
        all_goals first
          | (exfalso; simp at hc; done)
          | (refine retQ_ret rfl rfl (by simp [rowsOf, lk]) ?_; rw [bP_false fun h => by rw [h, hy] at hx; exact h1 (by rw [Option.some.inj hx])])
    · repeat' (first | ((with_reducible first | (refine hK _ ?_; clear hK K) | refine stq fun K' hK' => ?_ | refine stc ?_); try simp only [go_sem]) | (with_reducible first | refine stp ?_ | (refine hK' _ ?_; clear hK' K') | refine kN kl21 fun K hK => ?_ | refine kO fun K hK => ?_) | (refine xS rfl fun K' hK' => ?_; simp only [go_sem]) | (refine qS rfl fun K' hK' => ?_; simp only [go_sem]) | refine iB ?_ | (with_reducible refine pw_seq_drawK kl21 G_ok mixed (by kernel_rfl) (fun K hK => ?_)) | (with_reducible refine pw_draw G_ok mixed (by kernel_rfl) ?_) | (with_reducible refine pK_mk ?_ ?_ <;> (intro hc; (try simp only [go_sem]); (try simp at hc); try (exfalso; omega))) | with_reducible refine And.intro (by first | omega | (unfold inI; omega)) ?_)
      refine retQ_ret rfl rfl (by simp [rowsOf, lk]) ?_; rw [bP_true (by rwa [List.take_of_length_le (by omega), List.take_of_length_le (by omega)] at hJ)]
end Go.Proofs.YthocihmhljmgdaaGreatDoor
