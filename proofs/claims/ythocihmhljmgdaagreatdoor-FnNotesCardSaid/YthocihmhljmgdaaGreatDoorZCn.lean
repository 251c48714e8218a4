/-
  Drawn notes and spoilt texts.
-/
import Derived.Test.YthocihmhljmgdaaGreatDoorZMa
import Derived.Test.YthocihmhljmgdaaGreatDoorZNu
import Derived.Test.YthocihmhljmgdaaGreatDoorZMst
set_option linter.unusedSimpArgs false
set_option linter.unusedVariables false
set_option maxHeartbeats 2000000
set_option maxRecDepth 100000
namespace Go.Proofs.YthocihmhljmgdaaGreatDoor
open Go.RowKit

def ndOk (x : NoteD) : Prop := -1 ≤ x.skater ∧ x.skater ≤ 1000 ∧ -1 ≤ x.before ∧ x.before ≤ 3 ∧ -1 ≤ x.inn ∧ x.inn ≤ 1000
def ndL (l : List NoteD) : Prop := l.length ≤ 41 ∧ ∀ x ∈ l, ndOk x
theorem mem_appN {l : List NoteD} {x : NoteD} {p : NoteD → Prop} (h : ∀ y ∈ l, p y) (hx : p x) : ∀ y ∈ l ++ [x], p y := by
  intro y hy
  rcases List.mem_append.1 hy with h1 | h1
  · exact h y h1
  · rw [List.mem_singleton] at h1; rw [h1]; exact hx
theorem setN_mem {l : List NoteD} {i : Nat} {x : NoteD} {p : NoteD → Prop} (h : ∀ y ∈ l, p y) (hx : p x) : ∀ y ∈ l.set i x, p y := fun y hy => (List.mem_or_eq_of_mem_set hy).elim (h y) fun e => e ▸ hx
def skOk (x : Int) : Prop := 0 ≤ x ∧ x ≤ 1000
theorem notes_ok {k : Nat} {cs : List D} {sk : List Int} (hC : Cur k cs) (hk : k ≤ 1000000000) (hl : sk.length ≤ 1048576) (hs : ∀ x ∈ sk, skOk x) : FnC Tryz.prog 57 3 [.lst 1 (sk.map datI)] cs (PostX (k + 100) ndL fun l => [.row 64 3 (l.map NoteD.dat)]) := by
  refine fn_okC G_ok Tryz.func57 rfl rfl hC.len fun ty => ?_; simp only [Tryz.ntmps57, List.length_cons, List.length_nil, Nat.reduceAdd, Nat.reduceSub, List.map_cons, List.map_nil, List.length_map, enm]
  repeat' (first | ((with_reducible first | (refine hK _ ?_; clear hK K) | refine stq fun K' hK' => ?_ | refine stc ?_); try simp only [go_sem]) | (with_reducible first | refine stp ?_ | (refine hK' _ ?_; clear hK' K') | refine kN kl57 fun K hK => ?_ | refine kO fun K hK => ?_) | (refine xS rfl fun K' hK' => ?_; simp only [go_sem]) | refine iB ?_ | (with_reducible refine pK_mk ?_ ?_ <;> (intro hc; (try simp only [go_sem]); (try simp at hc); try (exfalso; omega))) | with_reducible refine And.intro (by first | omega | (unfold inI; omega)) ?_)
  refine CallK.cur (some 0) (pick_ok (by assumption) (by omega)) rfl rfl rfl rfl rfl rfl ?_; rintro c2 _ ⟨x, hx, rfl, hC⟩; try simp only [mkB, go_sem]
  obtain ⟨m, rfl⟩ : ∃ m : Nat, x = m := ⟨x.toNat, by omega⟩
  have hm : m ≤ 4 := by omega
  repeat' (first | ((with_reducible first | (refine hK _ ?_; clear hK K) | refine stq fun K' hK' => ?_ | refine stc ?_); try simp only [go_sem]) | (with_reducible first | refine stp ?_ | (refine hK' _ ?_; clear hK' K') | refine kN kl57 fun K hK => ?_ | refine kO fun K hK => ?_) | (refine xS rfl fun K' hK' => ?_; simp only [go_sem]) | refine iB ?_ | (with_reducible refine pK_mk ?_ ?_ <;> (intro hc; (try simp only [go_sem]); (try simp at hc); try (exfalso; omega))) | with_reducible refine And.intro (by first | omega | (unfold inI; omega)) ?_)
  refine pw_loop_over [4, 5, 6, 7, 8, 13, 14, 15, 16, 17, 18, 19, 20, 21, 22, 23, 24, 25, 26, 27, 28, 29, 30, 31, 32, 33, 34, 35, 36, 37, 38, 39, 40, 41, 42, 43, 44, 45, 46, 47, 48, 49, 50, 51, 52, 53, 54, 55, 56, 57, 58, 59, 60] (fun q : Nat × List NoteD × List D => [(0, .bptr 0 0), (1, .d (.lst 1 (sk.map datI))), (6, .d (.int .i64 (q.1 : Int))), (5, .row 1 q.2.1.length), (7, .und), (8, .und)]) (fun q => [(0, .pbox 0 ty (q.2.2.map .d)), (1, .row 64 3 (q.2.1.map NoteD.dat))]) 7 (fun q => q.1 ≤ m ∧ q.2.1.length + q.1 ≤ m ∧ Cur (k + 2 + 14 * (m - q.1)) q.2.2 ∧ ∀ x ∈ q.2.1, ndOk x) (fun q => q.1) (m, [], c2) ⟨Nat.le_refl _, by simp, hC.mono (by omega), by simp⟩ (fits_mk [] (by simp [renL_d, bdL_d, sg, over, wipe, wl, memN, ins, rm, lk, fitFr, fit1, ren, renL, bd, bdL, app, fitHp, hget, renB, bdB] <;> omega)) ?_
  rintro ⟨j, l, c⟩ ⟨h0, h1, hC, hnd⟩; simp only [over, wipe, wl, memN, ins, rm, if_true, if_false, Nat.reduceEqDiff, Bool.false_eq_true, reduceCtorEq]
  simp only at h0 h1 hC hnd
  by_cases hj : j = 0
  · subst hj
    refine (fun (key : ∀ (q : List NoteD) (c' : List D), ndL q → Cur (k + 70) c' → PW Tryz.prog ?cA ?QA ⟨⟨117, [(0, .bptr 0 0), (5, .row 1 q.length)]⟩, [(0, .pbox 0 ty (c'.map .d)), (1, .row 64 3 (q.map NoteD.dat))], 40⟩) => ?mA) ?kA
    case mA =>
      repeat' (first | with_reducible refine stop_seq (id := 17) ?_ | with_reducible refine stop_one (id := 17) ?_ | ((with_reducible first | (refine hK _ ?_; clear hK K) | refine stq fun K' hK' => ?_ | refine stc ?_); try simp only [go_sem]) | (with_reducible first | refine stp ?_ | (refine hK' _ ?_; clear hK' K') | refine kN kl57 fun K hK => ?_ | refine kO fun K hK => ?_) | (refine xS rfl fun K' hK' => ?_; simp only [go_sem]) | ((first | refine CallK.cur (some 0) (pick_ok (by assumption) (by omega)) rfl rfl rfl rfl rfl rfl ?_ | refine CallK.cur (some 0) (onec_ok (by assumption) (by omega)) rfl rfl rfl rfl rfl rfl ?_); rintro c2 _ ⟨x, hx, rfl, hC⟩; try simp only [mkB, go_sem]) | ((first | refine CallK.cur (some 0) (pick_ok (by assumption) (by omega)) rfl rfl rfl rfl rfl rfl ?_ | refine CallK.cur (some 0) (onec_ok (by assumption) (by omega)) rfl rfl rfl rfl rfl rfl ?_); rintro c2 _ ⟨x, hx, rfl, hC⟩; try simp only [mkB, go_sem]) | refine iB ?_ | (with_reducible refine pK_mk ?_ ?_ <;> (intro hc; (try simp only [go_sem]); (try simp at hc); try (exfalso; omega))) | with_reducible refine And.intro (by first | omega | (unfold inI; omega)) ?_)
      · obtain ⟨N, hN⟩ : ∃ N : Nat, 40 + x = (N : Int) := ⟨(40 + x).toNat, by omega⟩
        have hN41 : N ≤ 41 := by omega
        rw [hN]
        refine pw_loop_over [4, 5, 66, 67, 68, 69, 70, 71, 72, 73, 74, 75, 76] (fun q : List NoteD => [(0, .bptr 0 0), (9, .d (.int .i64 (N : Int))), (5, .row 1 q.length)]) (fun q => [(0, .pbox 0 ty (c2.map .d)), (1, .row 64 3 (q.map NoteD.dat))]) 30 (fun q => ndL q) (fun q => 41 - q.length) l ⟨by omega, hnd⟩ (fits_mk [] (by simp [renL_d, bdL_d, sg, over, wipe, wl, memN, ins, rm, lk, fitFr, fit1, ren, renL, bd, bdL, app, fitHp, hget, renB, bdB] <;> omega)) ?_
        rintro q ⟨h2, hq⟩; simp only [over, wipe, wl, memN, ins, rm, if_true, if_false, Nat.reduceEqDiff, Bool.false_eq_true, reduceCtorEq]
        by_cases hlt : (q.length : Int) < (N : Int)
        · repeat' (first | ((with_reducible first | (refine hK _ ?_; clear hK K) | refine stq fun K' hK' => ?_ | refine stc ?_); try simp only [go_sem, hlt]) | (with_reducible first | refine stp ?_ | (refine hK' _ ?_; clear hK' K') | refine kN kl57 fun K hK => ?_ | refine kO fun K hK => ?_) | (refine xS rfl fun K' hK' => ?_; simp only [go_sem, hlt]) | refine iB ?_ | (with_reducible refine pK_mk ?_ ?_ <;> (intro hc; (try simp only [go_sem, hlt]); (try simp at hc); try (exfalso; omega))) | with_reducible refine And.intro (by first | omega | (unfold inI; omega)) ?_)
          all_goals first
            | (exfalso; omega)
            | exact ⟨q ++ [⟨800 + (q.length : Int), 2, 0⟩], ⟨by simp; omega, mem_appN hq (by unfold ndOk; simp only; omega)⟩, by simp; omega, (fits_mk [] (by simp [renL_d, bdL_d, sg, over, wipe, wl, memN, ins, rm, lk, fitFr, fit1, ren, renL, bd, bdL, app, fitHp, hget, renB, bdB, NoteD.dat] <;> omega))⟩
        · repeat' (first | with_reducible refine stop_seq (id := 17) ?_ | with_reducible refine stop_one (id := 17) ?_ | ((with_reducible first | (refine hK _ ?_; clear hK K) | refine stq fun K' hK' => ?_ | refine stc ?_); try simp only [go_sem, hlt]) | (with_reducible first | refine stp ?_ | (refine hK' _ ?_; clear hK' K') | refine kN kl57 fun K hK => ?_ | refine kO fun K hK => ?_) | (refine xS rfl fun K' hK' => ?_; simp only [go_sem, hlt]) | refine iB ?_ | (with_reducible refine pK_mk ?_ ?_ <;> (intro hc; (try simp only [go_sem, hlt]); (try simp at hc); try (exfalso; omega))) | with_reducible refine And.intro (by first | omega | (unfold inI; omega)) ?_)
          unfold Stop
          have h := key q c2 ⟨h2, hq⟩ (hC.mono (by omega))
          refine pw_fits (s0 := ⟨⟨117, [(0, .bptr 0 0), (5, .row 1 q.length)]⟩, [(0, .pbox 0 ty (c2.map .d)), (1, .row 64 3 (q.map NoteD.dat))], 40⟩) (fits_mk [] (by simp [renL_d, bdL_d, sg, over, wipe, wl, memN, ins, rm, lk, fitFr, fit1, ren, renL, bd, bdL, app, fitHp, hget, renB, bdB] <;> omega)) ?_
          exact h
      · unfold Stop
        have h := key l c2 ⟨by omega, hnd⟩ (hC.mono (by omega))
        refine pw_fits (s0 := ⟨⟨117, [(0, .bptr 0 0), (5, .row 1 l.length)]⟩, [(0, .pbox 0 ty (c2.map .d)), (1, .row 64 3 (l.map NoteD.dat))], 40⟩) (fits_mk [] (by simp [renL_d, bdL_d, sg, over, wipe, wl, memN, ins, rm, lk, fitFr, fit1, ren, renL, bd, bdL, app, fitHp, hget, renB, bdB] <;> omega)) ?_
        exact h
    case kA =>
      clear hC hnd
      rintro q c' ⟨hq41, hq⟩ hC
      by_cases hq0 : 0 < q.length
      · have hq0' : 0 < (q.length : Int) := by omega
        repeat' (first | ((with_reducible first | (refine hK _ ?_; clear hK K) | refine stq fun K' hK' => ?_ | refine stc ?_); try simp only [go_sem, hq0']) | (with_reducible first | refine stp ?_ | (refine hK' _ ?_; clear hK' K') | refine kN kl57 fun K hK => ?_ | refine kO fun K hK => ?_) | (refine xS rfl fun K' hK' => ?_; simp only [go_sem, hq0']) | ((first | refine CallK.cur (some 0) (pick_ok (by assumption) (by omega)) rfl rfl rfl rfl rfl rfl ?_); rintro c2 _ ⟨x, hx, rfl, hC⟩; try simp only [mkB, go_sem, hq0']) | ((first | refine CallK.cur (some 0) (pick_ok (by assumption) (by omega)) rfl rfl rfl rfl rfl rfl ?_); rintro c2 _ ⟨x, hx, rfl, hC⟩; try simp only [mkB, go_sem, hq0']) | refine iB ?_ | (with_reducible refine pK_mk ?_ ?_ <;> (intro hc; (try simp only [go_sem, hq0']); (try simp at hc); try (exfalso; omega))) | with_reducible refine And.intro (by first | omega | (unfold inI; omega)) ?_)
        obtain ⟨i, rfl⟩ : ∃ i : Nat, x = i := ⟨x.toNat, by omega⟩
        have hil : i < q.length := by omega
        have hi := List.getElem?_eq_getElem hil
        have hei := hq _ (List.getElem_mem hil)
        generalize q[i] = e at hi hei
        have hei2 := hei
        unfold ndOk at hei2
        have hset1 : ∀ a : Int, (q.map NoteD.dat).set i [.int .i64 a, .int .i64 e.before, .int .i64 e.inn] = (q.set i ⟨a, e.before, e.inn⟩).map NoteD.dat := by intro a; rw [List.map_set]; rfl
        have hset2 : ∀ a : Int, (q.map NoteD.dat).set i [.int .i64 e.skater, .int .i64 a, .int .i64 e.inn] = (q.set i ⟨e.skater, a, e.inn⟩).map NoteD.dat := by intro a; rw [List.map_set]; rfl
        have hset3 : ∀ a : Int, (q.map NoteD.dat).set i [.int .i64 e.skater, .int .i64 e.before, .int .i64 a] = (q.set i ⟨e.skater, e.before, a⟩).map NoteD.dat := by intro a; rw [List.map_set]; rfl
        simp only [Int.toNat_natCast, hil, if_true]
        repeat' (first | ((with_reducible first | (refine hK _ ?_; clear hK K) | refine stq fun K' hK' => ?_ | refine stc ?_); try simp only [go_sem, hil, List.getElem?_map, hi, Option.map_some, NoteD.dat]) | (with_reducible first | refine stp ?_ | (refine hK' _ ?_; clear hK' K') | refine kN kl57 fun K hK => ?_ | refine kO fun K hK => ?_) | (refine xS rfl fun K' hK' => ?_; simp only [go_sem, hil, List.getElem?_map, hi, Option.map_some, NoteD.dat]) | ((first | refine CallK.cur (some 0) (pick_ok (by assumption) (by omega)) rfl rfl rfl rfl rfl rfl ?_ | refine CallK.cur (some 0) (among_ok (l := [0, 999, 1000]) (by assumption) (by omega) (by simp) (by simp)) rfl rfl rfl rfl rfl rfl ?_ | refine CallK.cur (some 0) (among_ok (l := [-1, 2, 3]) (by assumption) (by omega) (by simp) (by simp)) rfl rfl rfl rfl rfl rfl ?_ | refine CallK.cur (some 0) (among_ok (l := [-1, 999, 1000, e.skater]) (by assumption) (by omega) (by simp) (by simp)) rfl rfl rfl rfl rfl rfl ?_); rintro c2 _ ⟨x, hx, rfl, hC⟩; try simp only [mkB, go_sem, hil, List.getElem?_map, hi, Option.map_some, NoteD.dat]) | ((first | refine CallK.cur (some 0) (pick_ok (by assumption) (by omega)) rfl rfl rfl rfl rfl rfl ?_ | refine CallK.cur (some 0) (among_ok (l := [0, 999, 1000]) (by assumption) (by omega) (by simp) (by simp)) rfl rfl rfl rfl rfl rfl ?_ | refine CallK.cur (some 0) (among_ok (l := [-1, 2, 3]) (by assumption) (by omega) (by simp) (by simp)) rfl rfl rfl rfl rfl rfl ?_ | refine CallK.cur (some 0) (among_ok (l := [-1, 999, 1000, e.skater]) (by assumption) (by omega) (by simp) (by simp)) rfl rfl rfl rfl rfl rfl ?_); rintro c2 _ ⟨x, hx, rfl, hC⟩; try simp only [mkB, go_sem, hil, List.getElem?_map, hi, Option.map_some, NoteD.dat]) | refine iB ?_ | (with_reducible refine pK_mk ?_ ?_ <;> (intro hc; (try simp only [go_sem, hil, List.getElem?_map, hi, Option.map_some, NoteD.dat]); (try simp at hc); try (exfalso; omega))) | with_reducible refine And.intro (by first | omega | (unfold inI; omega)) ?_)
        · simp at hx
          refine retC_ret (id := 0) _ rfl (by simp only [retL, ret1, hget, lk, List.length_map, List.length_nil, List.length_append, List.length_take, List.length_cons, if_true, if_false, Nat.reduceEqDiff, Nat.reduceBEq, Bool.false_eq_true, Option.some.injEq, hset1, List.length_set]; rfl) (by simp [rowsOf, lk]) rfl (Cur.len (by assumption)) ⟨q.set i ⟨x, e.before, e.inn⟩, ?_, (by simp [datI, hset1, List.length_set]), Cur.mono (by assumption) (by omega)⟩
          exact ⟨by simp; omega, setN_mem hq (by unfold ndOk; simp only; omega)⟩
        · simp at hx
          refine retC_ret (id := 0) _ rfl (by simp only [retL, ret1, hget, lk, List.length_map, List.length_nil, List.length_append, List.length_take, List.length_cons, if_true, if_false, Nat.reduceEqDiff, Nat.reduceBEq, Bool.false_eq_true, Option.some.injEq, hset2, List.length_set]; rfl) (by simp [rowsOf, lk]) rfl (Cur.len (by assumption)) ⟨q.set i ⟨e.skater, x, e.inn⟩, ?_, (by simp [datI, hset2, List.length_set]), Cur.mono (by assumption) (by omega)⟩
          exact ⟨by simp; omega, setN_mem hq (by unfold ndOk; simp only; omega)⟩
        · simp at hx
          refine retC_ret (id := 0) _ rfl (by simp only [retL, ret1, hget, lk, List.length_map, List.length_nil, List.length_append, List.length_take, List.length_cons, if_true, if_false, Nat.reduceEqDiff, Nat.reduceBEq, Bool.false_eq_true, Option.some.injEq, hset3, List.length_set]; rfl) (by simp [rowsOf, lk]) rfl (Cur.len (by assumption)) ⟨q.set i ⟨e.skater, e.before, x⟩, ?_, (by simp [datI, hset3, List.length_set]), Cur.mono (by assumption) (by omega)⟩
          exact ⟨by simp; omega, setN_mem hq (by unfold ndOk; simp only; omega)⟩
        · refine retC_ret (id := 0) _ rfl (by simp only [retL, ret1, hget, lk, List.length_map, List.length_nil, List.length_append, List.length_take, List.length_cons, if_true, if_false, Nat.reduceEqDiff, Nat.reduceBEq, Bool.false_eq_true, Option.some.injEq]; rfl) (by simp [rowsOf, lk]) rfl (Cur.len (by assumption)) ⟨q, ?_, (by simp [datI]), Cur.mono (by assumption) (by omega)⟩
          exact ⟨hq41, hq⟩
      · have hq0' : ¬ 0 < (q.length : Int) := by omega
        repeat' (first | ((with_reducible first | (refine hK _ ?_; clear hK K) | refine stq fun K' hK' => ?_ | refine stc ?_); try simp only [go_sem, hq0']) | (with_reducible first | refine stp ?_ | (refine hK' _ ?_; clear hK' K') | refine kN kl57 fun K hK => ?_ | refine kO fun K hK => ?_) | (refine xS rfl fun K' hK' => ?_; simp only [go_sem, hq0']) | refine iB ?_ | (with_reducible refine pK_mk ?_ ?_ <;> (intro hc; (try simp only [go_sem, hq0']); (try simp at hc); try (exfalso; omega))) | with_reducible refine And.intro (by first | omega | (unfold inI; omega)) ?_)
        refine retC_ret (id := 0) _ rfl (by simp only [retL, ret1, hget, lk, List.length_map, List.length_nil, List.length_append, List.length_take, List.length_cons, if_true, if_false, Nat.reduceEqDiff, Nat.reduceBEq, Bool.false_eq_true, Option.some.injEq]; rfl) (by simp [rowsOf, lk]) rfl (Cur.len (by assumption)) ⟨q, ?_, (by simp [datI]), Cur.mono (by assumption) (by omega)⟩
        exact ⟨hq41, hq⟩
  · have hjp : 0 < (j : Int) := by omega
    have hj' : (j : Int) - 1 = ((j - 1 : Nat) : Int) := by omega
    repeat' (first | with_reducible refine stop_seq (id := 6) ?_ | with_reducible refine stop_one (id := 6) ?_ | ((with_reducible first | (refine hK _ ?_; clear hK K) | refine stq fun K' hK' => ?_ | refine stc ?_); try simp only [go_sem, hjp]) | (with_reducible first | refine stp ?_ | (refine hK' _ ?_; clear hK' K') | refine kN kl57 fun K hK => ?_ | refine kO fun K hK => ?_) | (refine xS rfl fun K' hK' => ?_; simp only [go_sem, hjp]) | ((first | refine CallK.cur (some 0) (pick_ok (by assumption) (by omega)) rfl rfl rfl rfl rfl rfl ?_ | refine CallK.cur (some 0) (onec_ok (by assumption) (by omega)) rfl rfl rfl rfl rfl rfl ?_); rintro c2 _ ⟨x, hx, rfl, hC⟩; try simp only [mkB, go_sem, hjp]) | ((first | refine CallK.cur (some 0) (pick_ok (by assumption) (by omega)) rfl rfl rfl rfl rfl rfl ?_ | refine CallK.cur (some 0) (onec_ok (by assumption) (by omega)) rfl rfl rfl rfl rfl rfl ?_); rintro c2 _ ⟨x, hx, rfl, hC⟩; try simp only [mkB, go_sem, hjp]) | refine iB ?_ | (with_reducible refine pK_mk ?_ ?_ <;> (intro hc; (try simp only [go_sem, hjp]); (try simp at hc); try (exfalso; omega))) | with_reducible refine And.intro (by first | omega | (unfold inI; omega)) ?_)
    unfold Stop
    rename_i _ p0 hp0 _
    obtain ⟨q0, hq0⟩ : ∃ q, q = x := ⟨x, rfl⟩
    have hqb := hx
    rw [← hq0] at hqb ⊢
    clear hq0 hx
    have hsk : ∀ i : Nat, i < sk.length → ∃ u, sk[i]? = some u ∧ skOk u := fun i hi => ⟨_, List.getElem?_eq_getElem hi, hs _ (List.getElem_mem hi)⟩
    refine (fun (key : ∀ (a b d : Int) (c' : List D), 0 ≤ a ∧ a ≤ 1000 → 0 ≤ b ∧ b ≤ 2 → 0 ≤ d ∧ d ≤ 999 → Cur (k + 2 + 14 * (m - j) + 12) c' → PW Tryz.prog ?c ?Q ⟨⟨117, [(0, .bptr 0 0), (1, .d (.lst 1 (sk.map datI))), (6, .d (.int .i64 (j : Int))), (5, .row 1 l.length), (7, .bptr 2 0)]⟩, [(0, .pbox 0 ty (c'.map .d)), (1, .row 64 3 (l.map NoteD.dat)), (2, .box 64 [.d (.int .i64 a), .d (.int .i64 b), .d (.int .i64 d)])], 40⟩) => ?m) ?k
    case m =>
      by_cases hs0 : 0 < sk.length
      · have hs0' : 0 < (sk.length : Int) := by omega
        repeat' (first | with_reducible refine stop_seq (id := 7) ?_ | with_reducible refine stop_one (id := 7) ?_ | with_reducible refine stop_seq (id := 8) ?_ | with_reducible refine stop_one (id := 8) ?_ | ((with_reducible first | (refine hK _ ?_; clear hK K) | refine stq fun K' hK' => ?_ | refine stc ?_); try simp only [go_sem, hs0']) | (with_reducible first | refine stp ?_ | (refine hK' _ ?_; clear hK' K') | refine kN kl57 fun K hK => ?_ | refine kO fun K hK => ?_) | (refine xS rfl fun K' hK' => ?_; simp only [go_sem, hs0']) | ((first | refine CallK.cur (some 0) (pick_ok (by assumption) (by omega)) rfl rfl rfl rfl rfl rfl ?_ | refine CallK.cur (some 0) (onec_ok (by assumption) (by omega)) rfl rfl rfl rfl rfl rfl ?_); rintro c2 _ ⟨x, hx, rfl, hC⟩; try simp only [mkB, go_sem, hs0']) | ((first | refine CallK.cur (some 0) (pick_ok (by assumption) (by omega)) rfl rfl rfl rfl rfl rfl ?_ | refine CallK.cur (some 0) (onec_ok (by assumption) (by omega)) rfl rfl rfl rfl rfl rfl ?_); rintro c2 _ ⟨x, hx, rfl, hC⟩; try simp only [mkB, go_sem, hs0']) | refine iB ?_ | (with_reducible refine pK_mk ?_ ?_ <;> (intro hc; (try simp only [go_sem, hs0']); (try simp at hc); try (exfalso; omega))) | with_reducible refine And.intro (by first | omega | (unfold inI; omega)) ?_)
        · unfold Stop
          repeat' (first | ((with_reducible first | (refine hK _ ?_; clear hK K) | refine stq fun K' hK' => ?_ | refine stc ?_); try simp only [go_sem]) | (with_reducible first | refine stp ?_ | (refine hK' _ ?_; clear hK' K') | refine kN kl57 fun K hK => ?_ | refine kO fun K hK => ?_) | (refine xS rfl fun K' hK' => ?_; simp only [go_sem]) | ((first | refine CallK.cur (some 0) (pick_ok (by assumption) (by omega)) rfl rfl rfl rfl rfl rfl ?_); rintro c2 _ ⟨x, hx, rfl, hC⟩; try simp only [mkB, go_sem]) | ((first | refine CallK.cur (some 0) (pick_ok (by assumption) (by omega)) rfl rfl rfl rfl rfl rfl ?_); rintro c2 _ ⟨x, hx, rfl, hC⟩; try simp only [mkB, go_sem]) | refine iB ?_ | (with_reducible refine pK_mk ?_ ?_ <;> (intro hc; (try simp only [go_sem]); (try simp at hc); try (exfalso; omega))) | with_reducible refine And.intro (by first | omega | (unfold inI; omega)) ?_)
          obtain ⟨i, rfl⟩ : ∃ i : Nat, x = i := ⟨x.toNat, by omega⟩
          obtain ⟨u, hu, hub⟩ := hsk i (by omega)
          unfold skOk at hub
          simp only [Int.toNat_natCast, List.getElem?_map, hu, Option.map_some, datI]
          repeat' (first | with_reducible refine stop_seq (id := 10) ?_ | with_reducible refine stop_one (id := 10) ?_ | ((with_reducible first | (refine hK _ ?_; clear hK K) | refine stq fun K' hK' => ?_ | refine stc ?_); try simp only [go_sem]) | (with_reducible first | refine stp ?_ | (refine hK' _ ?_; clear hK' K') | refine kN kl57 fun K hK => ?_ | refine kO fun K hK => ?_) | (refine xS rfl fun K' hK' => ?_; simp only [go_sem]) | ((first | refine CallK.cur (some 0) (pick_ok (by assumption) (by omega)) rfl rfl rfl rfl rfl rfl ?_ | refine CallK.cur (some 0) (onec_ok (by assumption) (by omega)) rfl rfl rfl rfl rfl rfl ?_); rintro c2 _ ⟨x, hx, rfl, hC⟩; try simp only [mkB, go_sem]) | ((first | refine CallK.cur (some 0) (pick_ok (by assumption) (by omega)) rfl rfl rfl rfl rfl rfl ?_ | refine CallK.cur (some 0) (onec_ok (by assumption) (by omega)) rfl rfl rfl rfl rfl rfl ?_); rintro c2 _ ⟨x, hx, rfl, hC⟩; try simp only [mkB, go_sem]) | refine iB ?_ | (with_reducible refine pK_mk ?_ ?_ <;> (intro hc; (try simp only [go_sem]); (try simp at hc); try (exfalso; omega))) | with_reducible refine And.intro (by first | omega | (unfold inI; omega)) ?_)
          · unfold Stop
            obtain ⟨A, hA⟩ : ∃ A : Int, A = u := ⟨_, rfl⟩
            obtain ⟨B, hB⟩ : ∃ B : Int, B = q0 := ⟨_, rfl⟩
            obtain ⟨E, hE⟩ : ∃ E : Int, E = 700 + x := ⟨_, rfl⟩
            have h := key A B E c2 (by omega) (by omega) (by omega) (hC.mono (by omega))
            refine pw_fits (s0 := ⟨⟨117, [(0, .bptr 0 0), (1, .d (.lst 1 (sk.map datI))), (6, .d (.int .i64 (j : Int))), (5, .row 1 l.length), (7, .bptr 2 0)]⟩, [(0, .pbox 0 ty (c2.map .d)), (1, .row 64 3 (l.map NoteD.dat)), (2, .box 64 [.d (.int .i64 A), .d (.int .i64 B), .d (.int .i64 E)])], 40⟩) (fits_mk [] (by simp [renL_d, bdL_d, sg, over, wipe, wl, memN, ins, rm, lk, fitFr, fit1, ren, renL, bd, bdL, app, fitHp, hget, renB, bdB, hA, hB, hE] <;> omega)) ?_
            exact h
          · unfold Stop
            obtain ⟨A, hA⟩ : ∃ A : Int, A = u := ⟨_, rfl⟩
            obtain ⟨B, hB⟩ : ∃ B : Int, B = q0 := ⟨_, rfl⟩
            obtain ⟨E, hE⟩ : ∃ E : Int, E = 0 := ⟨_, rfl⟩
            have h := key A B E c2 (by omega) (by omega) (by omega) (hC.mono (by omega))
            refine pw_fits (s0 := ⟨⟨117, [(0, .bptr 0 0), (1, .d (.lst 1 (sk.map datI))), (6, .d (.int .i64 (j : Int))), (5, .row 1 l.length), (7, .bptr 2 0)]⟩, [(0, .pbox 0 ty (c2.map .d)), (1, .row 64 3 (l.map NoteD.dat)), (2, .box 64 [.d (.int .i64 A), .d (.int .i64 B), .d (.int .i64 E)])], 40⟩) (fits_mk [] (by simp [renL_d, bdL_d, sg, over, wipe, wl, memN, ins, rm, lk, fitFr, fit1, ren, renL, bd, bdL, app, fitHp, hget, renB, bdB, hA, hB, hE] <;> omega)) ?_
            exact h
          · unfold Stop
            obtain ⟨A, hA⟩ : ∃ A : Int, A = u := ⟨_, rfl⟩
            obtain ⟨B, hB⟩ : ∃ B : Int, B = q0 := ⟨_, rfl⟩
            obtain ⟨E, hE⟩ : ∃ E : Int, E = 0 := ⟨_, rfl⟩
            have h := key A B E c2 (by omega) (by omega) (by omega) (hC.mono (by omega))
            refine pw_fits (s0 := ⟨⟨117, [(0, .bptr 0 0), (1, .d (.lst 1 (sk.map datI))), (6, .d (.int .i64 (j : Int))), (5, .row 1 l.length), (7, .bptr 2 0)]⟩, [(0, .pbox 0 ty (c2.map .d)), (1, .row 64 3 (l.map NoteD.dat)), (2, .box 64 [.d (.int .i64 A), .d (.int .i64 B), .d (.int .i64 E)])], 40⟩) (fits_mk [] (by simp [renL_d, bdL_d, sg, over, wipe, wl, memN, ins, rm, lk, fitFr, fit1, ren, renL, bd, bdL, app, fitHp, hget, renB, bdB, hA, hB, hE] <;> omega)) ?_
            exact h
        · unfold Stop
          repeat' (first | with_reducible refine stop_seq (id := 10) ?_ | with_reducible refine stop_one (id := 10) ?_ | ((with_reducible first | (refine hK _ ?_; clear hK K) | refine stq fun K' hK' => ?_ | refine stc ?_); try simp only [go_sem]) | (with_reducible first | refine stp ?_ | (refine hK' _ ?_; clear hK' K') | refine kN kl57 fun K hK => ?_ | refine kO fun K hK => ?_) | (refine xS rfl fun K' hK' => ?_; simp only [go_sem]) | ((first | refine CallK.cur (some 0) (pick_ok (by assumption) (by omega)) rfl rfl rfl rfl rfl rfl ?_ | refine CallK.cur (some 0) (onec_ok (by assumption) (by omega)) rfl rfl rfl rfl rfl rfl ?_); rintro c2 _ ⟨x, hx, rfl, hC⟩; try simp only [mkB, go_sem]) | ((first | refine CallK.cur (some 0) (pick_ok (by assumption) (by omega)) rfl rfl rfl rfl rfl rfl ?_ | refine CallK.cur (some 0) (onec_ok (by assumption) (by omega)) rfl rfl rfl rfl rfl rfl ?_); rintro c2 _ ⟨x, hx, rfl, hC⟩; try simp only [mkB, go_sem]) | refine iB ?_ | (with_reducible refine pK_mk ?_ ?_ <;> (intro hc; (try simp only [go_sem]); (try simp at hc); try (exfalso; omega))) | with_reducible refine And.intro (by first | omega | (unfold inI; omega)) ?_)
          · unfold Stop
            obtain ⟨A, hA⟩ : ∃ A : Int, A = 1 + p0 := ⟨_, rfl⟩
            obtain ⟨B, hB⟩ : ∃ B : Int, B = q0 := ⟨_, rfl⟩
            obtain ⟨E, hE⟩ : ∃ E : Int, E = 700 + x := ⟨_, rfl⟩
            have h := key A B E c2 (by omega) (by omega) (by omega) (hC.mono (by omega))
            refine pw_fits (s0 := ⟨⟨117, [(0, .bptr 0 0), (1, .d (.lst 1 (sk.map datI))), (6, .d (.int .i64 (j : Int))), (5, .row 1 l.length), (7, .bptr 2 0)]⟩, [(0, .pbox 0 ty (c2.map .d)), (1, .row 64 3 (l.map NoteD.dat)), (2, .box 64 [.d (.int .i64 A), .d (.int .i64 B), .d (.int .i64 E)])], 40⟩) (fits_mk [] (by simp [renL_d, bdL_d, sg, over, wipe, wl, memN, ins, rm, lk, fitFr, fit1, ren, renL, bd, bdL, app, fitHp, hget, renB, bdB, hA, hB, hE] <;> omega)) ?_
            exact h
          · unfold Stop
            obtain ⟨A, hA⟩ : ∃ A : Int, A = 1 + p0 := ⟨_, rfl⟩
            obtain ⟨B, hB⟩ : ∃ B : Int, B = q0 := ⟨_, rfl⟩
            obtain ⟨E, hE⟩ : ∃ E : Int, E = 0 := ⟨_, rfl⟩
            have h := key A B E c2 (by omega) (by omega) (by omega) (hC.mono (by omega))
            refine pw_fits (s0 := ⟨⟨117, [(0, .bptr 0 0), (1, .d (.lst 1 (sk.map datI))), (6, .d (.int .i64 (j : Int))), (5, .row 1 l.length), (7, .bptr 2 0)]⟩, [(0, .pbox 0 ty (c2.map .d)), (1, .row 64 3 (l.map NoteD.dat)), (2, .box 64 [.d (.int .i64 A), .d (.int .i64 B), .d (.int .i64 E)])], 40⟩) (fits_mk [] (by simp [renL_d, bdL_d, sg, over, wipe, wl, memN, ins, rm, lk, fitFr, fit1, ren, renL, bd, bdL, app, fitHp, hget, renB, bdB, hA, hB, hE] <;> omega)) ?_
            exact h
          · unfold Stop
            obtain ⟨A, hA⟩ : ∃ A : Int, A = 1 + p0 := ⟨_, rfl⟩
            obtain ⟨B, hB⟩ : ∃ B : Int, B = q0 := ⟨_, rfl⟩
            obtain ⟨E, hE⟩ : ∃ E : Int, E = 0 := ⟨_, rfl⟩
            have h := key A B E c2 (by omega) (by omega) (by omega) (hC.mono (by omega))
            refine pw_fits (s0 := ⟨⟨117, [(0, .bptr 0 0), (1, .d (.lst 1 (sk.map datI))), (6, .d (.int .i64 (j : Int))), (5, .row 1 l.length), (7, .bptr 2 0)]⟩, [(0, .pbox 0 ty (c2.map .d)), (1, .row 64 3 (l.map NoteD.dat)), (2, .box 64 [.d (.int .i64 A), .d (.int .i64 B), .d (.int .i64 E)])], 40⟩) (fits_mk [] (by simp [renL_d, bdL_d, sg, over, wipe, wl, memN, ins, rm, lk, fitFr, fit1, ren, renL, bd, bdL, app, fitHp, hget, renB, bdB, hA, hB, hE] <;> omega)) ?_
            exact h
      · have hs0' : ¬ 0 < (sk.length : Int) := by omega
        repeat' (first | with_reducible refine stop_seq (id := 10) ?_ | with_reducible refine stop_one (id := 10) ?_ | ((with_reducible first | (refine hK _ ?_; clear hK K) | refine stq fun K' hK' => ?_ | refine stc ?_); try simp only [go_sem, hs0']) | (with_reducible first | refine stp ?_ | (refine hK' _ ?_; clear hK' K') | refine kN kl57 fun K hK => ?_ | refine kO fun K hK => ?_) | (refine xS rfl fun K' hK' => ?_; simp only [go_sem, hs0']) | ((first | refine CallK.cur (some 0) (pick_ok (by assumption) (by omega)) rfl rfl rfl rfl rfl rfl ?_ | refine CallK.cur (some 0) (onec_ok (by assumption) (by omega)) rfl rfl rfl rfl rfl rfl ?_); rintro c2 _ ⟨x, hx, rfl, hC⟩; try simp only [mkB, go_sem, hs0']) | ((first | refine CallK.cur (some 0) (pick_ok (by assumption) (by omega)) rfl rfl rfl rfl rfl rfl ?_ | refine CallK.cur (some 0) (onec_ok (by assumption) (by omega)) rfl rfl rfl rfl rfl rfl ?_); rintro c2 _ ⟨x, hx, rfl, hC⟩; try simp only [mkB, go_sem, hs0']) | refine iB ?_ | (with_reducible refine pK_mk ?_ ?_ <;> (intro hc; (try simp only [go_sem, hs0']); (try simp at hc); try (exfalso; omega))) | with_reducible refine And.intro (by first | omega | (unfold inI; omega)) ?_)
        · unfold Stop
          obtain ⟨A, hA⟩ : ∃ A : Int, A = 1 + p0 := ⟨_, rfl⟩
          obtain ⟨B, hB⟩ : ∃ B : Int, B = q0 := ⟨_, rfl⟩
          obtain ⟨E, hE⟩ : ∃ E : Int, E = 700 + x := ⟨_, rfl⟩
          have h := key A B E c2 (by omega) (by omega) (by omega) (hC.mono (by omega))
          refine pw_fits (s0 := ⟨⟨117, [(0, .bptr 0 0), (1, .d (.lst 1 (sk.map datI))), (6, .d (.int .i64 (j : Int))), (5, .row 1 l.length), (7, .bptr 2 0)]⟩, [(0, .pbox 0 ty (c2.map .d)), (1, .row 64 3 (l.map NoteD.dat)), (2, .box 64 [.d (.int .i64 A), .d (.int .i64 B), .d (.int .i64 E)])], 40⟩) (fits_mk [] (by simp [renL_d, bdL_d, sg, over, wipe, wl, memN, ins, rm, lk, fitFr, fit1, ren, renL, bd, bdL, app, fitHp, hget, renB, bdB, hA, hB, hE] <;> omega)) ?_
          exact h
        · unfold Stop
          obtain ⟨A, hA⟩ : ∃ A : Int, A = 1 + p0 := ⟨_, rfl⟩
          obtain ⟨B, hB⟩ : ∃ B : Int, B = q0 := ⟨_, rfl⟩
          obtain ⟨E, hE⟩ : ∃ E : Int, E = 0 := ⟨_, rfl⟩
          have h := key A B E c2 (by omega) (by omega) (by omega) (hC.mono (by omega))
          refine pw_fits (s0 := ⟨⟨117, [(0, .bptr 0 0), (1, .d (.lst 1 (sk.map datI))), (6, .d (.int .i64 (j : Int))), (5, .row 1 l.length), (7, .bptr 2 0)]⟩, [(0, .pbox 0 ty (c2.map .d)), (1, .row 64 3 (l.map NoteD.dat)), (2, .box 64 [.d (.int .i64 A), .d (.int .i64 B), .d (.int .i64 E)])], 40⟩) (fits_mk [] (by simp [renL_d, bdL_d, sg, over, wipe, wl, memN, ins, rm, lk, fitFr, fit1, ren, renL, bd, bdL, app, fitHp, hget, renB, bdB, hA, hB, hE] <;> omega)) ?_
          exact h
        · unfold Stop
          obtain ⟨A, hA⟩ : ∃ A : Int, A = 1 + p0 := ⟨_, rfl⟩
          obtain ⟨B, hB⟩ : ∃ B : Int, B = q0 := ⟨_, rfl⟩
          obtain ⟨E, hE⟩ : ∃ E : Int, E = 0 := ⟨_, rfl⟩
          have h := key A B E c2 (by omega) (by omega) (by omega) (hC.mono (by omega))
          refine pw_fits (s0 := ⟨⟨117, [(0, .bptr 0 0), (1, .d (.lst 1 (sk.map datI))), (6, .d (.int .i64 (j : Int))), (5, .row 1 l.length), (7, .bptr 2 0)]⟩, [(0, .pbox 0 ty (c2.map .d)), (1, .row 64 3 (l.map NoteD.dat)), (2, .box 64 [.d (.int .i64 A), .d (.int .i64 B), .d (.int .i64 E)])], 40⟩) (fits_mk [] (by simp [renL_d, bdL_d, sg, over, wipe, wl, memN, ins, rm, lk, fitFr, fit1, ren, renL, bd, bdL, app, fitHp, hget, renB, bdB, hA, hB, hE] <;> omega)) ?_
          exact h
    case k =>
      clear hC hsk
      intro a b d c' ha hb hd hC'
      have hL : (l.map NoteD.dat).length = l.length := by simp
      have hap : l.map NoteD.dat ++ [[.int .i64 a, .int .i64 b, .int .i64 d]] = (l ++ [(⟨a, b, d⟩ : NoteD)]).map NoteD.dat := by rw [List.map_append]; rfl
      have hln : (l ++ [(⟨a, b, d⟩ : NoteD)]).length = l.length + 1 := by simp
      have hq := wdGood_ok (l ++ [⟨a, b, d⟩]) (by rw [hln]; omega)
      have hnd2 : ∀ x ∈ l ++ [(⟨a, b, d⟩ : NoteD)], ndOk x := mem_appN hnd (by unfold ndOk; simp only; omega)
      generalize hgq : l ++ [(⟨a, b, d⟩ : NoteD)] = q at hap hln hq hnd2
      refine pw_seq (pw_region ?_)
      refine exec_sound G_ok ?_
      simp only [go_sem]
      refine exec_sound G_ok ?_
      simp only [go_sem]
      refine exec_sound G_ok ?_
      simp only [go_sem]
      refine po_tryappend (id := 1) (sz := 3) (fs := [[.int .i64 a, .int .i64 b, .int .i64 d]]) rfl (G_ok _ _ G24) rfl rfl rfl hL rfl (by rw [hL]; simp; omega) (by simp) ?_ ?_
      · rw [hap]
        refine exec_sound G_ok ?_
        simp only [go_sem]
        refine thenA_normal ?_
        by_cases hok : NotesOk q
        · rw [bP_true hok] at hq
          repeat' (first | ((with_reducible first | (refine hK _ ?_; clear hK K) | refine stq fun K' hK' => ?_ | refine stc ?_); try simp only [go_sem, hln, List.length_map, hj']) | (with_reducible first | refine stp ?_ | (refine hK' _ ?_; clear hK' K') | refine kN kl57 fun K hK => ?_ | refine kO fun K hK => ?_) | (refine xS rfl fun K' hK' => ?_; simp only [go_sem, hln, List.length_map, hj']) | ((with_reducible apply CallK.eq); (· with_reducible first | exact hq); (· simp [RV.flat, D.sc, datI]); try simp only [go_sem, hln, List.length_map, hj']) | refine iB ?_ | (with_reducible refine pK_mk ?_ ?_ <;> (intro hc; (try simp only [go_sem, hln, List.length_map, hj']); (try simp at hc); try (exfalso; omega))) | with_reducible refine And.intro (by first | omega | (unfold inI; omega)) ?_)
          all_goals first
            | (exfalso; omega)
            | skip
          exact ⟨(j - 1, q, c'), ⟨by simp only; omega, by simp only; omega, hC'.mono (by simp only; omega), hnd2⟩, by simp only; omega, (fits_mk [] (by simp [renL_d, bdL_d, sg, over, wipe, wl, memN, ins, rm, lk, fitFr, fit1, ren, renL, bd, bdL, app, fitHp, hget, renB, bdB, hln, hj'] <;> omega))⟩
        · rw [bP_false hok] at hq
          repeat' (first | with_reducible refine stop_seq (id := 4) ?_ | with_reducible refine stop_one (id := 4) ?_ | with_reducible refine stop_seq (id := 12) ?_ | with_reducible refine stop_one (id := 12) ?_ | ((with_reducible first | (refine hK _ ?_; clear hK K) | refine stq fun K' hK' => ?_ | refine stc ?_); try simp only [go_sem, hln, List.length_map]) | (with_reducible first | refine stp ?_ | (refine hK' _ ?_; clear hK' K') | refine kN kl57 fun K hK => ?_ | refine kO fun K hK => ?_) | (refine xS rfl fun K' hK' => ?_; simp only [go_sem, hln, List.length_map]) | ((with_reducible apply CallK.eq); (· with_reducible first | exact hq); (· simp [RV.flat, D.sc, datI]); try simp only [go_sem, hln, List.length_map]) | ((first | refine CallK.cur (some 0) (onec_ok (by assumption) (by omega)) rfl rfl rfl rfl rfl rfl ?_); rintro c2 _ ⟨x, hx, rfl, hC⟩; try simp only [mkB, go_sem, hln, List.length_map]) | refine iB ?_ | (with_reducible refine pK_mk ?_ ?_ <;> (intro hc; (try simp only [go_sem, hln, List.length_map]); (try simp at hc); try (exfalso; omega))) | with_reducible refine And.intro (by first | omega | (unfold inI; omega)) ?_)
          · unfold Stop
            repeat' (first | ((with_reducible first | (refine hK _ ?_; clear hK K) | refine stq fun K' hK' => ?_ | refine stc ?_); try simp only [go_sem, hj']) | (with_reducible first | refine stp ?_ | (refine hK' _ ?_; clear hK' K') | refine kN kl57 fun K hK => ?_ | refine kO fun K hK => ?_) | (refine xS rfl fun K' hK' => ?_; simp only [go_sem, hj']) | refine iB ?_ | (with_reducible refine pK_mk ?_ ?_ <;> (intro hc; (try simp only [go_sem, hj']); (try simp at hc); try (exfalso; omega))) | with_reducible refine And.intro (by first | omega | (unfold inI; omega)) ?_)
            exact ⟨(j - 1, q, c2), ⟨by simp only; omega, by simp only; omega, hC.mono (by simp only; omega), hnd2⟩, by simp only; omega, (fits_mk [] (by simp [renL_d, bdL_d, sg, over, wipe, wl, memN, ins, rm, lk, fitFr, fit1, ren, renL, bd, bdL, app, fitHp, hget, renB, bdB, hln, hj'] <;> omega))⟩
          · unfold Stop
            refine pw_cut (id := 1) (es := l.map NoteD.dat) (fs := [[.int .i64 a, .int .i64 b, .int .i64 d]]) (by rw [hap]; rfl) ?_
            simp only [go_sem]
            repeat' (first | ((with_reducible first | (refine hK _ ?_; clear hK K) | refine stq fun K' hK' => ?_ | refine stc ?_); try simp only [go_sem, hj']) | (with_reducible first | refine stp ?_ | (refine hK' _ ?_; clear hK' K') | refine kN kl57 fun K hK => ?_ | refine kO fun K hK => ?_) | (refine xS rfl fun K' hK' => ?_; simp only [go_sem, hj']) | refine iB ?_ | (with_reducible refine pK_mk ?_ ?_ <;> (intro hc; (try simp only [go_sem, hj']); (try simp at hc); try (exfalso; omega))) | with_reducible refine And.intro (by first | omega | (unfold inI; omega)) ?_)
            exact ⟨(j - 1, l, c2), ⟨by simp only; omega, by simp only; omega, hC.mono (by simp only; omega), hnd⟩, by simp only; omega, (fits_mk [] (by simp [renL_d, bdL_d, sg, over, wipe, wl, memN, ins, rm, lk, fitFr, fit1, ren, renL, bd, bdL, app, fitHp, hget, renB, bdB, hj'] <;> omega))⟩
      · rw [hap]
        refine exec_sound G_ok ?_
        simp only [go_sem]
        refine thenA_normal ?_
        by_cases hok : NotesOk q
        · rw [bP_true hok] at hq
          repeat' (first | ((with_reducible first | (refine hK _ ?_; clear hK K) | refine stq fun K' hK' => ?_ | refine stc ?_); try simp only [go_sem, hln, List.length_map, hj']) | (with_reducible first | refine stp ?_ | (refine hK' _ ?_; clear hK' K') | refine kN kl57 fun K hK => ?_ | refine kO fun K hK => ?_) | (refine xS rfl fun K' hK' => ?_; simp only [go_sem, hln, List.length_map, hj']) | ((with_reducible apply CallK.eq); (· with_reducible first | exact hq); (· simp [RV.flat, D.sc, datI]); try simp only [go_sem, hln, List.length_map, hj']) | refine iB ?_ | (with_reducible refine pK_mk ?_ ?_ <;> (intro hc; (try simp only [go_sem, hln, List.length_map, hj']); (try simp at hc); try (exfalso; omega))) | with_reducible refine And.intro (by first | omega | (unfold inI; omega)) ?_)
          all_goals first
            | (exfalso; omega)
            | skip
          exact ⟨(j - 1, q, c'), ⟨by simp only; omega, by simp only; omega, hC'.mono (by simp only; omega), hnd2⟩, by simp only; omega, (fits_mk [] (by simp [renL_d, bdL_d, sg, over, wipe, wl, memN, ins, rm, lk, fitFr, fit1, ren, renL, bd, bdL, app, fitHp, hget, renB, bdB, hln, hj'] <;> omega))⟩
        · rw [bP_false hok] at hq
          repeat' (first | with_reducible refine stop_seq (id := 4) ?_ | with_reducible refine stop_one (id := 4) ?_ | with_reducible refine stop_seq (id := 12) ?_ | with_reducible refine stop_one (id := 12) ?_ | ((with_reducible first | (refine hK _ ?_; clear hK K) | refine stq fun K' hK' => ?_ | refine stc ?_); try simp only [go_sem, hln, List.length_map]) | (with_reducible first | refine stp ?_ | (refine hK' _ ?_; clear hK' K') | refine kN kl57 fun K hK => ?_ | refine kO fun K hK => ?_) | (refine xS rfl fun K' hK' => ?_; simp only [go_sem, hln, List.length_map]) | ((with_reducible apply CallK.eq); (· with_reducible first | exact hq); (· simp [RV.flat, D.sc, datI]); try simp only [go_sem, hln, List.length_map]) | ((first | refine CallK.cur (some 0) (onec_ok (by assumption) (by omega)) rfl rfl rfl rfl rfl rfl ?_); rintro c2 _ ⟨x, hx, rfl, hC⟩; try simp only [mkB, go_sem, hln, List.length_map]) | refine iB ?_ | (with_reducible refine pK_mk ?_ ?_ <;> (intro hc; (try simp only [go_sem, hln, List.length_map]); (try simp at hc); try (exfalso; omega))) | with_reducible refine And.intro (by first | omega | (unfold inI; omega)) ?_)
          · unfold Stop
            repeat' (first | ((with_reducible first | (refine hK _ ?_; clear hK K) | refine stq fun K' hK' => ?_ | refine stc ?_); try simp only [go_sem, hj']) | (with_reducible first | refine stp ?_ | (refine hK' _ ?_; clear hK' K') | refine kN kl57 fun K hK => ?_ | refine kO fun K hK => ?_) | (refine xS rfl fun K' hK' => ?_; simp only [go_sem, hj']) | refine iB ?_ | (with_reducible refine pK_mk ?_ ?_ <;> (intro hc; (try simp only [go_sem, hj']); (try simp at hc); try (exfalso; omega))) | with_reducible refine And.intro (by first | omega | (unfold inI; omega)) ?_)
            exact ⟨(j - 1, q, c2), ⟨by simp only; omega, by simp only; omega, hC.mono (by simp only; omega), hnd2⟩, by simp only; omega, (fits_mk [] (by simp [renL_d, bdL_d, sg, over, wipe, wl, memN, ins, rm, lk, fitFr, fit1, ren, renL, bd, bdL, app, fitHp, hget, renB, bdB, hln, hj'] <;> omega))⟩
          · unfold Stop
            repeat' (first | ((with_reducible first | (refine hK _ ?_; clear hK K) | refine stq fun K' hK' => ?_ | refine stc ?_); try simp only [go_sem, hj']) | (with_reducible first | refine stp ?_ | (refine hK' _ ?_; clear hK' K') | refine kN kl57 fun K hK => ?_ | refine kO fun K hK => ?_) | (refine xS rfl fun K' hK' => ?_; simp only [go_sem, hj']) | refine iB ?_ | (with_reducible refine pK_mk ?_ ?_ <;> (intro hc; (try simp only [go_sem, hj']); (try simp at hc); try (exfalso; omega))) | with_reducible refine And.intro (by first | omega | (unfold inI; omega)) ?_)
            exact ⟨(j - 1, l, c2), ⟨by simp only; omega, by simp only; omega, hC.mono (by simp only; omega), hnd⟩, by simp only; omega, (fits_mk [] (by simp [renL_d, bdL_d, sg, over, wipe, wl, memN, ins, rm, lk, fitFr, fit1, ren, renL, bd, bdL, app, fitHp, hget, renB, bdB, hj'] <;> omega))⟩
end Go.Proofs.YthocihmhljmgdaaGreatDoor
