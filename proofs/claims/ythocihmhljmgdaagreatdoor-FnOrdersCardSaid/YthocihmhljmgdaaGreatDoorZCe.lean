/-
  Drawn keys, entrants and group sizes.
-/
import Derived.Test.YthocihmhljmgdaaGreatDoorZCu
import Derived.Test.YthocihmhljmgdaaGreatDoorZEo
set_option linter.unusedSimpArgs false
set_option linter.unusedVariables false
set_option maxHeartbeats 2000000
set_option maxRecDepth 100000
namespace Go.Proofs.YthocihmhljmgdaaGreatDoor
open Go.RowKit

theorem mem_app1 {l : List Int} {x : Int} {p : Int → Prop} (h : ∀ y ∈ l, p y) (hx : p x) : ∀ y ∈ l ++ [x], p y := by
  intro y hy
  rcases List.mem_append.1 hy with h1 | h1
  · exact h y h1
  · rw [List.mem_singleton.1 h1]; exact hx
def keyOk (x : Int) : Prop := -1 ≤ x ∧ x ≤ 1000000001
theorem keyList_ok {k : Nat} {cs : List D} {n : Int} (hC : Cur k cs) (hk : k ≤ 1000000000000) (hn0 : 0 ≤ n) (hn : n ≤ 8) : FnC Tryz.prog 72 3 [.int .i64 n] cs (PostX (k + 40) (fun l : List Int => l.length ≤ 16 ∧ ∀ x ∈ l, keyOk x) fun l => [.row 3 1 (l.map datI)]) := by
  refine fn_okC G_ok Tryz.func72 rfl rfl hC.len fun ty => ?_; simp only [Tryz.ntmps72, List.length_cons, List.length_nil, Nat.reduceAdd, Nat.reduceSub, List.map_cons, List.map_nil, List.length_map, enm]
  repeat' (first | ((with_reducible first | (refine hK _ ?_; clear hK K) | refine stq fun K' hK' => ?_ | refine stc ?_); try simp only [go_sem]) | (with_reducible first | refine stp ?_ | (refine hK' _ ?_; clear hK' K') | refine kN kl72 fun K hK => ?_ | refine kO fun K hK => ?_) | refine iB ?_ | (with_reducible refine pK_mk ?_ ?_ <;> (intro hc; (try simp only [go_sem]); (try simp at hc); try (exfalso; omega))) | with_reducible refine And.intro (by first | omega | (unfold inI; omega)) ?_)
  refine CallK.cur (some 0) (pick_ok (by assumption) (by omega)) rfl rfl rfl rfl rfl rfl ?_; rintro c2 _ ⟨x, hx, rfl, hC⟩; try simp only [mkB, go_sem]
  obtain ⟨m, rfl⟩ : ∃ m : Nat, x = m := ⟨x.toNat, by omega⟩
  have hm : m ≤ 4 := by omega
  repeat' (first | ((with_reducible first | (refine hK _ ?_; clear hK K) | refine stq fun K' hK' => ?_ | refine stc ?_); try simp only [go_sem]) | (with_reducible first | refine stp ?_ | (refine hK' _ ?_; clear hK' K') | refine kN kl72 fun K hK => ?_ | refine kO fun K hK => ?_) | refine iB ?_ | (with_reducible refine pK_mk ?_ ?_ <;> (intro hc; (try simp only [go_sem]); (try simp at hc); try (exfalso; omega))) | with_reducible refine And.intro (by first | omega | (unfold inI; omega)) ?_)
  refine pw_loop_over [4, 5, 6, 10, 11, 12, 13, 14, 15, 16, 17, 18] (fun q : Nat × List Int × List D => [(0, .bptr 0 0), (1, .d (.int .i64 n)), (6, .d (.int .i64 (q.1 : Int))), (5, .row 1 q.2.1.length)]) (fun q => [(0, .pbox 0 ty (q.2.2.map .d)), (1, .row 3 1 (q.2.1.map datI))]) 4 (fun q => q.2.1.length + q.1 = m ∧ Cur (k + 2 + 2 * q.2.1.length) q.2.2 ∧ ∀ x ∈ q.2.1, keyOk x) (fun q => q.1) (m, [], c2) ⟨by simp, hC, by simp⟩ (fits_mk [] (by simp [renL_d, bdL_d, sg, over, wipe, wl, memN, ins, rm, lk, fitFr, fit1, ren, renL, bd, bdL, app, fitHp, hget, renB, bdB] <;> omega)) ?_
  rintro ⟨j, l, c⟩ ⟨h1, hC, hl⟩; simp only [over, wipe, wl, memN, ins, rm, if_true, if_false, Nat.reduceEqDiff, Bool.false_eq_true, reduceCtorEq]
  simp only at h1 hC hl
  by_cases hj : j = 0
  · subst hj
    repeat' (first | ((with_reducible first | (refine hK _ ?_; clear hK K) | refine stq fun K' hK' => ?_ | refine stc ?_); try simp only [go_sem]) | (with_reducible first | refine stp ?_ | (refine hK' _ ?_; clear hK' K') | refine kN kl72 fun K hK => ?_ | refine kO fun K hK => ?_) | ((first | refine CallK.cur (some 0) (pick_ok (by assumption) (by omega)) rfl rfl rfl rfl rfl rfl ?_ | refine CallK.cur (some 0) (among_ok (l := [-1, 1000000000, 1000000001]) (by assumption) (by omega) (by simp) (by simp)) rfl rfl rfl rfl rfl rfl ?_); rintro c2 _ ⟨x, hx, rfl, hC⟩; try simp only [mkB, go_sem]) | ((first | refine CallK.cur (some 0) (pick_ok (by assumption) (by omega)) rfl rfl rfl rfl rfl rfl ?_ | refine CallK.cur (some 0) (among_ok (l := [-1, 1000000000, 1000000001]) (by assumption) (by omega) (by simp) (by simp)) rfl rfl rfl rfl rfl rfl ?_); rintro c2 _ ⟨x, hx, rfl, hC⟩; try simp only [mkB, go_sem]) | refine iB ?_ | (with_reducible refine pK_mk ?_ ?_ <;> (intro hc; (try simp only [go_sem]); (try simp at hc); try (exfalso; omega))) | with_reducible refine And.intro (by first | omega | (unfold inI; omega)) ?_)
    · refine retC_ret (id := 0) _ rfl (by simp only [retL, ret1, hget, lk, List.length_map, List.length_nil, List.length_append, List.length_take, List.length_cons, if_true, if_false, Nat.reduceEqDiff, Nat.reduceBEq, Bool.false_eq_true, Option.some.injEq]; rfl) (by simp [rowsOf, lk]) rfl (Cur.len (by assumption)) ⟨l ++ [x], ?_, (by simp [datI]), Cur.mono (by assumption) (by omega)⟩
      simp at hx
      exact ⟨by simp; omega, mem_app1 hl (by unfold keyOk; omega)⟩
    · refine pw_loop_over [4, 5, 35, 36, 37, 38, 39, 40, 41] (fun q : List Int => [(0, .bptr 0 0), (7, .d (.int .i64 (n + x))), (5, .row 1 q.length)]) (fun q => [(0, .pbox 0 ty (c2.map .d)), (1, .row 3 1 (q.map datI))]) 13 (fun q => q.length ≤ 15 ∧ ∀ x ∈ q, keyOk x) (fun q => 15 - q.length) l ⟨by omega, hl⟩ (fits_mk [] (by simp [renL_d, bdL_d, sg, over, wipe, wl, memN, ins, rm, lk, fitFr, fit1, ren, renL, bd, bdL, app, fitHp, hget, renB, bdB] <;> omega)) ?_
      rintro q ⟨h2, hq⟩; simp only [over, wipe, wl, memN, ins, rm, if_true, if_false, Nat.reduceEqDiff, Bool.false_eq_true, reduceCtorEq]
      by_cases hlt : (q.length : Int) < n + x
      · repeat' (first | ((with_reducible first | (refine hK _ ?_; clear hK K) | refine stq fun K' hK' => ?_ | refine stc ?_); try simp only [go_sem, hlt]) | (with_reducible first | refine stp ?_ | (refine hK' _ ?_; clear hK' K') | refine kN kl72 fun K hK => ?_ | refine kO fun K hK => ?_) | refine iB ?_ | (with_reducible refine pK_mk ?_ ?_ <;> (intro hc; (try simp only [go_sem, hlt]); (try simp at hc); try (exfalso; omega))) | with_reducible refine And.intro (by first | omega | (unfold inI; omega)) ?_)
        exact ⟨q ++ [1], ⟨by simp; omega, mem_app1 hq (by unfold keyOk; omega)⟩, by simp; omega, (fits_mk [] (by simp [renL_d, bdL_d, sg, over, wipe, wl, memN, ins, rm, lk, fitFr, fit1, ren, renL, bd, bdL, app, fitHp, hget, renB, bdB, datI] <;> omega))⟩
      · repeat' (first | ((with_reducible first | (refine hK _ ?_; clear hK K) | refine stq fun K' hK' => ?_ | refine stc ?_); try simp only [go_sem, hlt]) | (with_reducible first | refine stp ?_ | (refine hK' _ ?_; clear hK' K') | refine kN kl72 fun K hK => ?_ | refine kO fun K hK => ?_) | refine iB ?_ | (with_reducible refine pK_mk ?_ ?_ <;> (intro hc; (try simp only [go_sem, hlt]); (try simp at hc); try (exfalso; omega))) | with_reducible refine And.intro (by first | omega | (unfold inI; omega)) ?_)
        refine retC_ret (id := 0) _ rfl (by simp only [retL, ret1, hget, lk, List.length_map, List.length_nil, List.length_append, List.length_take, List.length_cons, if_true, if_false, Nat.reduceEqDiff, Nat.reduceBEq, Bool.false_eq_true, Option.some.injEq]; rfl) (by simp [rowsOf, lk]) rfl (Cur.len (by assumption)) ⟨q, ?_, (by simp [datI]), Cur.mono (by assumption) (by omega)⟩
        exact ⟨by omega, hq⟩
    · refine retC_ret (id := 0) _ rfl (by simp only [retL, ret1, hget, lk, List.length_map, List.length_nil, List.length_append, List.length_take, List.length_cons, if_true, if_false, Nat.reduceEqDiff, Nat.reduceBEq, Bool.false_eq_true, Option.some.injEq]; rfl) (by simp [rowsOf, lk]) rfl (Cur.len (by assumption)) ⟨l, ?_, (by simp [datI]), Cur.mono (by assumption) (by omega)⟩
      exact ⟨by omega, hl⟩
  · repeat' (first | ((with_reducible first | (refine hK _ ?_; clear hK K) | refine stq fun K' hK' => ?_ | refine stc ?_); try simp only [go_sem]) | (with_reducible first | refine stp ?_ | (refine hK' _ ?_; clear hK' K') | refine kN kl72 fun K hK => ?_ | refine kO fun K hK => ?_) | ((first | refine CallK.cur (some 0) (pick_ok (by assumption) (by omega)) rfl rfl rfl rfl rfl rfl ?_); rintro c2 _ ⟨x, hx, rfl, hC⟩; try simp only [mkB, go_sem]) | ((first | refine CallK.cur (some 0) (pick_ok (by assumption) (by omega)) rfl rfl rfl rfl rfl rfl ?_); rintro c2 _ ⟨x, hx, rfl, hC⟩; try simp only [mkB, go_sem]) | refine iB ?_ | (with_reducible refine pK_mk ?_ ?_ <;> (intro hc; (try simp only [go_sem]); (try simp at hc); try (exfalso; omega))) | with_reducible refine And.intro (by first | omega | (unfold inI; omega)) ?_)
    exact ⟨(j - 1, l ++ [x], c2), ⟨by simp; omega, hC.mono (by simp; omega), mem_app1 hl (by unfold keyOk; omega)⟩, by simp; omega, (fits_mk [] (by simp [renL_d, bdL_d, sg, over, wipe, wl, memN, ins, rm, lk, fitFr, fit1, ren, renL, bd, bdL, app, fitHp, hget, renB, bdB, datI] <;> omega))⟩
theorem groupSize_ok {k : Nat} {cs : List D} (hC : Cur k cs) (hk : k ≤ 1000000000000) : FnC Tryz.prog 110 3 [] cs (PostI (k + 4) fun x => 0 ≤ x ∧ x ≤ 9) := by
  refine fn_okC G_ok Tryz.func110 rfl rfl hC.len fun ty => ?_; simp only [Tryz.ntmps110, List.length_cons, List.length_nil, Nat.reduceAdd, Nat.reduceSub, List.map_cons, List.map_nil, List.length_map, enm]
  repeat' (first | ((with_reducible first | (refine hK _ ?_; clear hK K) | refine stq fun K' hK' => ?_ | refine stc ?_); try simp only [go_sem]) | (with_reducible first | refine stp ?_ | (refine hK' _ ?_; clear hK' K') | refine kN kl110 fun K hK => ?_ | refine kO fun K hK => ?_) | (with_reducible refine pK_mk ?_ ?_ <;> (intro hc; (try simp only [go_sem]); (try simp at hc); try (exfalso; omega))) | with_reducible refine And.intro (by first | omega | (unfold inI; omega)) ?_)
  refine CallK.cur (some 0) (among_ok (l := [0, 9]) (by assumption) (by omega) (by simp) (by simp)) rfl rfl rfl rfl rfl rfl ?_; rintro c2 _ ⟨x, hx, rfl, hC⟩; try simp only [mkB, go_sem]
  repeat' (first | ((with_reducible first | (refine hK _ ?_; clear hK K) | refine stq fun K' hK' => ?_ | refine stc ?_); try simp only [go_sem]) | (with_reducible first | refine stp ?_ | (refine hK' _ ?_; clear hK' K') | refine kN kl110 fun K hK => ?_ | refine kO fun K hK => ?_) | (with_reducible refine pK_mk ?_ ?_ <;> (intro hc; (try simp only [go_sem]); (try simp at hc); try (exfalso; omega))) | with_reducible refine And.intro (by first | omega | (unfold inI; omega)) ?_)
  refine CallK.cur (some 0) (among_ok (l := [1, 2, 3, 4, 5, 6, 8, x]) (by assumption) (by omega) (by simp) (by simp)) rfl rfl rfl rfl rfl rfl ?_; rintro c2 _ ⟨x, hx, rfl, hC⟩; try simp only [mkB, go_sem]
  rename_i y hy _
  simp at hx hy
  repeat' (first | ((with_reducible first | (refine hK _ ?_; clear hK K) | refine stq fun K' hK' => ?_ | refine stc ?_); try simp only [go_sem]) | (with_reducible first | refine stp ?_ | (refine hK' _ ?_; clear hK' K') | refine kN kl110 fun K hK => ?_ | refine kO fun K hK => ?_) | (with_reducible refine pK_mk ?_ ?_ <;> (intro hc; (try simp only [go_sem]); (try simp at hc); try (exfalso; omega))) | with_reducible refine And.intro (by first | omega | (unfold inI; omega)) ?_)
  refine retC_ret (id := 0) _ rfl rfl (by simp [rowsOf, lk]) rfl (Cur.len (by assumption)) ⟨_, ?_, rfl, Cur.mono (by assumption) (by omega)⟩
  omega
end Go.Proofs.YthocihmhljmgdaaGreatDoor
namespace Go.Proofs.YthocihmhljmgdaaGreatDoor
open Go.RowKit

def entOk (x : EntrantD) : Prop := 0 ≤ x.skater ∧ x.skater ≤ 1000 ∧ -1 ≤ x.rank ∧ x.rank ≤ 1000
def insE1 (l : List EntrantD) (i : Nat) (x : EntrantD) : List EntrantD := l.take i ++ [x] ++ l.drop i
theorem insE1_len {l : List EntrantD} {i : Nat} (x : EntrantD) (hi : i ≤ l.length) : (insE1 l i x).length = l.length + 1 := by simp [insE1]; omega
theorem insE1_mem {l : List EntrantD} {i : Nat} {x : EntrantD} {p : EntrantD → Prop} (h : ∀ y ∈ l, p y) (hx : p x) : ∀ y ∈ insE1 l i x, p y := by
  intro y hy
  simp only [insE1, List.mem_append, List.mem_singleton] at hy
  rcases hy with (h1 | h1) | h1
  · exact h y (List.mem_of_mem_take h1)
  · rw [h1]; exact hx
  · exact h y (List.mem_of_mem_drop h1)
theorem setE_mem {l : List EntrantD} {i : Nat} {x : EntrantD} {p : EntrantD → Prop} (h : ∀ y ∈ l, p y) (hx : p x) : ∀ y ∈ l.set i x, p y := fun y hy => (List.mem_or_eq_of_mem_set hy).elim (h y) fun e => e ▸ hx
theorem entrants_ok {k : Nat} {cs : List D} (hC : Cur k cs) (hk : k ≤ 1000000000000) : FnC Tryz.prog 109 3 [] cs (PostX (k + 500) (fun l : List EntrantD => l.length ≤ 41 ∧ ∀ x ∈ l, entOk x) fun l => [.row 53 2 (l.map EntrantD.dat)]) := by
  refine fn_okC G_ok Tryz.func109 rfl rfl hC.len fun ty => ?_; simp only [Tryz.ntmps109, List.length_cons, List.length_nil, Nat.reduceAdd, Nat.reduceSub, List.map_cons, List.map_nil, List.length_map, enm]
  repeat' (first | ((with_reducible first | (refine hK _ ?_; clear hK K) | refine stq fun K' hK' => ?_ | refine stc ?_); try simp only [go_sem]) | (with_reducible first | refine stp ?_ | (refine hK' _ ?_; clear hK' K') | refine kN kl109 fun K hK => ?_ | refine kO fun K hK => ?_) | ((first | refine CallK.cur (some 0) (pick_ok (by assumption) (by omega)) rfl rfl rfl rfl rfl rfl ?_ | refine CallK.cur (some 0) (onec_ok (by assumption) (by omega)) rfl rfl rfl rfl rfl rfl ?_); rintro c2 _ ⟨x, hx, rfl, hC⟩; try simp only [mkB, go_sem]) | ((first | refine CallK.cur (some 0) (pick_ok (by assumption) (by omega)) rfl rfl rfl rfl rfl rfl ?_ | refine CallK.cur (some 0) (onec_ok (by assumption) (by omega)) rfl rfl rfl rfl rfl rfl ?_); rintro c2 _ ⟨x, hx, rfl, hC⟩; try simp only [mkB, go_sem]) | refine iB ?_ | (with_reducible refine pK_mk ?_ ?_ <;> (intro hc; (try simp only [go_sem]); (try simp at hc); try (exfalso; omega))) | with_reducible refine And.intro (by first | omega | (unfold inI; omega)) ?_)
  case' refine_1 =>
    obtain ⟨N, hm⟩ : ∃ N : Nat, 39 + x = (N : Int) := ⟨(39 + x).toNat, by omega⟩
    have hN : N ≤ 41 := by omega
    have hC6 : Cur (k + 6) c2 := hC.mono (by omega)
  case' refine_2 =>
    rename_i y hy _
    obtain ⟨N, hm⟩ : ∃ N : Nat, y = (N : Int) := ⟨y.toNat, by omega⟩
    have hN : N ≤ 41 := by omega
    have hC6 : Cur (k + 6) c2 := hC.mono (by omega)
  all_goals
    refine pw_fits (s0 := ⟨⟨89, [(0, .bptr 0 0), (3, .row 1 0), (4, .d (.int .i64 (N : Int))), (5, .d (.int .i64 0))]⟩, [(0, .pbox 0 ty (c2.map .d)), (1, .row 53 2 [])], 2⟩) (fits_mk [] (by simp [renL_d, bdL_d, sg, over, wipe, wl, memN, ins, rm, lk, fitFr, fit1, ren, renL, bd, bdL, app, fitHp, hget, renB, bdB, hm] <;> omega)) ?_
    refine pw_loop_over [2, 3, 5, 6, 7, 16, 17, 18, 19, 20, 21, 22, 23, 24, 25, 26, 27, 28, 29, 30, 31, 32, 33, 34, 35, 36, 37, 38, 39, 40, 41, 42, 43, 44, 45, 46, 47, 48, 49, 50, 51, 52, 53, 54] (fun q : Nat × List EntrantD × List D => [(0, .bptr 0 0), (3, .row 1 q.2.1.length), (4, .d (.int .i64 (N : Int))), (5, .d (.int .i64 (q.1 : Int)))]) (fun q => [(0, .pbox 0 ty (q.2.2.map .d)), (1, .row 53 2 (q.2.1.map EntrantD.dat))]) 2 (fun q => q.2.1.length ≤ N ∧ q.1 ≤ 3 * q.2.1.length ∧ Cur (k + 6 + 8 * q.2.1.length) q.2.2 ∧ ∀ x ∈ q.2.1, entOk x) (fun q => N - q.2.1.length) (0, [], c2) ⟨by simp, by simp, hC6, by simp⟩ (fits_mk [] (by simp [renL_d, bdL_d, sg, over, wipe, wl, memN, ins, rm, lk, fitFr, fit1, ren, renL, bd, bdL, app, fitHp, hget, renB, bdB] <;> omega)) ?_
    rintro ⟨r, l, c⟩ ⟨h1, h2, hC, hl⟩; simp only [over, wipe, wl, memN, ins, rm, if_true, if_false, Nat.reduceEqDiff, Bool.false_eq_true, reduceCtorEq]
    simp only at h1 h2 hC hl
    by_cases hlt : l.length < N
    · have hlt' : (l.length : Int) < (N : Int) := by omega
      repeat' (first | ((with_reducible first | (refine hK _ ?_; clear hK K) | refine stq fun K' hK' => ?_ | refine stc ?_); try simp only [go_sem, hlt']) | (with_reducible first | refine stp ?_ | (refine hK' _ ?_; clear hK' K') | refine kN kl109 fun K hK => ?_ | refine kO fun K hK => ?_) | ((first | refine CallK.cur (some 0) (pick_ok (by assumption) (by omega)) rfl rfl rfl rfl rfl rfl ?_ | refine CallK.cur (some 0) (onec_ok (by assumption) (by omega)) rfl rfl rfl rfl rfl rfl ?_); rintro c2 _ ⟨x, hx, rfl, hC⟩; try simp only [mkB, go_sem, hlt']) | ((first | refine CallK.cur (some 0) (pick_ok (by assumption) (by omega)) rfl rfl rfl rfl rfl rfl ?_ | refine CallK.cur (some 0) (onec_ok (by assumption) (by omega)) rfl rfl rfl rfl rfl rfl ?_); rintro c2 _ ⟨x, hx, rfl, hC⟩; try simp only [mkB, go_sem, hlt']) | refine iB ?_ | (with_reducible refine pK_mk ?_ ?_ <;> (intro hc; (try simp only [go_sem, hlt']); (try simp at hc); try (exfalso; omega))) | with_reducible refine And.intro (by first | omega | (unfold inI; omega)) ?_)
      all_goals
        obtain ⟨i, rfl⟩ : ∃ i : Nat, x = i := ⟨x.toNat, by omega⟩
        have hil : i ≤ l.length := by omega
        have htl : (List.take i (List.map EntrantD.dat l)).length = i := by simp; omega
        have hmd : i + (l.length - i) = l.length := by omega
        have hdl : (List.drop i (List.map EntrantD.dat l)).length = l.length - i := by simp
        have htx : List.take (l.length - i) (List.drop i (List.map EntrantD.dat l)) = List.drop i (List.map EntrantD.dat l) := List.take_of_length_le (by simp)
      all_goals
        have hel := fun e => insE1_len e hil
        have hcont : ∀ a b : Int, List.map EntrantD.dat (insE1 l i ⟨a, b⟩) = List.take i (List.map EntrantD.dat l) ++ ([D.int .i64 a, D.int .i64 b] :: List.drop i (List.map EntrantD.dat l)) := by intro a b; simp [insE1, EntrantD.dat]
      case' pos.refine_1.refine_1 =>
        rename_i u hu _ _ _ _ _ _ hv _
        obtain ⟨v, rfl⟩ : ∃ v : Nat, x = (v : Int) := ⟨x.toNat, by omega⟩
        refine pw_anyN mixed ?_
        refine anyN_take 1 rfl rfl rfl (by decide +kernel) (by decide +kernel) (by decide +kernel) (pure_move (.inl rfl)) ?_
        try simp only [go_sem, Nat.zero_add, Int.toNat_natCast, Nat.mul_one, htl, hdl, htx, hil, hmd, Nat.le_refl, List.length_append, List.length_cons, List.length_nil]
        refine anyN_take 2 rfl rfl rfl (by decide +kernel) (by decide +kernel) (by decide +kernel) (pure_move (.inl rfl)) ?_
        try simp only [go_sem, Nat.zero_add, Int.toNat_natCast, Nat.mul_one, htl, hdl, htx, hil, hmd, Nat.le_refl, List.length_append, List.length_cons, List.length_nil]
        refine anyN_take 3 rfl rfl rfl (by decide +kernel) (by decide +kernel) (by decide +kernel) (pure_slice rfl (G_ok _ _ G51) rfl rfl rfl (by omega) (by omega) (by omega) rfl) ?_
        try simp only [go_sem, Nat.zero_add, Int.toNat_natCast, Nat.mul_one, htl, hdl, htx, hil, hmd, Nat.le_refl, List.length_append, List.length_cons, List.length_nil]
        refine anyN_take 8 rfl rfl rfl (by decide +kernel) (by decide +kernel) (by decide +kernel) (pure_move (.inl rfl)) ?_
        try simp only [go_sem, Nat.zero_add, Int.toNat_natCast, Nat.mul_one, htl, hdl, htx, hil, hmd, Nat.le_refl, List.length_append, List.length_cons, List.length_nil]
        refine anyN_take 9 rfl rfl rfl (by decide +kernel) (by decide +kernel) (by decide +kernel) (pure_move (.inl rfl)) ?_
        try simp only [go_sem, Nat.zero_add, Int.toNat_natCast, Nat.mul_one, htl, hdl, htx, hil, hmd, Nat.le_refl, List.length_append, List.length_cons, List.length_nil]
        refine anyN_take 10 rfl rfl rfl (by decide +kernel) (by decide +kernel) (by decide +kernel) (pure_slice rfl (G_ok _ _ G51) rfl rfl rfl (by omega) (by omega) (by omega) rfl) ?_
        try simp only [go_sem, Nat.zero_add, Int.toNat_natCast, Nat.mul_one, htl, hdl, htx, hil, hmd, Nat.le_refl, List.length_append, List.length_cons, List.length_nil]
        refine anyN_step G_ok [0, 5] (by decide +kernel) rfl ⟨⟨_, rfl, fun K' hK' => ?_⟩, ⟨_, rfl, fun K' hK' => ?_⟩, trivial⟩
        · (first | with_reducible refine s_none rfl ?_ | refine s_some2 rfl ?_)
          simp only [go_sem, Nat.zero_add, Int.toNat_natCast, Nat.mul_one, htl, hdl, htx, hil, hmd, Nat.le_refl, List.length_append, List.length_cons, List.length_nil]
          repeat' (first | (with_reducible refine hK' _ ?_; clear hK' K'; try simp only [go_sem, Nat.zero_add, Int.toNat_natCast, Nat.mul_one, htl, hdl, htx, hil, hmd, Nat.le_refl, List.length_append, List.length_cons, List.length_nil]) | with_reducible refine And.intro (by first | omega | (unfold inI; omega)) ?_)
          refine anyN_step G_ok [4, 5] (by decide +kernel) rfl ⟨⟨_, rfl, fun K' hK' => ?_⟩, ⟨_, rfl, fun K' hK' => ?_⟩, trivial⟩
          · (first | with_reducible refine s_none rfl ?_ | refine s_some2 rfl ?_)
            simp only [go_sem, Nat.zero_add, Int.toNat_natCast, Nat.mul_one, htl, hdl, htx, hil, hmd, Nat.le_refl, List.length_append, List.length_cons, List.length_nil]
            repeat' (first | (with_reducible refine hK' _ ?_; clear hK' K'; try simp only [go_sem, Nat.zero_add, Int.toNat_natCast, Nat.mul_one, htl, hdl, htx, hil, hmd, Nat.le_refl, List.length_append, List.length_cons, List.length_nil]) | with_reducible refine And.intro (by first | omega | (unfold inI; omega)) ?_)
            refine anyN_step G_ok [5] (by decide +kernel) rfl ⟨⟨_, rfl, fun K' hK' => ?_⟩, trivial⟩
            (first | with_reducible refine s_none rfl ?_ | refine s_some2 rfl ?_)
            simp only [go_sem, Nat.zero_add, Int.toNat_natCast, Nat.mul_one, htl, hdl, htx, hil, hmd, Nat.le_refl, List.length_append, List.length_cons, List.length_nil]
            repeat' (first | (with_reducible refine hK' _ ?_; clear hK' K'; try simp only [go_sem, Nat.zero_add, Int.toNat_natCast, Nat.mul_one, htl, hdl, htx, hil, hmd, Nat.le_refl, List.length_append, List.length_cons, List.length_nil]) | with_reducible refine And.intro (by first | omega | (unfold inI; omega)) ?_)
            refine anyN_step G_ok [6] (by decide +kernel) rfl ⟨⟨_, rfl, fun K' hK' => ?_⟩, trivial⟩
            (first | with_reducible refine s_none rfl ?_ | refine s_some2 rfl ?_)
            simp only [go_sem, Nat.zero_add, Int.toNat_natCast, Nat.mul_one, htl, hdl, htx, hil, hmd, Nat.le_refl, List.length_append, List.length_cons, List.length_nil]
            repeat' (first | (with_reducible refine hK' _ ?_; clear hK' K'; try simp only [go_sem, Nat.zero_add, Int.toNat_natCast, Nat.mul_one, htl, hdl, htx, hil, hmd, Nat.le_refl, List.length_append, List.length_cons, List.length_nil]) | with_reducible refine And.intro (by first | omega | (unfold inI; omega)) ?_)
            refine anyN_step G_ok [7] (by decide +kernel) rfl ⟨⟨_, rfl, fun K' hK' => ?_⟩, trivial⟩
            (first | with_reducible refine s_none rfl ?_ | refine s_some2 rfl ?_)
            simp only [go_sem, Nat.zero_add, Int.toNat_natCast, Nat.mul_one, htl, hdl, htx, hil, hmd, Nat.le_refl, List.length_append, List.length_cons, List.length_nil]
            repeat' (first | (with_reducible refine hK' _ ?_; clear hK' K'; try simp only [go_sem, Nat.zero_add, Int.toNat_natCast, Nat.mul_one, htl, hdl, htx, hil, hmd, Nat.le_refl, List.length_append, List.length_cons, List.length_nil]) | with_reducible refine And.intro (by first | omega | (unfold inI; omega)) ?_)
            refine anyN_step G_ok [11] (by decide +kernel) rfl ⟨⟨_, rfl, fun K' hK' => ?_⟩, trivial⟩
            (first | with_reducible refine s_none rfl ?_ | refine s_some2 rfl ?_)
            simp only [go_sem, Nat.zero_add, Int.toNat_natCast, Nat.mul_one, htl, hdl, htx, hil, hmd, Nat.le_refl, List.length_append, List.length_cons, List.length_nil]
            repeat' (first | (with_reducible refine hK' _ ?_; clear hK' K'; try simp only [go_sem, Nat.zero_add, Int.toNat_natCast, Nat.mul_one, htl, hdl, htx, hil, hmd, Nat.le_refl, List.length_append, List.length_cons, List.length_nil]) | with_reducible refine And.intro (by first | omega | (unfold inI; omega)) ?_)
            refine anyN_take 12 rfl rfl rfl (by decide +kernel) (by decide +kernel) (by decide +kernel) (pure_move (.inr rfl)) ?_
            try simp only [go_sem, Nat.zero_add, Int.toNat_natCast, Nat.mul_one, htl, hdl, htx, hil, hmd, Nat.le_refl, List.length_append, List.length_cons, List.length_nil]
            refine anyN_done (by decide +kernel) ?_
            try simp only [go_sem, Nat.zero_add, Int.toNat_natCast, Nat.mul_one, htl, hdl, htx, hil, hmd, Nat.le_refl, List.length_append, List.length_cons, List.length_nil]
            repeat' (first | with_reducible refine thenA_normal ?_ | with_reducible refine inBlockA_same ?_ | with_reducible refine inBlockA_normal ?_)
            exact ⟨(r + (1 + v), insE1 l i ⟨7 * (l.length : Int) + 1 + u, (r : Int) + (1 + (v : Int))⟩, c2), ⟨by rw [hel]; omega, by rw [hel]; omega, hC.mono (by rw [hel]; omega), insE1_mem hl (by unfold entOk; simp only; omega)⟩, by rw [hel]; omega, (fits_mk [] (by simp [renL_d, bdL_d, sg, over, wipe, wl, memN, ins, rm, lk, fitFr, fit1, ren, renL, bd, bdL, app, fitHp, hget, renB, bdB, hel, hcont] <;> omega))⟩
          · (first | with_reducible refine s_none rfl ?_ | refine s_some2 rfl ?_)
            simp only [go_sem, Nat.zero_add, Int.toNat_natCast, Nat.mul_one, htl, hdl, htx, hil, hmd, Nat.le_refl, List.length_append, List.length_cons, List.length_nil]
            repeat' (first | (with_reducible refine hK' _ ?_; clear hK' K'; try simp only [go_sem, Nat.zero_add, Int.toNat_natCast, Nat.mul_one, htl, hdl, htx, hil, hmd, Nat.le_refl, List.length_append, List.length_cons, List.length_nil]) | with_reducible refine And.intro (by first | omega | (unfold inI; omega)) ?_)
            refine anyN_step G_ok [4, 6] (by decide +kernel) rfl ⟨⟨_, rfl, fun K' hK' => ?_⟩, ⟨_, rfl, fun K' hK' => ?_⟩, trivial⟩
            · (first | with_reducible refine s_none rfl ?_ | refine s_some2 rfl ?_)
              simp only [go_sem, Nat.zero_add, Int.toNat_natCast, Nat.mul_one, htl, hdl, htx, hil, hmd, Nat.le_refl, List.length_append, List.length_cons, List.length_nil]
              repeat' (first | (with_reducible refine hK' _ ?_; clear hK' K'; try simp only [go_sem, Nat.zero_add, Int.toNat_natCast, Nat.mul_one, htl, hdl, htx, hil, hmd, Nat.le_refl, List.length_append, List.length_cons, List.length_nil]) | with_reducible refine And.intro (by first | omega | (unfold inI; omega)) ?_)
              refine anyN_step G_ok [6] (by decide +kernel) rfl ⟨⟨_, rfl, fun K' hK' => ?_⟩, trivial⟩
              (first | with_reducible refine s_none rfl ?_ | refine s_some2 rfl ?_)
              simp only [go_sem, Nat.zero_add, Int.toNat_natCast, Nat.mul_one, htl, hdl, htx, hil, hmd, Nat.le_refl, List.length_append, List.length_cons, List.length_nil]
              repeat' (first | (with_reducible refine hK' _ ?_; clear hK' K'; try simp only [go_sem, Nat.zero_add, Int.toNat_natCast, Nat.mul_one, htl, hdl, htx, hil, hmd, Nat.le_refl, List.length_append, List.length_cons, List.length_nil]) | with_reducible refine And.intro (by first | omega | (unfold inI; omega)) ?_)
              refine anyN_step G_ok [7] (by decide +kernel) rfl ⟨⟨_, rfl, fun K' hK' => ?_⟩, trivial⟩
              (first | with_reducible refine s_none rfl ?_ | refine s_some2 rfl ?_)
              simp only [go_sem, Nat.zero_add, Int.toNat_natCast, Nat.mul_one, htl, hdl, htx, hil, hmd, Nat.le_refl, List.length_append, List.length_cons, List.length_nil]
              repeat' (first | (with_reducible refine hK' _ ?_; clear hK' K'; try simp only [go_sem, Nat.zero_add, Int.toNat_natCast, Nat.mul_one, htl, hdl, htx, hil, hmd, Nat.le_refl, List.length_append, List.length_cons, List.length_nil]) | with_reducible refine And.intro (by first | omega | (unfold inI; omega)) ?_)
              refine anyN_step G_ok [11] (by decide +kernel) rfl ⟨⟨_, rfl, fun K' hK' => ?_⟩, trivial⟩
              (first | with_reducible refine s_none rfl ?_ | refine s_some2 rfl ?_)
              simp only [go_sem, Nat.zero_add, Int.toNat_natCast, Nat.mul_one, htl, hdl, htx, hil, hmd, Nat.le_refl, List.length_append, List.length_cons, List.length_nil]
              repeat' (first | (with_reducible refine hK' _ ?_; clear hK' K'; try simp only [go_sem, Nat.zero_add, Int.toNat_natCast, Nat.mul_one, htl, hdl, htx, hil, hmd, Nat.le_refl, List.length_append, List.length_cons, List.length_nil]) | with_reducible refine And.intro (by first | omega | (unfold inI; omega)) ?_)
              refine anyN_take 12 rfl rfl rfl (by decide +kernel) (by decide +kernel) (by decide +kernel) (pure_move (.inr rfl)) ?_
              try simp only [go_sem, Nat.zero_add, Int.toNat_natCast, Nat.mul_one, htl, hdl, htx, hil, hmd, Nat.le_refl, List.length_append, List.length_cons, List.length_nil]
              refine anyN_done (by decide +kernel) ?_
              try simp only [go_sem, Nat.zero_add, Int.toNat_natCast, Nat.mul_one, htl, hdl, htx, hil, hmd, Nat.le_refl, List.length_append, List.length_cons, List.length_nil]
              repeat' (first | with_reducible refine thenA_normal ?_ | with_reducible refine inBlockA_same ?_ | with_reducible refine inBlockA_normal ?_)
              exact ⟨(r + (1 + v), insE1 l i ⟨7 * (l.length : Int) + 1 + u, (r : Int) + (1 + (v : Int))⟩, c2), ⟨by rw [hel]; omega, by rw [hel]; omega, hC.mono (by rw [hel]; omega), insE1_mem hl (by unfold entOk; simp only; omega)⟩, by rw [hel]; omega, (fits_mk [] (by simp [renL_d, bdL_d, sg, over, wipe, wl, memN, ins, rm, lk, fitFr, fit1, ren, renL, bd, bdL, app, fitHp, hget, renB, bdB, hel, hcont] <;> omega))⟩
            · (first | with_reducible refine s_none rfl ?_ | refine s_some2 rfl ?_)
              simp only [go_sem, Nat.zero_add, Int.toNat_natCast, Nat.mul_one, htl, hdl, htx, hil, hmd, Nat.le_refl, List.length_append, List.length_cons, List.length_nil]
              repeat' (first | (with_reducible refine hK' _ ?_; clear hK' K'; try simp only [go_sem, Nat.zero_add, Int.toNat_natCast, Nat.mul_one, htl, hdl, htx, hil, hmd, Nat.le_refl, List.length_append, List.length_cons, List.length_nil]) | with_reducible refine And.intro (by first | omega | (unfold inI; omega)) ?_)
              refine anyN_step G_ok [4] (by decide +kernel) rfl ⟨⟨_, rfl, fun K' hK' => ?_⟩, trivial⟩
              (first | with_reducible refine s_none rfl ?_ | refine s_some2 rfl ?_)
              simp only [go_sem, Nat.zero_add, Int.toNat_natCast, Nat.mul_one, htl, hdl, htx, hil, hmd, Nat.le_refl, List.length_append, List.length_cons, List.length_nil]
              repeat' (first | (with_reducible refine hK' _ ?_; clear hK' K'; try simp only [go_sem, Nat.zero_add, Int.toNat_natCast, Nat.mul_one, htl, hdl, htx, hil, hmd, Nat.le_refl, List.length_append, List.length_cons, List.length_nil]) | with_reducible refine And.intro (by first | omega | (unfold inI; omega)) ?_)
              refine anyN_step G_ok [7] (by decide +kernel) rfl ⟨⟨_, rfl, fun K' hK' => ?_⟩, trivial⟩
              (first | with_reducible refine s_none rfl ?_ | refine s_some2 rfl ?_)
              simp only [go_sem, Nat.zero_add, Int.toNat_natCast, Nat.mul_one, htl, hdl, htx, hil, hmd, Nat.le_refl, List.length_append, List.length_cons, List.length_nil]
              repeat' (first | (with_reducible refine hK' _ ?_; clear hK' K'; try simp only [go_sem, Nat.zero_add, Int.toNat_natCast, Nat.mul_one, htl, hdl, htx, hil, hmd, Nat.le_refl, List.length_append, List.length_cons, List.length_nil]) | with_reducible refine And.intro (by first | omega | (unfold inI; omega)) ?_)
              refine anyN_step G_ok [11] (by decide +kernel) rfl ⟨⟨_, rfl, fun K' hK' => ?_⟩, trivial⟩
              (first | with_reducible refine s_none rfl ?_ | refine s_some2 rfl ?_)
              simp only [go_sem, Nat.zero_add, Int.toNat_natCast, Nat.mul_one, htl, hdl, htx, hil, hmd, Nat.le_refl, List.length_append, List.length_cons, List.length_nil]
              repeat' (first | (with_reducible refine hK' _ ?_; clear hK' K'; try simp only [go_sem, Nat.zero_add, Int.toNat_natCast, Nat.mul_one, htl, hdl, htx, hil, hmd, Nat.le_refl, List.length_append, List.length_cons, List.length_nil]) | with_reducible refine And.intro (by first | omega | (unfold inI; omega)) ?_)
              refine anyN_take 12 rfl rfl rfl (by decide +kernel) (by decide +kernel) (by decide +kernel) (pure_move (.inr rfl)) ?_
              try simp only [go_sem, Nat.zero_add, Int.toNat_natCast, Nat.mul_one, htl, hdl, htx, hil, hmd, Nat.le_refl, List.length_append, List.length_cons, List.length_nil]
              refine anyN_done (by decide +kernel) ?_
              try simp only [go_sem, Nat.zero_add, Int.toNat_natCast, Nat.mul_one, htl, hdl, htx, hil, hmd, Nat.le_refl, List.length_append, List.length_cons, List.length_nil]
              repeat' (first | with_reducible refine thenA_normal ?_ | with_reducible refine inBlockA_same ?_ | with_reducible refine inBlockA_normal ?_)
              exact ⟨(r + (1 + v), insE1 l i ⟨7 * (l.length : Int) + 1 + u, (r : Int) + (1 + (v : Int))⟩, c2), ⟨by rw [hel]; omega, by rw [hel]; omega, hC.mono (by rw [hel]; omega), insE1_mem hl (by unfold entOk; simp only; omega)⟩, by rw [hel]; omega, (fits_mk [] (by simp [renL_d, bdL_d, sg, over, wipe, wl, memN, ins, rm, lk, fitFr, fit1, ren, renL, bd, bdL, app, fitHp, hget, renB, bdB, hel, hcont] <;> omega))⟩
        · (first | with_reducible refine s_none rfl ?_ | refine s_some2 rfl ?_)
          simp only [go_sem, Nat.zero_add, Int.toNat_natCast, Nat.mul_one, htl, hdl, htx, hil, hmd, Nat.le_refl, List.length_append, List.length_cons, List.length_nil]
          repeat' (first | (with_reducible refine hK' _ ?_; clear hK' K'; try simp only [go_sem, Nat.zero_add, Int.toNat_natCast, Nat.mul_one, htl, hdl, htx, hil, hmd, Nat.le_refl, List.length_append, List.length_cons, List.length_nil]) | with_reducible refine And.intro (by first | omega | (unfold inI; omega)) ?_)
          refine anyN_step G_ok [0, 6] (by decide +kernel) rfl ⟨⟨_, rfl, fun K' hK' => ?_⟩, ⟨_, rfl, fun K' hK' => ?_⟩, trivial⟩
          · (first | with_reducible refine s_none rfl ?_ | refine s_some2 rfl ?_)
            simp only [go_sem, Nat.zero_add, Int.toNat_natCast, Nat.mul_one, htl, hdl, htx, hil, hmd, Nat.le_refl, List.length_append, List.length_cons, List.length_nil]
            repeat' (first | (with_reducible refine hK' _ ?_; clear hK' K'; try simp only [go_sem, Nat.zero_add, Int.toNat_natCast, Nat.mul_one, htl, hdl, htx, hil, hmd, Nat.le_refl, List.length_append, List.length_cons, List.length_nil]) | with_reducible refine And.intro (by first | omega | (unfold inI; omega)) ?_)
            refine anyN_step G_ok [4, 6] (by decide +kernel) rfl ⟨⟨_, rfl, fun K' hK' => ?_⟩, ⟨_, rfl, fun K' hK' => ?_⟩, trivial⟩
            · (first | with_reducible refine s_none rfl ?_ | refine s_some2 rfl ?_)
              simp only [go_sem, Nat.zero_add, Int.toNat_natCast, Nat.mul_one, htl, hdl, htx, hil, hmd, Nat.le_refl, List.length_append, List.length_cons, List.length_nil]
              repeat' (first | (with_reducible refine hK' _ ?_; clear hK' K'; try simp only [go_sem, Nat.zero_add, Int.toNat_natCast, Nat.mul_one, htl, hdl, htx, hil, hmd, Nat.le_refl, List.length_append, List.length_cons, List.length_nil]) | with_reducible refine And.intro (by first | omega | (unfold inI; omega)) ?_)
              refine anyN_step G_ok [6] (by decide +kernel) rfl ⟨⟨_, rfl, fun K' hK' => ?_⟩, trivial⟩
              (first | with_reducible refine s_none rfl ?_ | refine s_some2 rfl ?_)
              simp only [go_sem, Nat.zero_add, Int.toNat_natCast, Nat.mul_one, htl, hdl, htx, hil, hmd, Nat.le_refl, List.length_append, List.length_cons, List.length_nil]
              repeat' (first | (with_reducible refine hK' _ ?_; clear hK' K'; try simp only [go_sem, Nat.zero_add, Int.toNat_natCast, Nat.mul_one, htl, hdl, htx, hil, hmd, Nat.le_refl, List.length_append, List.length_cons, List.length_nil]) | with_reducible refine And.intro (by first | omega | (unfold inI; omega)) ?_)
              refine anyN_step G_ok [7] (by decide +kernel) rfl ⟨⟨_, rfl, fun K' hK' => ?_⟩, trivial⟩
              (first | with_reducible refine s_none rfl ?_ | refine s_some2 rfl ?_)
              simp only [go_sem, Nat.zero_add, Int.toNat_natCast, Nat.mul_one, htl, hdl, htx, hil, hmd, Nat.le_refl, List.length_append, List.length_cons, List.length_nil]
              repeat' (first | (with_reducible refine hK' _ ?_; clear hK' K'; try simp only [go_sem, Nat.zero_add, Int.toNat_natCast, Nat.mul_one, htl, hdl, htx, hil, hmd, Nat.le_refl, List.length_append, List.length_cons, List.length_nil]) | with_reducible refine And.intro (by first | omega | (unfold inI; omega)) ?_)
              refine anyN_step G_ok [11] (by decide +kernel) rfl ⟨⟨_, rfl, fun K' hK' => ?_⟩, trivial⟩
              (first | with_reducible refine s_none rfl ?_ | refine s_some2 rfl ?_)
              simp only [go_sem, Nat.zero_add, Int.toNat_natCast, Nat.mul_one, htl, hdl, htx, hil, hmd, Nat.le_refl, List.length_append, List.length_cons, List.length_nil]
              repeat' (first | (with_reducible refine hK' _ ?_; clear hK' K'; try simp only [go_sem, Nat.zero_add, Int.toNat_natCast, Nat.mul_one, htl, hdl, htx, hil, hmd, Nat.le_refl, List.length_append, List.length_cons, List.length_nil]) | with_reducible refine And.intro (by first | omega | (unfold inI; omega)) ?_)
              refine anyN_take 12 rfl rfl rfl (by decide +kernel) (by decide +kernel) (by decide +kernel) (pure_move (.inr rfl)) ?_
              try simp only [go_sem, Nat.zero_add, Int.toNat_natCast, Nat.mul_one, htl, hdl, htx, hil, hmd, Nat.le_refl, List.length_append, List.length_cons, List.length_nil]
              refine anyN_done (by decide +kernel) ?_
              try simp only [go_sem, Nat.zero_add, Int.toNat_natCast, Nat.mul_one, htl, hdl, htx, hil, hmd, Nat.le_refl, List.length_append, List.length_cons, List.length_nil]
              repeat' (first | with_reducible refine thenA_normal ?_ | with_reducible refine inBlockA_same ?_ | with_reducible refine inBlockA_normal ?_)
              exact ⟨(r + (1 + v), insE1 l i ⟨7 * (l.length : Int) + 1 + u, (r : Int) + (1 + (v : Int))⟩, c2), ⟨by rw [hel]; omega, by rw [hel]; omega, hC.mono (by rw [hel]; omega), insE1_mem hl (by unfold entOk; simp only; omega)⟩, by rw [hel]; omega, (fits_mk [] (by simp [renL_d, bdL_d, sg, over, wipe, wl, memN, ins, rm, lk, fitFr, fit1, ren, renL, bd, bdL, app, fitHp, hget, renB, bdB, hel, hcont] <;> omega))⟩
            · (first | with_reducible refine s_none rfl ?_ | refine s_some2 rfl ?_)
              simp only [go_sem, Nat.zero_add, Int.toNat_natCast, Nat.mul_one, htl, hdl, htx, hil, hmd, Nat.le_refl, List.length_append, List.length_cons, List.length_nil]
              repeat' (first | (with_reducible refine hK' _ ?_; clear hK' K'; try simp only [go_sem, Nat.zero_add, Int.toNat_natCast, Nat.mul_one, htl, hdl, htx, hil, hmd, Nat.le_refl, List.length_append, List.length_cons, List.length_nil]) | with_reducible refine And.intro (by first | omega | (unfold inI; omega)) ?_)
              refine anyN_step G_ok [4] (by decide +kernel) rfl ⟨⟨_, rfl, fun K' hK' => ?_⟩, trivial⟩
              (first | with_reducible refine s_none rfl ?_ | refine s_some2 rfl ?_)
              simp only [go_sem, Nat.zero_add, Int.toNat_natCast, Nat.mul_one, htl, hdl, htx, hil, hmd, Nat.le_refl, List.length_append, List.length_cons, List.length_nil]
              repeat' (first | (with_reducible refine hK' _ ?_; clear hK' K'; try simp only [go_sem, Nat.zero_add, Int.toNat_natCast, Nat.mul_one, htl, hdl, htx, hil, hmd, Nat.le_refl, List.length_append, List.length_cons, List.length_nil]) | with_reducible refine And.intro (by first | omega | (unfold inI; omega)) ?_)
              refine anyN_step G_ok [7] (by decide +kernel) rfl ⟨⟨_, rfl, fun K' hK' => ?_⟩, trivial⟩
              (first | with_reducible refine s_none rfl ?_ | refine s_some2 rfl ?_)
              simp only [go_sem, Nat.zero_add, Int.toNat_natCast, Nat.mul_one, htl, hdl, htx, hil, hmd, Nat.le_refl, List.length_append, List.length_cons, List.length_nil]
              repeat' (first | (with_reducible refine hK' _ ?_; clear hK' K'; try simp only [go_sem, Nat.zero_add, Int.toNat_natCast, Nat.mul_one, htl, hdl, htx, hil, hmd, Nat.le_refl, List.length_append, List.length_cons, List.length_nil]) | with_reducible refine And.intro (by first | omega | (unfold inI; omega)) ?_)
              refine anyN_step G_ok [11] (by decide +kernel) rfl ⟨⟨_, rfl, fun K' hK' => ?_⟩, trivial⟩
              (first | with_reducible refine s_none rfl ?_ | refine s_some2 rfl ?_)
              simp only [go_sem, Nat.zero_add, Int.toNat_natCast, Nat.mul_one, htl, hdl, htx, hil, hmd, Nat.le_refl, List.length_append, List.length_cons, List.length_nil]
              repeat' (first | (with_reducible refine hK' _ ?_; clear hK' K'; try simp only [go_sem, Nat.zero_add, Int.toNat_natCast, Nat.mul_one, htl, hdl, htx, hil, hmd, Nat.le_refl, List.length_append, List.length_cons, List.length_nil]) | with_reducible refine And.intro (by first | omega | (unfold inI; omega)) ?_)
              refine anyN_take 12 rfl rfl rfl (by decide +kernel) (by decide +kernel) (by decide +kernel) (pure_move (.inr rfl)) ?_
              try simp only [go_sem, Nat.zero_add, Int.toNat_natCast, Nat.mul_one, htl, hdl, htx, hil, hmd, Nat.le_refl, List.length_append, List.length_cons, List.length_nil]
              refine anyN_done (by decide +kernel) ?_
              try simp only [go_sem, Nat.zero_add, Int.toNat_natCast, Nat.mul_one, htl, hdl, htx, hil, hmd, Nat.le_refl, List.length_append, List.length_cons, List.length_nil]
              repeat' (first | with_reducible refine thenA_normal ?_ | with_reducible refine inBlockA_same ?_ | with_reducible refine inBlockA_normal ?_)
              exact ⟨(r + (1 + v), insE1 l i ⟨7 * (l.length : Int) + 1 + u, (r : Int) + (1 + (v : Int))⟩, c2), ⟨by rw [hel]; omega, by rw [hel]; omega, hC.mono (by rw [hel]; omega), insE1_mem hl (by unfold entOk; simp only; omega)⟩, by rw [hel]; omega, (fits_mk [] (by simp [renL_d, bdL_d, sg, over, wipe, wl, memN, ins, rm, lk, fitFr, fit1, ren, renL, bd, bdL, app, fitHp, hget, renB, bdB, hel, hcont] <;> omega))⟩
          · (first | with_reducible refine s_none rfl ?_ | refine s_some2 rfl ?_)
            simp only [go_sem, Nat.zero_add, Int.toNat_natCast, Nat.mul_one, htl, hdl, htx, hil, hmd, Nat.le_refl, List.length_append, List.length_cons, List.length_nil]
            repeat' (first | (with_reducible refine hK' _ ?_; clear hK' K'; try simp only [go_sem, Nat.zero_add, Int.toNat_natCast, Nat.mul_one, htl, hdl, htx, hil, hmd, Nat.le_refl, List.length_append, List.length_cons, List.length_nil]) | with_reducible refine And.intro (by first | omega | (unfold inI; omega)) ?_)
            refine anyN_step G_ok [0] (by decide +kernel) rfl ⟨⟨_, rfl, fun K' hK' => ?_⟩, trivial⟩
            (first | with_reducible refine s_none rfl ?_ | refine s_some2 rfl ?_)
            simp only [go_sem, Nat.zero_add, Int.toNat_natCast, Nat.mul_one, htl, hdl, htx, hil, hmd, Nat.le_refl, List.length_append, List.length_cons, List.length_nil]
            repeat' (first | (with_reducible refine hK' _ ?_; clear hK' K'; try simp only [go_sem, Nat.zero_add, Int.toNat_natCast, Nat.mul_one, htl, hdl, htx, hil, hmd, Nat.le_refl, List.length_append, List.length_cons, List.length_nil]) | with_reducible refine And.intro (by first | omega | (unfold inI; omega)) ?_)
            refine anyN_step G_ok [4] (by decide +kernel) rfl ⟨⟨_, rfl, fun K' hK' => ?_⟩, trivial⟩
            (first | with_reducible refine s_none rfl ?_ | refine s_some2 rfl ?_)
            simp only [go_sem, Nat.zero_add, Int.toNat_natCast, Nat.mul_one, htl, hdl, htx, hil, hmd, Nat.le_refl, List.length_append, List.length_cons, List.length_nil]
            repeat' (first | (with_reducible refine hK' _ ?_; clear hK' K'; try simp only [go_sem, Nat.zero_add, Int.toNat_natCast, Nat.mul_one, htl, hdl, htx, hil, hmd, Nat.le_refl, List.length_append, List.length_cons, List.length_nil]) | with_reducible refine And.intro (by first | omega | (unfold inI; omega)) ?_)
            refine anyN_step G_ok [7] (by decide +kernel) rfl ⟨⟨_, rfl, fun K' hK' => ?_⟩, trivial⟩
            (first | with_reducible refine s_none rfl ?_ | refine s_some2 rfl ?_)
            simp only [go_sem, Nat.zero_add, Int.toNat_natCast, Nat.mul_one, htl, hdl, htx, hil, hmd, Nat.le_refl, List.length_append, List.length_cons, List.length_nil]
            repeat' (first | (with_reducible refine hK' _ ?_; clear hK' K'; try simp only [go_sem, Nat.zero_add, Int.toNat_natCast, Nat.mul_one, htl, hdl, htx, hil, hmd, Nat.le_refl, List.length_append, List.length_cons, List.length_nil]) | with_reducible refine And.intro (by first | omega | (unfold inI; omega)) ?_)
            refine anyN_step G_ok [11] (by decide +kernel) rfl ⟨⟨_, rfl, fun K' hK' => ?_⟩, trivial⟩
            (first | with_reducible refine s_none rfl ?_ | refine s_some2 rfl ?_)
            simp only [go_sem, Nat.zero_add, Int.toNat_natCast, Nat.mul_one, htl, hdl, htx, hil, hmd, Nat.le_refl, List.length_append, List.length_cons, List.length_nil]
            repeat' (first | (with_reducible refine hK' _ ?_; clear hK' K'; try simp only [go_sem, Nat.zero_add, Int.toNat_natCast, Nat.mul_one, htl, hdl, htx, hil, hmd, Nat.le_refl, List.length_append, List.length_cons, List.length_nil]) | with_reducible refine And.intro (by first | omega | (unfold inI; omega)) ?_)
            refine anyN_take 12 rfl rfl rfl (by decide +kernel) (by decide +kernel) (by decide +kernel) (pure_move (.inr rfl)) ?_
            try simp only [go_sem, Nat.zero_add, Int.toNat_natCast, Nat.mul_one, htl, hdl, htx, hil, hmd, Nat.le_refl, List.length_append, List.length_cons, List.length_nil]
            refine anyN_done (by decide +kernel) ?_
            try simp only [go_sem, Nat.zero_add, Int.toNat_natCast, Nat.mul_one, htl, hdl, htx, hil, hmd, Nat.le_refl, List.length_append, List.length_cons, List.length_nil]
            repeat' (first | with_reducible refine thenA_normal ?_ | with_reducible refine inBlockA_same ?_ | with_reducible refine inBlockA_normal ?_)
            exact ⟨(r + (1 + v), insE1 l i ⟨7 * (l.length : Int) + 1 + u, (r : Int) + (1 + (v : Int))⟩, c2), ⟨by rw [hel]; omega, by rw [hel]; omega, hC.mono (by rw [hel]; omega), insE1_mem hl (by unfold entOk; simp only; omega)⟩, by rw [hel]; omega, (fits_mk [] (by simp [renL_d, bdL_d, sg, over, wipe, wl, memN, ins, rm, lk, fitFr, fit1, ren, renL, bd, bdL, app, fitHp, hget, renB, bdB, hel, hcont] <;> omega))⟩
      case' pos.refine_1.refine_2 =>
        rename_i u hu _ _ _ _
        refine pw_anyN mixed ?_
        refine anyN_take 1 rfl rfl rfl (by decide +kernel) (by decide +kernel) (by decide +kernel) (pure_move (.inl rfl)) ?_
        try simp only [go_sem, Nat.zero_add, Int.toNat_natCast, Nat.mul_one, htl, hdl, htx, hil, hmd, Nat.le_refl, List.length_append, List.length_cons, List.length_nil]
        refine anyN_take 2 rfl rfl rfl (by decide +kernel) (by decide +kernel) (by decide +kernel) (pure_move (.inl rfl)) ?_
        try simp only [go_sem, Nat.zero_add, Int.toNat_natCast, Nat.mul_one, htl, hdl, htx, hil, hmd, Nat.le_refl, List.length_append, List.length_cons, List.length_nil]
        refine anyN_take 3 rfl rfl rfl (by decide +kernel) (by decide +kernel) (by decide +kernel) (pure_slice rfl (G_ok _ _ G51) rfl rfl rfl (by omega) (by omega) (by omega) rfl) ?_
        try simp only [go_sem, Nat.zero_add, Int.toNat_natCast, Nat.mul_one, htl, hdl, htx, hil, hmd, Nat.le_refl, List.length_append, List.length_cons, List.length_nil]
        refine anyN_take 8 rfl rfl rfl (by decide +kernel) (by decide +kernel) (by decide +kernel) (pure_move (.inl rfl)) ?_
        try simp only [go_sem, Nat.zero_add, Int.toNat_natCast, Nat.mul_one, htl, hdl, htx, hil, hmd, Nat.le_refl, List.length_append, List.length_cons, List.length_nil]
        refine anyN_take 9 rfl rfl rfl (by decide +kernel) (by decide +kernel) (by decide +kernel) (pure_move (.inl rfl)) ?_
        try simp only [go_sem, Nat.zero_add, Int.toNat_natCast, Nat.mul_one, htl, hdl, htx, hil, hmd, Nat.le_refl, List.length_append, List.length_cons, List.length_nil]
        refine anyN_take 10 rfl rfl rfl (by decide +kernel) (by decide +kernel) (by decide +kernel) (pure_slice rfl (G_ok _ _ G51) rfl rfl rfl (by omega) (by omega) (by omega) rfl) ?_
        try simp only [go_sem, Nat.zero_add, Int.toNat_natCast, Nat.mul_one, htl, hdl, htx, hil, hmd, Nat.le_refl, List.length_append, List.length_cons, List.length_nil]
        refine anyN_step G_ok [0, 5] (by decide +kernel) rfl ⟨⟨_, rfl, fun K' hK' => ?_⟩, ⟨_, rfl, fun K' hK' => ?_⟩, trivial⟩
        · (first | with_reducible refine s_none rfl ?_ | refine s_some2 rfl ?_)
          simp only [go_sem, Nat.zero_add, Int.toNat_natCast, Nat.mul_one, htl, hdl, htx, hil, hmd, Nat.le_refl, List.length_append, List.length_cons, List.length_nil]
          repeat' (first | (with_reducible refine hK' _ ?_; clear hK' K'; try simp only [go_sem, Nat.zero_add, Int.toNat_natCast, Nat.mul_one, htl, hdl, htx, hil, hmd, Nat.le_refl, List.length_append, List.length_cons, List.length_nil]) | with_reducible refine And.intro (by first | omega | (unfold inI; omega)) ?_)
          refine anyN_step G_ok [4, 5] (by decide +kernel) rfl ⟨⟨_, rfl, fun K' hK' => ?_⟩, ⟨_, rfl, fun K' hK' => ?_⟩, trivial⟩
          · (first | with_reducible refine s_none rfl ?_ | refine s_some2 rfl ?_)
            simp only [go_sem, Nat.zero_add, Int.toNat_natCast, Nat.mul_one, htl, hdl, htx, hil, hmd, Nat.le_refl, List.length_append, List.length_cons, List.length_nil]
            repeat' (first | (with_reducible refine hK' _ ?_; clear hK' K'; try simp only [go_sem, Nat.zero_add, Int.toNat_natCast, Nat.mul_one, htl, hdl, htx, hil, hmd, Nat.le_refl, List.length_append, List.length_cons, List.length_nil]) | with_reducible refine And.intro (by first | omega | (unfold inI; omega)) ?_)
            refine anyN_step G_ok [5] (by decide +kernel) rfl ⟨⟨_, rfl, fun K' hK' => ?_⟩, trivial⟩
            (first | with_reducible refine s_none rfl ?_ | refine s_some2 rfl ?_)
            simp only [go_sem, Nat.zero_add, Int.toNat_natCast, Nat.mul_one, htl, hdl, htx, hil, hmd, Nat.le_refl, List.length_append, List.length_cons, List.length_nil]
            repeat' (first | (with_reducible refine hK' _ ?_; clear hK' K'; try simp only [go_sem, Nat.zero_add, Int.toNat_natCast, Nat.mul_one, htl, hdl, htx, hil, hmd, Nat.le_refl, List.length_append, List.length_cons, List.length_nil]) | with_reducible refine And.intro (by first | omega | (unfold inI; omega)) ?_)
            refine anyN_step G_ok [6] (by decide +kernel) rfl ⟨⟨_, rfl, fun K' hK' => ?_⟩, trivial⟩
            (first | with_reducible refine s_none rfl ?_ | refine s_some2 rfl ?_)
            simp only [go_sem, Nat.zero_add, Int.toNat_natCast, Nat.mul_one, htl, hdl, htx, hil, hmd, Nat.le_refl, List.length_append, List.length_cons, List.length_nil]
            repeat' (first | (with_reducible refine hK' _ ?_; clear hK' K'; try simp only [go_sem, Nat.zero_add, Int.toNat_natCast, Nat.mul_one, htl, hdl, htx, hil, hmd, Nat.le_refl, List.length_append, List.length_cons, List.length_nil]) | with_reducible refine And.intro (by first | omega | (unfold inI; omega)) ?_)
            refine anyN_step G_ok [7] (by decide +kernel) rfl ⟨⟨_, rfl, fun K' hK' => ?_⟩, trivial⟩
            (first | with_reducible refine s_none rfl ?_ | refine s_some2 rfl ?_)
            simp only [go_sem, Nat.zero_add, Int.toNat_natCast, Nat.mul_one, htl, hdl, htx, hil, hmd, Nat.le_refl, List.length_append, List.length_cons, List.length_nil]
            repeat' (first | (with_reducible refine hK' _ ?_; clear hK' K'; try simp only [go_sem, Nat.zero_add, Int.toNat_natCast, Nat.mul_one, htl, hdl, htx, hil, hmd, Nat.le_refl, List.length_append, List.length_cons, List.length_nil]) | with_reducible refine And.intro (by first | omega | (unfold inI; omega)) ?_)
            refine anyN_step G_ok [11] (by decide +kernel) rfl ⟨⟨_, rfl, fun K' hK' => ?_⟩, trivial⟩
            (first | with_reducible refine s_none rfl ?_ | refine s_some2 rfl ?_)
            simp only [go_sem, Nat.zero_add, Int.toNat_natCast, Nat.mul_one, htl, hdl, htx, hil, hmd, Nat.le_refl, List.length_append, List.length_cons, List.length_nil]
            repeat' (first | (with_reducible refine hK' _ ?_; clear hK' K'; try simp only [go_sem, Nat.zero_add, Int.toNat_natCast, Nat.mul_one, htl, hdl, htx, hil, hmd, Nat.le_refl, List.length_append, List.length_cons, List.length_nil]) | with_reducible refine And.intro (by first | omega | (unfold inI; omega)) ?_)
            refine anyN_take 12 rfl rfl rfl (by decide +kernel) (by decide +kernel) (by decide +kernel) (pure_move (.inr rfl)) ?_
            try simp only [go_sem, Nat.zero_add, Int.toNat_natCast, Nat.mul_one, htl, hdl, htx, hil, hmd, Nat.le_refl, List.length_append, List.length_cons, List.length_nil]
            refine anyN_done (by decide +kernel) ?_
            try simp only [go_sem, Nat.zero_add, Int.toNat_natCast, Nat.mul_one, htl, hdl, htx, hil, hmd, Nat.le_refl, List.length_append, List.length_cons, List.length_nil]
            repeat' (first | with_reducible refine thenA_normal ?_ | with_reducible refine inBlockA_same ?_ | with_reducible refine inBlockA_normal ?_)
            exact ⟨(r, insE1 l i ⟨7 * (l.length : Int) + 1 + u, 0⟩, c2), ⟨by rw [hel]; omega, by rw [hel]; omega, hC.mono (by rw [hel]; omega), insE1_mem hl (by unfold entOk; simp only; omega)⟩, by rw [hel]; omega, (fits_mk [] (by simp [renL_d, bdL_d, sg, over, wipe, wl, memN, ins, rm, lk, fitFr, fit1, ren, renL, bd, bdL, app, fitHp, hget, renB, bdB, hel, hcont] <;> omega))⟩
          · (first | with_reducible refine s_none rfl ?_ | refine s_some2 rfl ?_)
            simp only [go_sem, Nat.zero_add, Int.toNat_natCast, Nat.mul_one, htl, hdl, htx, hil, hmd, Nat.le_refl, List.length_append, List.length_cons, List.length_nil]
            repeat' (first | (with_reducible refine hK' _ ?_; clear hK' K'; try simp only [go_sem, Nat.zero_add, Int.toNat_natCast, Nat.mul_one, htl, hdl, htx, hil, hmd, Nat.le_refl, List.length_append, List.length_cons, List.length_nil]) | with_reducible refine And.intro (by first | omega | (unfold inI; omega)) ?_)
            refine anyN_step G_ok [4, 6] (by decide +kernel) rfl ⟨⟨_, rfl, fun K' hK' => ?_⟩, ⟨_, rfl, fun K' hK' => ?_⟩, trivial⟩
            · (first | with_reducible refine s_none rfl ?_ | refine s_some2 rfl ?_)
              simp only [go_sem, Nat.zero_add, Int.toNat_natCast, Nat.mul_one, htl, hdl, htx, hil, hmd, Nat.le_refl, List.length_append, List.length_cons, List.length_nil]
              repeat' (first | (with_reducible refine hK' _ ?_; clear hK' K'; try simp only [go_sem, Nat.zero_add, Int.toNat_natCast, Nat.mul_one, htl, hdl, htx, hil, hmd, Nat.le_refl, List.length_append, List.length_cons, List.length_nil]) | with_reducible refine And.intro (by first | omega | (unfold inI; omega)) ?_)
              refine anyN_step G_ok [6] (by decide +kernel) rfl ⟨⟨_, rfl, fun K' hK' => ?_⟩, trivial⟩
              (first | with_reducible refine s_none rfl ?_ | refine s_some2 rfl ?_)
              simp only [go_sem, Nat.zero_add, Int.toNat_natCast, Nat.mul_one, htl, hdl, htx, hil, hmd, Nat.le_refl, List.length_append, List.length_cons, List.length_nil]
              repeat' (first | (with_reducible refine hK' _ ?_; clear hK' K'; try simp only [go_sem, Nat.zero_add, Int.toNat_natCast, Nat.mul_one, htl, hdl, htx, hil, hmd, Nat.le_refl, List.length_append, List.length_cons, List.length_nil]) | with_reducible refine And.intro (by first | omega | (unfold inI; omega)) ?_)
              refine anyN_step G_ok [7] (by decide +kernel) rfl ⟨⟨_, rfl, fun K' hK' => ?_⟩, trivial⟩
              (first | with_reducible refine s_none rfl ?_ | refine s_some2 rfl ?_)
              simp only [go_sem, Nat.zero_add, Int.toNat_natCast, Nat.mul_one, htl, hdl, htx, hil, hmd, Nat.le_refl, List.length_append, List.length_cons, List.length_nil]
              repeat' (first | (with_reducible refine hK' _ ?_; clear hK' K'; try simp only [go_sem, Nat.zero_add, Int.toNat_natCast, Nat.mul_one, htl, hdl, htx, hil, hmd, Nat.le_refl, List.length_append, List.length_cons, List.length_nil]) | with_reducible refine And.intro (by first | omega | (unfold inI; omega)) ?_)
              refine anyN_step G_ok [11] (by decide +kernel) rfl ⟨⟨_, rfl, fun K' hK' => ?_⟩, trivial⟩
              (first | with_reducible refine s_none rfl ?_ | refine s_some2 rfl ?_)
              simp only [go_sem, Nat.zero_add, Int.toNat_natCast, Nat.mul_one, htl, hdl, htx, hil, hmd, Nat.le_refl, List.length_append, List.length_cons, List.length_nil]
              repeat' (first | (with_reducible refine hK' _ ?_; clear hK' K'; try simp only [go_sem, Nat.zero_add, Int.toNat_natCast, Nat.mul_one, htl, hdl, htx, hil, hmd, Nat.le_refl, List.length_append, List.length_cons, List.length_nil]) | with_reducible refine And.intro (by first | omega | (unfold inI; omega)) ?_)
              refine anyN_take 12 rfl rfl rfl (by decide +kernel) (by decide +kernel) (by decide +kernel) (pure_move (.inr rfl)) ?_
              try simp only [go_sem, Nat.zero_add, Int.toNat_natCast, Nat.mul_one, htl, hdl, htx, hil, hmd, Nat.le_refl, List.length_append, List.length_cons, List.length_nil]
              refine anyN_done (by decide +kernel) ?_
              try simp only [go_sem, Nat.zero_add, Int.toNat_natCast, Nat.mul_one, htl, hdl, htx, hil, hmd, Nat.le_refl, List.length_append, List.length_cons, List.length_nil]
              repeat' (first | with_reducible refine thenA_normal ?_ | with_reducible refine inBlockA_same ?_ | with_reducible refine inBlockA_normal ?_)
              exact ⟨(r, insE1 l i ⟨7 * (l.length : Int) + 1 + u, 0⟩, c2), ⟨by rw [hel]; omega, by rw [hel]; omega, hC.mono (by rw [hel]; omega), insE1_mem hl (by unfold entOk; simp only; omega)⟩, by rw [hel]; omega, (fits_mk [] (by simp [renL_d, bdL_d, sg, over, wipe, wl, memN, ins, rm, lk, fitFr, fit1, ren, renL, bd, bdL, app, fitHp, hget, renB, bdB, hel, hcont] <;> omega))⟩
            · (first | with_reducible refine s_none rfl ?_ | refine s_some2 rfl ?_)
              simp only [go_sem, Nat.zero_add, Int.toNat_natCast, Nat.mul_one, htl, hdl, htx, hil, hmd, Nat.le_refl, List.length_append, List.length_cons, List.length_nil]
              repeat' (first | (with_reducible refine hK' _ ?_; clear hK' K'; try simp only [go_sem, Nat.zero_add, Int.toNat_natCast, Nat.mul_one, htl, hdl, htx, hil, hmd, Nat.le_refl, List.length_append, List.length_cons, List.length_nil]) | with_reducible refine And.intro (by first | omega | (unfold inI; omega)) ?_)
              refine anyN_step G_ok [4] (by decide +kernel) rfl ⟨⟨_, rfl, fun K' hK' => ?_⟩, trivial⟩
              (first | with_reducible refine s_none rfl ?_ | refine s_some2 rfl ?_)
              simp only [go_sem, Nat.zero_add, Int.toNat_natCast, Nat.mul_one, htl, hdl, htx, hil, hmd, Nat.le_refl, List.length_append, List.length_cons, List.length_nil]
              repeat' (first | (with_reducible refine hK' _ ?_; clear hK' K'; try simp only [go_sem, Nat.zero_add, Int.toNat_natCast, Nat.mul_one, htl, hdl, htx, hil, hmd, Nat.le_refl, List.length_append, List.length_cons, List.length_nil]) | with_reducible refine And.intro (by first | omega | (unfold inI; omega)) ?_)
              refine anyN_step G_ok [7] (by decide +kernel) rfl ⟨⟨_, rfl, fun K' hK' => ?_⟩, trivial⟩
              (first | with_reducible refine s_none rfl ?_ | refine s_some2 rfl ?_)
              simp only [go_sem, Nat.zero_add, Int.toNat_natCast, Nat.mul_one, htl, hdl, htx, hil, hmd, Nat.le_refl, List.length_append, List.length_cons, List.length_nil]
              repeat' (first | (with_reducible refine hK' _ ?_; clear hK' K'; try simp only [go_sem, Nat.zero_add, Int.toNat_natCast, Nat.mul_one, htl, hdl, htx, hil, hmd, Nat.le_refl, List.length_append, List.length_cons, List.length_nil]) | with_reducible refine And.intro (by first | omega | (unfold inI; omega)) ?_)
              refine anyN_step G_ok [11] (by decide +kernel) rfl ⟨⟨_, rfl, fun K' hK' => ?_⟩, trivial⟩
              (first | with_reducible refine s_none rfl ?_ | refine s_some2 rfl ?_)
              simp only [go_sem, Nat.zero_add, Int.toNat_natCast, Nat.mul_one, htl, hdl, htx, hil, hmd, Nat.le_refl, List.length_append, List.length_cons, List.length_nil]
              repeat' (first | (with_reducible refine hK' _ ?_; clear hK' K'; try simp only [go_sem, Nat.zero_add, Int.toNat_natCast, Nat.mul_one, htl, hdl, htx, hil, hmd, Nat.le_refl, List.length_append, List.length_cons, List.length_nil]) | with_reducible refine And.intro (by first | omega | (unfold inI; omega)) ?_)
              refine anyN_take 12 rfl rfl rfl (by decide +kernel) (by decide +kernel) (by decide +kernel) (pure_move (.inr rfl)) ?_
              try simp only [go_sem, Nat.zero_add, Int.toNat_natCast, Nat.mul_one, htl, hdl, htx, hil, hmd, Nat.le_refl, List.length_append, List.length_cons, List.length_nil]
              refine anyN_done (by decide +kernel) ?_
              try simp only [go_sem, Nat.zero_add, Int.toNat_natCast, Nat.mul_one, htl, hdl, htx, hil, hmd, Nat.le_refl, List.length_append, List.length_cons, List.length_nil]
              repeat' (first | with_reducible refine thenA_normal ?_ | with_reducible refine inBlockA_same ?_ | with_reducible refine inBlockA_normal ?_)
              exact ⟨(r, insE1 l i ⟨7 * (l.length : Int) + 1 + u, 0⟩, c2), ⟨by rw [hel]; omega, by rw [hel]; omega, hC.mono (by rw [hel]; omega), insE1_mem hl (by unfold entOk; simp only; omega)⟩, by rw [hel]; omega, (fits_mk [] (by simp [renL_d, bdL_d, sg, over, wipe, wl, memN, ins, rm, lk, fitFr, fit1, ren, renL, bd, bdL, app, fitHp, hget, renB, bdB, hel, hcont] <;> omega))⟩
        · (first | with_reducible refine s_none rfl ?_ | refine s_some2 rfl ?_)
          simp only [go_sem, Nat.zero_add, Int.toNat_natCast, Nat.mul_one, htl, hdl, htx, hil, hmd, Nat.le_refl, List.length_append, List.length_cons, List.length_nil]
          repeat' (first | (with_reducible refine hK' _ ?_; clear hK' K'; try simp only [go_sem, Nat.zero_add, Int.toNat_natCast, Nat.mul_one, htl, hdl, htx, hil, hmd, Nat.le_refl, List.length_append, List.length_cons, List.length_nil]) | with_reducible refine And.intro (by first | omega | (unfold inI; omega)) ?_)
          refine anyN_step G_ok [0, 6] (by decide +kernel) rfl ⟨⟨_, rfl, fun K' hK' => ?_⟩, ⟨_, rfl, fun K' hK' => ?_⟩, trivial⟩
          · (first | with_reducible refine s_none rfl ?_ | refine s_some2 rfl ?_)
            simp only [go_sem, Nat.zero_add, Int.toNat_natCast, Nat.mul_one, htl, hdl, htx, hil, hmd, Nat.le_refl, List.length_append, List.length_cons, List.length_nil]
            repeat' (first | (with_reducible refine hK' _ ?_; clear hK' K'; try simp only [go_sem, Nat.zero_add, Int.toNat_natCast, Nat.mul_one, htl, hdl, htx, hil, hmd, Nat.le_refl, List.length_append, List.length_cons, List.length_nil]) | with_reducible refine And.intro (by first | omega | (unfold inI; omega)) ?_)
            refine anyN_step G_ok [4, 6] (by decide +kernel) rfl ⟨⟨_, rfl, fun K' hK' => ?_⟩, ⟨_, rfl, fun K' hK' => ?_⟩, trivial⟩
            · (first | with_reducible refine s_none rfl ?_ | refine s_some2 rfl ?_)
              simp only [go_sem, Nat.zero_add, Int.toNat_natCast, Nat.mul_one, htl, hdl, htx, hil, hmd, Nat.le_refl, List.length_append, List.length_cons, List.length_nil]
              repeat' (first | (with_reducible refine hK' _ ?_; clear hK' K'; try simp only [go_sem, Nat.zero_add, Int.toNat_natCast, Nat.mul_one, htl, hdl, htx, hil, hmd, Nat.le_refl, List.length_append, List.length_cons, List.length_nil]) | with_reducible refine And.intro (by first | omega | (unfold inI; omega)) ?_)
              refine anyN_step G_ok [6] (by decide +kernel) rfl ⟨⟨_, rfl, fun K' hK' => ?_⟩, trivial⟩
              (first | with_reducible refine s_none rfl ?_ | refine s_some2 rfl ?_)
              simp only [go_sem, Nat.zero_add, Int.toNat_natCast, Nat.mul_one, htl, hdl, htx, hil, hmd, Nat.le_refl, List.length_append, List.length_cons, List.length_nil]
              repeat' (first | (with_reducible refine hK' _ ?_; clear hK' K'; try simp only [go_sem, Nat.zero_add, Int.toNat_natCast, Nat.mul_one, htl, hdl, htx, hil, hmd, Nat.le_refl, List.length_append, List.length_cons, List.length_nil]) | with_reducible refine And.intro (by first | omega | (unfold inI; omega)) ?_)
              refine anyN_step G_ok [7] (by decide +kernel) rfl ⟨⟨_, rfl, fun K' hK' => ?_⟩, trivial⟩
              (first | with_reducible refine s_none rfl ?_ | refine s_some2 rfl ?_)
              simp only [go_sem, Nat.zero_add, Int.toNat_natCast, Nat.mul_one, htl, hdl, htx, hil, hmd, Nat.le_refl, List.length_append, List.length_cons, List.length_nil]
              repeat' (first | (with_reducible refine hK' _ ?_; clear hK' K'; try simp only [go_sem, Nat.zero_add, Int.toNat_natCast, Nat.mul_one, htl, hdl, htx, hil, hmd, Nat.le_refl, List.length_append, List.length_cons, List.length_nil]) | with_reducible refine And.intro (by first | omega | (unfold inI; omega)) ?_)
              refine anyN_step G_ok [11] (by decide +kernel) rfl ⟨⟨_, rfl, fun K' hK' => ?_⟩, trivial⟩
              (first | with_reducible refine s_none rfl ?_ | refine s_some2 rfl ?_)
              simp only [go_sem, Nat.zero_add, Int.toNat_natCast, Nat.mul_one, htl, hdl, htx, hil, hmd, Nat.le_refl, List.length_append, List.length_cons, List.length_nil]
              repeat' (first | (with_reducible refine hK' _ ?_; clear hK' K'; try simp only [go_sem, Nat.zero_add, Int.toNat_natCast, Nat.mul_one, htl, hdl, htx, hil, hmd, Nat.le_refl, List.length_append, List.length_cons, List.length_nil]) | with_reducible refine And.intro (by first | omega | (unfold inI; omega)) ?_)
              refine anyN_take 12 rfl rfl rfl (by decide +kernel) (by decide +kernel) (by decide +kernel) (pure_move (.inr rfl)) ?_
              try simp only [go_sem, Nat.zero_add, Int.toNat_natCast, Nat.mul_one, htl, hdl, htx, hil, hmd, Nat.le_refl, List.length_append, List.length_cons, List.length_nil]
              refine anyN_done (by decide +kernel) ?_
              try simp only [go_sem, Nat.zero_add, Int.toNat_natCast, Nat.mul_one, htl, hdl, htx, hil, hmd, Nat.le_refl, List.length_append, List.length_cons, List.length_nil]
              repeat' (first | with_reducible refine thenA_normal ?_ | with_reducible refine inBlockA_same ?_ | with_reducible refine inBlockA_normal ?_)
              exact ⟨(r, insE1 l i ⟨7 * (l.length : Int) + 1 + u, 0⟩, c2), ⟨by rw [hel]; omega, by rw [hel]; omega, hC.mono (by rw [hel]; omega), insE1_mem hl (by unfold entOk; simp only; omega)⟩, by rw [hel]; omega, (fits_mk [] (by simp [renL_d, bdL_d, sg, over, wipe, wl, memN, ins, rm, lk, fitFr, fit1, ren, renL, bd, bdL, app, fitHp, hget, renB, bdB, hel, hcont] <;> omega))⟩
            · (first | with_reducible refine s_none rfl ?_ | refine s_some2 rfl ?_)
              simp only [go_sem, Nat.zero_add, Int.toNat_natCast, Nat.mul_one, htl, hdl, htx, hil, hmd, Nat.le_refl, List.length_append, List.length_cons, List.length_nil]
              repeat' (first | (with_reducible refine hK' _ ?_; clear hK' K'; try simp only [go_sem, Nat.zero_add, Int.toNat_natCast, Nat.mul_one, htl, hdl, htx, hil, hmd, Nat.le_refl, List.length_append, List.length_cons, List.length_nil]) | with_reducible refine And.intro (by first | omega | (unfold inI; omega)) ?_)
              refine anyN_step G_ok [4] (by decide +kernel) rfl ⟨⟨_, rfl, fun K' hK' => ?_⟩, trivial⟩
              (first | with_reducible refine s_none rfl ?_ | refine s_some2 rfl ?_)
              simp only [go_sem, Nat.zero_add, Int.toNat_natCast, Nat.mul_one, htl, hdl, htx, hil, hmd, Nat.le_refl, List.length_append, List.length_cons, List.length_nil]
              repeat' (first | (with_reducible refine hK' _ ?_; clear hK' K'; try simp only [go_sem, Nat.zero_add, Int.toNat_natCast, Nat.mul_one, htl, hdl, htx, hil, hmd, Nat.le_refl, List.length_append, List.length_cons, List.length_nil]) | with_reducible refine And.intro (by first | omega | (unfold inI; omega)) ?_)
              refine anyN_step G_ok [7] (by decide +kernel) rfl ⟨⟨_, rfl, fun K' hK' => ?_⟩, trivial⟩
              (first | with_reducible refine s_none rfl ?_ | refine s_some2 rfl ?_)
              simp only [go_sem, Nat.zero_add, Int.toNat_natCast, Nat.mul_one, htl, hdl, htx, hil, hmd, Nat.le_refl, List.length_append, List.length_cons, List.length_nil]
              repeat' (first | (with_reducible refine hK' _ ?_; clear hK' K'; try simp only [go_sem, Nat.zero_add, Int.toNat_natCast, Nat.mul_one, htl, hdl, htx, hil, hmd, Nat.le_refl, List.length_append, List.length_cons, List.length_nil]) | with_reducible refine And.intro (by first | omega | (unfold inI; omega)) ?_)
              refine anyN_step G_ok [11] (by decide +kernel) rfl ⟨⟨_, rfl, fun K' hK' => ?_⟩, trivial⟩
              (first | with_reducible refine s_none rfl ?_ | refine s_some2 rfl ?_)
              simp only [go_sem, Nat.zero_add, Int.toNat_natCast, Nat.mul_one, htl, hdl, htx, hil, hmd, Nat.le_refl, List.length_append, List.length_cons, List.length_nil]
              repeat' (first | (with_reducible refine hK' _ ?_; clear hK' K'; try simp only [go_sem, Nat.zero_add, Int.toNat_natCast, Nat.mul_one, htl, hdl, htx, hil, hmd, Nat.le_refl, List.length_append, List.length_cons, List.length_nil]) | with_reducible refine And.intro (by first | omega | (unfold inI; omega)) ?_)
              refine anyN_take 12 rfl rfl rfl (by decide +kernel) (by decide +kernel) (by decide +kernel) (pure_move (.inr rfl)) ?_
              try simp only [go_sem, Nat.zero_add, Int.toNat_natCast, Nat.mul_one, htl, hdl, htx, hil, hmd, Nat.le_refl, List.length_append, List.length_cons, List.length_nil]
              refine anyN_done (by decide +kernel) ?_
              try simp only [go_sem, Nat.zero_add, Int.toNat_natCast, Nat.mul_one, htl, hdl, htx, hil, hmd, Nat.le_refl, List.length_append, List.length_cons, List.length_nil]
              repeat' (first | with_reducible refine thenA_normal ?_ | with_reducible refine inBlockA_same ?_ | with_reducible refine inBlockA_normal ?_)
              exact ⟨(r, insE1 l i ⟨7 * (l.length : Int) + 1 + u, 0⟩, c2), ⟨by rw [hel]; omega, by rw [hel]; omega, hC.mono (by rw [hel]; omega), insE1_mem hl (by unfold entOk; simp only; omega)⟩, by rw [hel]; omega, (fits_mk [] (by simp [renL_d, bdL_d, sg, over, wipe, wl, memN, ins, rm, lk, fitFr, fit1, ren, renL, bd, bdL, app, fitHp, hget, renB, bdB, hel, hcont] <;> omega))⟩
          · (first | with_reducible refine s_none rfl ?_ | refine s_some2 rfl ?_)
            simp only [go_sem, Nat.zero_add, Int.toNat_natCast, Nat.mul_one, htl, hdl, htx, hil, hmd, Nat.le_refl, List.length_append, List.length_cons, List.length_nil]
            repeat' (first | (with_reducible refine hK' _ ?_; clear hK' K'; try simp only [go_sem, Nat.zero_add, Int.toNat_natCast, Nat.mul_one, htl, hdl, htx, hil, hmd, Nat.le_refl, List.length_append, List.length_cons, List.length_nil]) | with_reducible refine And.intro (by first | omega | (unfold inI; omega)) ?_)
            refine anyN_step G_ok [0] (by decide +kernel) rfl ⟨⟨_, rfl, fun K' hK' => ?_⟩, trivial⟩
            (first | with_reducible refine s_none rfl ?_ | refine s_some2 rfl ?_)
            simp only [go_sem, Nat.zero_add, Int.toNat_natCast, Nat.mul_one, htl, hdl, htx, hil, hmd, Nat.le_refl, List.length_append, List.length_cons, List.length_nil]
            repeat' (first | (with_reducible refine hK' _ ?_; clear hK' K'; try simp only [go_sem, Nat.zero_add, Int.toNat_natCast, Nat.mul_one, htl, hdl, htx, hil, hmd, Nat.le_refl, List.length_append, List.length_cons, List.length_nil]) | with_reducible refine And.intro (by first | omega | (unfold inI; omega)) ?_)
            refine anyN_step G_ok [4] (by decide +kernel) rfl ⟨⟨_, rfl, fun K' hK' => ?_⟩, trivial⟩
            (first | with_reducible refine s_none rfl ?_ | refine s_some2 rfl ?_)
            simp only [go_sem, Nat.zero_add, Int.toNat_natCast, Nat.mul_one, htl, hdl, htx, hil, hmd, Nat.le_refl, List.length_append, List.length_cons, List.length_nil]
            repeat' (first | (with_reducible refine hK' _ ?_; clear hK' K'; try simp only [go_sem, Nat.zero_add, Int.toNat_natCast, Nat.mul_one, htl, hdl, htx, hil, hmd, Nat.le_refl, List.length_append, List.length_cons, List.length_nil]) | with_reducible refine And.intro (by first | omega | (unfold inI; omega)) ?_)
            refine anyN_step G_ok [7] (by decide +kernel) rfl ⟨⟨_, rfl, fun K' hK' => ?_⟩, trivial⟩
            (first | with_reducible refine s_none rfl ?_ | refine s_some2 rfl ?_)
            simp only [go_sem, Nat.zero_add, Int.toNat_natCast, Nat.mul_one, htl, hdl, htx, hil, hmd, Nat.le_refl, List.length_append, List.length_cons, List.length_nil]
            repeat' (first | (with_reducible refine hK' _ ?_; clear hK' K'; try simp only [go_sem, Nat.zero_add, Int.toNat_natCast, Nat.mul_one, htl, hdl, htx, hil, hmd, Nat.le_refl, List.length_append, List.length_cons, List.length_nil]) | with_reducible refine And.intro (by first | omega | (unfold inI; omega)) ?_)
            refine anyN_step G_ok [11] (by decide +kernel) rfl ⟨⟨_, rfl, fun K' hK' => ?_⟩, trivial⟩
            (first | with_reducible refine s_none rfl ?_ | refine s_some2 rfl ?_)
            simp only [go_sem, Nat.zero_add, Int.toNat_natCast, Nat.mul_one, htl, hdl, htx, hil, hmd, Nat.le_refl, List.length_append, List.length_cons, List.length_nil]
            repeat' (first | (with_reducible refine hK' _ ?_; clear hK' K'; try simp only [go_sem, Nat.zero_add, Int.toNat_natCast, Nat.mul_one, htl, hdl, htx, hil, hmd, Nat.le_refl, List.length_append, List.length_cons, List.length_nil]) | with_reducible refine And.intro (by first | omega | (unfold inI; omega)) ?_)
            refine anyN_take 12 rfl rfl rfl (by decide +kernel) (by decide +kernel) (by decide +kernel) (pure_move (.inr rfl)) ?_
            try simp only [go_sem, Nat.zero_add, Int.toNat_natCast, Nat.mul_one, htl, hdl, htx, hil, hmd, Nat.le_refl, List.length_append, List.length_cons, List.length_nil]
            refine anyN_done (by decide +kernel) ?_
            try simp only [go_sem, Nat.zero_add, Int.toNat_natCast, Nat.mul_one, htl, hdl, htx, hil, hmd, Nat.le_refl, List.length_append, List.length_cons, List.length_nil]
            repeat' (first | with_reducible refine thenA_normal ?_ | with_reducible refine inBlockA_same ?_ | with_reducible refine inBlockA_normal ?_)
            exact ⟨(r, insE1 l i ⟨7 * (l.length : Int) + 1 + u, 0⟩, c2), ⟨by rw [hel]; omega, by rw [hel]; omega, hC.mono (by rw [hel]; omega), insE1_mem hl (by unfold entOk; simp only; omega)⟩, by rw [hel]; omega, (fits_mk [] (by simp [renL_d, bdL_d, sg, over, wipe, wl, memN, ins, rm, lk, fitFr, fit1, ren, renL, bd, bdL, app, fitHp, hget, renB, bdB, hel, hcont] <;> omega))⟩
    · have hlN : l.length = N := by omega
      have hlt' : ¬ (l.length : Int) < (N : Int) := by omega
      by_cases hN0 : N = 0
      · repeat' (first | ((with_reducible first | (refine hK _ ?_; clear hK K) | refine stq fun K' hK' => ?_ | refine stc ?_); try simp only [go_sem, hlt', hN0]) | (with_reducible first | refine stp ?_ | (refine hK' _ ?_; clear hK' K') | refine kN kl109 fun K hK => ?_ | refine kO fun K hK => ?_) | refine iB ?_ | (with_reducible refine pK_mk ?_ ?_ <;> (intro hc; (try simp only [go_sem, hlt', hN0]); (try simp at hc); try (exfalso; omega))) | with_reducible refine And.intro (by first | omega | (unfold inI; omega)) ?_)
        all_goals first
          | (exfalso; omega)
          | (refine retC_ret (id := 0) _ rfl (by simp only [retL, ret1, hget, lk, List.length_map, List.length_nil, List.length_append, List.length_take, List.length_cons, if_true, if_false, Nat.reduceEqDiff, Nat.reduceBEq, Bool.false_eq_true, Option.some.injEq]; rfl) (by simp [rowsOf, lk]) rfl (Cur.len (by assumption)) ⟨l, ?_, (by simp [datI]), Cur.mono (by assumption) (by omega)⟩; exact ⟨by omega, hl⟩)
      · have hN1 : 0 < (N : Int) := by omega
        repeat' (first | ((with_reducible first | (refine hK _ ?_; clear hK K) | refine stq fun K' hK' => ?_ | refine stc ?_); try simp only [go_sem, hlt']) | (with_reducible first | refine stp ?_ | (refine hK' _ ?_; clear hK' K') | refine kN kl109 fun K hK => ?_ | refine kO fun K hK => ?_) | ((first | refine CallK.cur (some 0) (pick_ok (by assumption) (by omega)) rfl rfl rfl rfl rfl rfl ?_); rintro c2 _ ⟨x, hx, rfl, hC⟩; try simp only [mkB, go_sem, hlt']) | ((first | refine CallK.cur (some 0) (pick_ok (by assumption) (by omega)) rfl rfl rfl rfl rfl rfl ?_); rintro c2 _ ⟨x, hx, rfl, hC⟩; try simp only [mkB, go_sem, hlt']) | refine iB ?_ | (with_reducible refine pK_mk ?_ ?_ <;> (intro hc; (try simp only [go_sem, hlt']); (try simp at hc); try (exfalso; omega))) | with_reducible refine And.intro (by first | omega | (unfold inI; omega)) ?_)
        obtain ⟨i, rfl⟩ : ∃ i : Nat, x = i := ⟨x.toNat, by omega⟩
        have hil : i < l.length := by omega
        have hl0 : 0 < l.length := by omega
        have hi := List.getElem?_eq_getElem hil
        have h0 := List.getElem?_eq_getElem hl0
        have he0 := hl _ (List.getElem_mem hl0)
        have hei := hl _ (List.getElem_mem hil)
        generalize l[i] = e at hi hei
        generalize l[0] = e0 at h0 he0
        unfold entOk at he0 hei
        have hset1 : ∀ a : Int, (List.map EntrantD.dat l).set i [D.int .i64 a, D.int .i64 e.rank] = (l.set i ⟨a, e.rank⟩).map EntrantD.dat := by intro a; rw [List.map_set]; rfl
        have hset2 : ∀ a : Int, (List.map EntrantD.dat l).set i [D.int .i64 e.skater, D.int .i64 a] = (l.set i ⟨e.skater, a⟩).map EntrantD.dat := by intro a; rw [List.map_set]; rfl
        simp only [Int.toNat_natCast, hil, if_true]
        repeat' (first | ((with_reducible first | (refine hK _ ?_; clear hK K) | refine stq fun K' hK' => ?_ | refine stc ?_); try simp only [go_sem, hil, hl0, List.getElem?_map, hi, h0, Option.map_some, EntrantD.dat]) | (with_reducible first | refine stp ?_ | (refine hK' _ ?_; clear hK' K') | refine kN kl109 fun K hK => ?_ | refine kO fun K hK => ?_) | ((first | refine CallK.cur (some 0) (pick_ok (by assumption) (by omega)) rfl rfl rfl rfl rfl rfl ?_ | refine CallK.cur (some 0) (among_ok (l := [0, 999, 1000, e0.skater]) (by assumption) (by omega) (by simp) (by simp)) rfl rfl rfl rfl rfl rfl ?_ | refine CallK.cur (some 0) (among_ok (l := [-1, 999, 1000, e0.rank]) (by assumption) (by omega) (by simp) (by simp)) rfl rfl rfl rfl rfl rfl ?_); rintro c2 _ ⟨x, hx, rfl, hC⟩; try simp only [mkB, go_sem, hil, hl0, List.getElem?_map, hi, h0, Option.map_some, EntrantD.dat]) | ((first | refine CallK.cur (some 0) (pick_ok (by assumption) (by omega)) rfl rfl rfl rfl rfl rfl ?_ | refine CallK.cur (some 0) (among_ok (l := [0, 999, 1000, e0.skater]) (by assumption) (by omega) (by simp) (by simp)) rfl rfl rfl rfl rfl rfl ?_ | refine CallK.cur (some 0) (among_ok (l := [-1, 999, 1000, e0.rank]) (by assumption) (by omega) (by simp) (by simp)) rfl rfl rfl rfl rfl rfl ?_); rintro c2 _ ⟨x, hx, rfl, hC⟩; try simp only [mkB, go_sem, hil, hl0, List.getElem?_map, hi, h0, Option.map_some, EntrantD.dat]) | refine iB ?_ | (with_reducible refine pK_mk ?_ ?_ <;> (intro hc; (try simp only [go_sem, hil, hl0, List.getElem?_map, hi, h0, Option.map_some, EntrantD.dat]); (try simp at hc); try (exfalso; omega))) | with_reducible refine And.intro (by first | omega | (unfold inI; omega)) ?_)
        · simp at hx
          refine retC_ret (id := 0) _ rfl (by simp only [retL, ret1, hget, lk, List.length_map, List.length_nil, List.length_append, List.length_take, List.length_cons, if_true, if_false, Nat.reduceEqDiff, Nat.reduceBEq, Bool.false_eq_true, Option.some.injEq, hset1, List.length_set]; rfl) (by simp [rowsOf, lk]) rfl (Cur.len (by assumption)) ⟨l.set i ⟨x, e.rank⟩, ?_, (by simp [datI, hset1, List.length_set]), Cur.mono (by assumption) (by omega)⟩
          exact ⟨by simp; omega, setE_mem hl (by unfold entOk; simp only; omega)⟩
        · simp at hx
          refine retC_ret (id := 0) _ rfl (by simp only [retL, ret1, hget, lk, List.length_map, List.length_nil, List.length_append, List.length_take, List.length_cons, if_true, if_false, Nat.reduceEqDiff, Nat.reduceBEq, Bool.false_eq_true, Option.some.injEq, hset2, List.length_set]; rfl) (by simp [rowsOf, lk]) rfl (Cur.len (by assumption)) ⟨l.set i ⟨e.skater, x⟩, ?_, (by simp [datI, hset2, List.length_set]), Cur.mono (by assumption) (by omega)⟩
          exact ⟨by simp; omega, setE_mem hl (by unfold entOk; simp only; omega)⟩
        · refine retC_ret (id := 0) _ rfl (by simp only [retL, ret1, hget, lk, List.length_map, List.length_nil, List.length_append, List.length_take, List.length_cons, if_true, if_false, Nat.reduceEqDiff, Nat.reduceBEq, Bool.false_eq_true, Option.some.injEq]; rfl) (by simp [rowsOf, lk]) rfl (Cur.len (by assumption)) ⟨l, ?_, (by simp [datI]), Cur.mono (by assumption) (by omega)⟩
          exact ⟨by omega, hl⟩
end Go.Proofs.YthocihmhljmgdaaGreatDoor
