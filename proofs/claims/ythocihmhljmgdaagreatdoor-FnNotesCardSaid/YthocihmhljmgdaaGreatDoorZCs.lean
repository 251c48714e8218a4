/-
  Drawn lists of results.
-/
import Derived.Test.YthocihmhljmgdaaGreatDoorZCr
import Derived.Test.YthocihmhljmgdaaGreatDoorZIns
set_option linter.unusedSimpArgs false
set_option linter.unusedVariables false
set_option maxHeartbeats 2000000
set_option maxRecDepth 100000
namespace Go.Proofs.YthocihmhljmgdaaGreatDoor
open Go.RowKit

def resOk (n : Nat) (r : ResultD) : Prop := 0 ≤ r.skater ∧ r.skater ≤ 1000 ∧ r.scores.length = n ∧ ∀ x ∈ r.scores, scOk x
def ownRV (l : List ResultD) : RV := if l = [] then .row 92 2 [] else .deep 92 2 (l.map ResultD.dat)
theorem mem_appR {l : List ResultD} {x : ResultD} {p : ResultD → Prop} (h : ∀ y ∈ l, p y) (hx : p x) : ∀ y ∈ l ++ [x], p y := by
  intro y hy
  rcases List.mem_append.1 hy with h1 | h1
  · exact h y h1
  · rw [List.mem_singleton.1 h1]; exact hx
theorem dat1 (r : ResultD) : r.dat[1]? = some (.lst 1 (r.scores.map datI)) := rfl
theorem dat0 (r : ResultD) : r.dat[0]? = some (.int .i64 r.skater) := rfl
theorem rdatS (r : ResultD) (d : D) : List.take 1 r.dat ++ [d] ++ List.drop 2 r.dat = [.int .i64 r.skater, d] := rfl
theorem ownRV_pos {l : List ResultD} (h : 0 < l.length) : ownRV l = .deep 92 2 (l.map ResultD.dat) := by
  unfold ownRV
  rw [if_neg (fun e => by rw [e] at h; exact absurd h (by simp))]
theorem results_ok {k : Nat} {cs : List D} {n : Nat} (hC : Cur k cs) (hk : k ≤ 100000000) (hn1 : 1 ≤ n) (hn : n ≤ 3) : FnC Tryz.prog 106 3 [.int .i64 (n : Int)] cs (PostX (k + 2000) (fun l : List ResultD => l.length ≤ 40 ∧ ∀ r ∈ l, resOk n r) fun l => [ownRV l]) := by
  refine fn_okC G_ok Tryz.func106 rfl rfl hC.len fun ty => ?_; simp only [Tryz.ntmps106, List.length_cons, List.length_nil, Nat.reduceAdd, Nat.reduceSub, List.map_cons, List.map_nil, List.length_map, enm]
  repeat' (first | ((with_reducible first | (refine hK _ ?_; clear hK K) | refine stq fun K' hK' => ?_ | refine stc ?_); try simp only [go_sem]) | (with_reducible first | refine stp ?_ | (refine hK' _ ?_; clear hK' K') | refine kN kl106 fun K hK => ?_ | refine kO fun K hK => ?_) | (refine xS rfl fun K' hK' => ?_; simp only [go_sem]) | ((first | refine CallK.cur (some 0) (pick_ok (by assumption) (by omega)) rfl rfl rfl rfl rfl rfl ?_ | refine CallK.cur (some 0) (onec_ok (by assumption) (by omega)) rfl rfl rfl rfl rfl rfl ?_); rintro c2 _ ⟨x, hx, rfl, hC⟩; try simp only [mkB, go_sem]) | ((first | refine CallK.cur (some 0) (pick_ok (by assumption) (by omega)) rfl rfl rfl rfl rfl rfl ?_ | refine CallK.cur (some 0) (onec_ok (by assumption) (by omega)) rfl rfl rfl rfl rfl rfl ?_); rintro c2 _ ⟨x, hx, rfl, hC⟩; try simp only [mkB, go_sem]) | refine iB ?_ | (with_reducible refine pK_mk ?_ ?_ <;> (intro hc; (try simp only [go_sem]); (try simp at hc); try (exfalso; omega))) | with_reducible refine And.intro (by first | omega | (unfold inI; omega)) ?_)
  case' refine_1 =>
    obtain ⟨N, hm⟩ : ∃ N : Nat, (40 : Int) = (N : Int) := ⟨40, rfl⟩
    have hN : N ≤ 40 := by omega
    have hC6 : Cur (k + 6) c2 := hC.mono (by omega)
  case' refine_2 =>
    rename_i y hy _
    obtain ⟨N, hm⟩ : ∃ N : Nat, y = (N : Int) := ⟨y.toNat, by omega⟩
    have hN : N ≤ 40 := by omega
    have hC6 : Cur (k + 6) c2 := hC.mono (by omega)
  all_goals
    refine pw_fits (s0 := ⟨⟨104, [(0, .bptr 0 0), (1, .d (.int .i64 (n : Int))), (5, .row 1 0), (6, .d (.int .i64 (N : Int)))]⟩, [(0, .pbox 0 ty (c2.map .d)), (1, .row 92 2 [])], 2⟩) (fits_mk [] (by simp [renL_d, bdL_d, sg, over, wipe, wl, memN, ins, rm, lk, fitFr, fit1, ren, renL, bd, bdL, app, fitHp, hget, renB, bdB, hm] <;> omega)) ?_
    refine pw_loop_over [4, 5, 11, 12, 13, 14, 15, 16, 17, 18, 19, 20, 21, 22, 23, 24, 25, 26, 27] (fun q : List ResultD × List D => [(0, .bptr 0 0), (1, .d (.int .i64 (n : Int))), (5, .row 1 q.1.length), (6, .d (.int .i64 (N : Int)))]) (fun q => [(0, .pbox 0 ty (q.2.map .d)), (1, ownB q.1 q.1.length)]) 2 (fun q => q.1.length ≤ N ∧ Cur (k + 6 + 44 * q.1.length) q.2 ∧ ∀ r ∈ q.1, resOk n r) (fun q => N - q.1.length) ([], c2) ⟨by simp, hC6, by simp⟩ (fits_mk [] (by simp [renL_d, bdL_d, sg, over, wipe, wl, memN, ins, rm, lk, fitFr, fit1, ren, renL, bd, bdL, app, fitHp, hget, renB, bdB, ownB_zero] <;> omega)) ?_
    rintro ⟨l, c⟩ ⟨h1, hC, hl⟩; simp only [over, wipe, wl, memN, ins, rm, if_true, if_false, Nat.reduceEqDiff, Bool.false_eq_true, reduceCtorEq]
    simp only at h1 hC hl
    by_cases hlt : l.length < N
    · have hlt' : (l.length : Int) < (N : Int) := by omega
      by_cases hk0 : l.length = 0
      · rw [ownB_z hk0]
        repeat' (first | ((with_reducible first | (refine hK _ ?_; clear hK K) | refine stq fun K' hK' => ?_ | refine stc ?_); try simp only [go_sem, hlt']) | (with_reducible first | refine stp ?_ | (refine hK' _ ?_; clear hK' K') | refine kN kl106 fun K hK => ?_ | refine kO fun K hK => ?_) | (refine xS rfl fun K' hK' => ?_; simp only [go_sem, hlt']) | ((first | refine CallK.cur (some 0) (pick_ok (by assumption) (by omega)) rfl rfl rfl rfl rfl rfl ?_); rintro c2 _ ⟨x, hx, rfl, hC⟩; try simp only [mkB, go_sem, hlt']) | ((first | refine CallK.cur (some 0) (pick_ok (by assumption) (by omega)) rfl rfl rfl rfl rfl rfl ?_); rintro c2 _ ⟨x, hx, rfl, hC⟩; try simp only [mkB, go_sem, hlt']) | refine iB ?_ | (with_reducible refine pK_mk ?_ ?_ <;> (intro hc; (try simp only [go_sem, hlt']); (try simp at hc); try (exfalso; omega))) | with_reducible refine And.intro (by first | omega | (unfold inI; omega)) ?_)
        refine CallK.curA (some 0) (result_ok (by assumption) (by omega) hn) rfl rfl rfl rfl rfl rfl ?_; rintro c2 _ ⟨sc, hsc, rfl, hC⟩; try simp only [mkB, go_sem]
        have hr : resOk n ⟨3 * (l.length : Int) + 1 + x, sc⟩ := ⟨by simp only; omega, by simp only; omega, hsc.1, hsc.2⟩
        have hown : ownB (l ++ [⟨3 * (l.length : Int) + 1 + x, sc⟩]) (l.length + 1) = .deep 0 92 2 [ResultD.dat ⟨3 * (l.length : Int) + 1 + x, sc⟩] := by
          rw [ownB_pos (by omega), List.take_of_length_le (by simp), List.eq_nil_of_length_eq_zero hk0]; rfl
        generalize hrr : (⟨3 * (l.length : Int) + 1 + x, sc⟩ : ResultD) = r at hr hown
        have hds : ResultD.dat r = [.int .i64 (3 * (l.length : Int) + 1 + x), .lst 1 (sc.map datI)] := by rw [← hrr]; rfl
        repeat' (first | ((with_reducible first | (refine hK _ ?_; clear hK K) | refine stq fun K' hK' => ?_ | refine stc ?_); try simp only [go_sem]) | (with_reducible first | refine stp ?_ | (refine hK' _ ?_; clear hK' K') | refine kN kl106 fun K hK => ?_ | refine kO fun K hK => ?_) | (refine xS rfl fun K' hK' => ?_; simp only [go_sem]) | refine iB ?_ | (with_reducible refine pK_mk ?_ ?_ <;> (intro hc; (try simp only [go_sem]); (try simp at hc); try (exfalso; omega))) | with_reducible refine And.intro (by first | omega | (unfold inI; omega)) ?_)
        refine po_buildSlice_deep (cs := [.d (.int .i64 (3 * (l.length : Int) + 1 + x)), .row 7 sc.length]) (ds := ResultD.dat r) rfl (G_ok _ _ G39) (by decide) rfl (by rw [hds]; simp [ownL, ownC, hget, D.scB]) (by simp [rowIds]) (by simp only [flatL, flatC, hget, if_true, if_false, Nat.reduceEqDiff]; exact ⟨trivial, flatE_datI _, trivial⟩) ?_
        have hch : chunk 2 1 (ResultD.dat r) = [ResultD.dat r] := by rw [hds]; rfl
        repeat' (first | ((with_reducible first | (refine hK _ ?_; clear hK K) | refine stq fun K' hK' => ?_ | refine stc ?_); try simp only [go_sem, hch]) | (with_reducible first | refine stp ?_ | (refine hK' _ ?_; clear hK' K') | refine kN kl106 fun K hK => ?_ | refine kO fun K hK => ?_) | (refine xS rfl fun K' hK' => ?_; simp only [go_sem, hch]) | refine iB ?_ | (with_reducible refine pK_mk ?_ ?_ <;> (intro hc; (try simp only [go_sem, hch]); (try simp at hc); try (exfalso; omega))) | with_reducible refine And.intro (by first | omega | (unfold inI; omega)) ?_)
        refine po_append_deep (es := []) (fs := [ResultD.dat r]) (n := l.length) (n2 := 1) rfl (G_ok _ _ G39) rfl rfl rfl rfl (by decide) (by simp; omega) rfl (by intro e he; simp at he) (by exact True.intro) (by simp <;> omega) ?_
        repeat' (first | ((with_reducible first | (refine hK _ ?_; clear hK K) | refine stq fun K' hK' => ?_ | refine stc ?_); try simp only [go_sem]) | (with_reducible first | refine stp ?_ | (refine hK' _ ?_; clear hK' K') | refine kN kl106 fun K hK => ?_ | refine kO fun K hK => ?_) | (refine xS rfl fun K' hK' => ?_; simp only [go_sem]) | refine iB ?_ | (with_reducible refine pK_mk ?_ ?_ <;> (intro hc; (try simp only [go_sem]); (try simp at hc); try (exfalso; omega))) | with_reducible refine And.intro (by first | omega | (unfold inI; omega)) ?_)
        exact ⟨(l ++ [r], c2), ⟨by simp; omega, hC.mono (by simp; omega), mem_appR hl hr⟩, by simp; omega, (fits_mk [] (by simp [renL_d, bdL_d, sg, over, wipe, wl, memN, ins, rm, lk, fitFr, fit1, ren, renL, bd, bdL, app, fitHp, hget, renB, bdB, hown] <;> omega))⟩
      · rw [ownB_pos (by omega), List.take_length]
        repeat' (first | ((with_reducible first | (refine hK _ ?_; clear hK K) | refine stq fun K' hK' => ?_ | refine stc ?_); try simp only [go_sem, hlt']) | (with_reducible first | refine stp ?_ | (refine hK' _ ?_; clear hK' K') | refine kN kl106 fun K hK => ?_ | refine kO fun K hK => ?_) | (refine xS rfl fun K' hK' => ?_; simp only [go_sem, hlt']) | ((first | refine CallK.cur (some 0) (pick_ok (by assumption) (by omega)) rfl rfl rfl rfl rfl rfl ?_); rintro c2 _ ⟨x, hx, rfl, hC⟩; try simp only [mkB, go_sem, hlt']) | ((first | refine CallK.cur (some 0) (pick_ok (by assumption) (by omega)) rfl rfl rfl rfl rfl rfl ?_); rintro c2 _ ⟨x, hx, rfl, hC⟩; try simp only [mkB, go_sem, hlt']) | refine iB ?_ | (with_reducible refine pK_mk ?_ ?_ <;> (intro hc; (try simp only [go_sem, hlt']); (try simp at hc); try (exfalso; omega))) | with_reducible refine And.intro (by first | omega | (unfold inI; omega)) ?_)
        refine CallK.curA (some 0) (result_ok (by assumption) (by omega) hn) rfl rfl rfl rfl rfl rfl ?_; rintro c2 _ ⟨sc, hsc, rfl, hC⟩; try simp only [mkB, go_sem]
        have hr : resOk n ⟨3 * (l.length : Int) + 1 + x, sc⟩ := ⟨by simp only; omega, by simp only; omega, hsc.1, hsc.2⟩
        have hown : ownB (l ++ [⟨3 * (l.length : Int) + 1 + x, sc⟩]) (l.length + 1) = .deep 0 92 2 (l.map ResultD.dat ++ [ResultD.dat ⟨3 * (l.length : Int) + 1 + x, sc⟩]) := by
          rw [ownB_pos (by omega), List.take_of_length_le (by simp), List.map_append]; rfl
        generalize hrr : (⟨3 * (l.length : Int) + 1 + x, sc⟩ : ResultD) = r at hr hown
        have hds : ResultD.dat r = [.int .i64 (3 * (l.length : Int) + 1 + x), .lst 1 (sc.map datI)] := by rw [← hrr]; rfl
        repeat' (first | ((with_reducible first | (refine hK _ ?_; clear hK K) | refine stq fun K' hK' => ?_ | refine stc ?_); try simp only [go_sem]) | (with_reducible first | refine stp ?_ | (refine hK' _ ?_; clear hK' K') | refine kN kl106 fun K hK => ?_ | refine kO fun K hK => ?_) | (refine xS rfl fun K' hK' => ?_; simp only [go_sem]) | refine iB ?_ | (with_reducible refine pK_mk ?_ ?_ <;> (intro hc; (try simp only [go_sem]); (try simp at hc); try (exfalso; omega))) | with_reducible refine And.intro (by first | omega | (unfold inI; omega)) ?_)
        refine po_buildSlice_deep (cs := [.d (.int .i64 (3 * (l.length : Int) + 1 + x)), .row 7 sc.length]) (ds := ResultD.dat r) rfl (G_ok _ _ G39) (by decide) rfl (by rw [hds]; simp [ownL, ownC, hget, D.scB]) (by simp [rowIds]) (by simp only [flatL, flatC, hget, if_true, if_false, Nat.reduceEqDiff]; exact ⟨trivial, flatE_datI _, trivial⟩) ?_
        have hch : chunk 2 1 (ResultD.dat r) = [ResultD.dat r] := by rw [hds]; rfl
        repeat' (first | ((with_reducible first | (refine hK _ ?_; clear hK K) | refine stq fun K' hK' => ?_ | refine stc ?_); try simp only [go_sem, hch]) | (with_reducible first | refine stp ?_ | (refine hK' _ ?_; clear hK' K') | refine kN kl106 fun K hK => ?_ | refine kO fun K hK => ?_) | (refine xS rfl fun K' hK' => ?_; simp only [go_sem, hch]) | refine iB ?_ | (with_reducible refine pK_mk ?_ ?_ <;> (intro hc; (try simp only [go_sem, hch]); (try simp at hc); try (exfalso; omega))) | with_reducible refine And.intro (by first | omega | (unfold inI; omega)) ?_)
        refine po_append_deep (es := l.map ResultD.dat) (fs := [ResultD.dat r]) (n := l.length) (n2 := 1) rfl (G_ok _ _ G39) rfl rfl rfl rfl (by decide) (by simp) rfl (by exact True.intro) (by exact True.intro) (by simp <;> omega) ?_
        repeat' (first | ((with_reducible first | (refine hK _ ?_; clear hK K) | refine stq fun K' hK' => ?_ | refine stc ?_); try simp only [go_sem]) | (with_reducible first | refine stp ?_ | (refine hK' _ ?_; clear hK' K') | refine kN kl106 fun K hK => ?_ | refine kO fun K hK => ?_) | (refine xS rfl fun K' hK' => ?_; simp only [go_sem]) | refine iB ?_ | (with_reducible refine pK_mk ?_ ?_ <;> (intro hc; (try simp only [go_sem]); (try simp at hc); try (exfalso; omega))) | with_reducible refine And.intro (by first | omega | (unfold inI; omega)) ?_)
        exact ⟨(l ++ [r], c2), ⟨by simp; omega, hC.mono (by simp; omega), mem_appR hl hr⟩, by simp; omega, (fits_mk [] (by simp [renL_d, bdL_d, sg, over, wipe, wl, memN, ins, rm, lk, fitFr, fit1, ren, renL, bd, bdL, app, fitHp, hget, renB, bdB, hown] <;> omega))⟩
    · have hlN : l.length = N := by omega
      have hlt' : ¬ (l.length : Int) < (N : Int) := by omega
      by_cases hN0 : N = 0
      · rw [ownB_z (by omega)]
        repeat' (first | ((with_reducible first | (refine hK _ ?_; clear hK K) | refine stq fun K' hK' => ?_ | refine stc ?_); try simp only [go_sem, hlt', hN0]) | (with_reducible first | refine stp ?_ | (refine hK' _ ?_; clear hK' K') | refine kN kl106 fun K hK => ?_ | refine kO fun K hK => ?_) | (refine xS rfl fun K' hK' => ?_; simp only [go_sem, hlt', hN0]) | refine iB ?_ | (with_reducible refine pK_mk ?_ ?_ <;> (intro hc; (try simp only [go_sem, hlt', hN0]); (try simp at hc); try (exfalso; omega))) | with_reducible refine And.intro (by first | omega | (unfold inI; omega)) ?_)
        all_goals
          have hl0 : l = [] := List.eq_nil_of_length_eq_zero (by omega)
          subst hl0
          refine retC_ret (id := 0) (rs := [.row 92 2 []]) _ rfl rfl (by simp [rowsOf, lk]) rfl (Cur.len (by assumption)) ⟨[], ⟨by simp, by simp⟩, rfl, hC.mono (by simp)⟩
      rw [ownB_pos (by omega), List.take_of_length_le (by omega)]
      by_cases hN2 : 1 < N
      · obtain ⟨M, rfl⟩ : ∃ M, N = M + 1 := ⟨N - 1, by omega⟩
        have e1 : ((M + 1 : Nat) : Int) - 1 = M := by omega
        refine (fun (key : ∀ (l : List ResultD) (c : List D), l.length = M + 1 → Cur (k + 1900) c → (∀ r ∈ l, resOk n r) → PW Tryz.prog ?c ?Q ⟨⟨104, [(0, .bptr 0 0), (1, .d (.int .i64 (n : Int))), (5, .row 1 l.length), (6, .d (.int .i64 ((M + 1 : Nat) : Int)))]⟩, [(0, .pbox 0 ty (c.map .d)), (1, .deep 0 92 2 (l.map ResultD.dat))], 2⟩) => ?m) ?k
        case m =>
          repeat' (first | with_reducible refine stop_seq (id := 8) ?_ | with_reducible refine stop_one (id := 8) ?_ | with_reducible refine stop_seq (id := 9) ?_ | with_reducible refine stop_one (id := 9) ?_ | ((with_reducible first | (refine hK _ ?_; clear hK K) | refine stq fun K' hK' => ?_ | refine stc ?_); try simp only [go_sem, hlt']) | (with_reducible first | refine stp ?_ | (refine hK' _ ?_; clear hK' K') | refine kN kl106 fun K hK => ?_ | refine kO fun K hK => ?_) | (refine xS rfl fun K' hK' => ?_; simp only [go_sem, hlt']) | ((first | refine CallK.cur (some 0) (onec_ok (by assumption) (by omega)) rfl rfl rfl rfl rfl rfl ?_); rintro c2 _ ⟨x, hx, rfl, hC⟩; try simp only [mkB, go_sem, hlt']) | ((first | refine CallK.cur (some 0) (onec_ok (by assumption) (by omega)) rfl rfl rfl rfl rfl rfl ?_); rintro c2 _ ⟨x, hx, rfl, hC⟩; try simp only [mkB, go_sem, hlt']) | refine iB ?_ | (with_reducible refine pK_mk ?_ ?_ <;> (intro hc; (try simp only [go_sem, hlt']); (try simp at hc); try (exfalso; omega))) | with_reducible refine And.intro (by first | omega | (unfold inI; omega)) ?_)
          · unfold Stop
            obtain ⟨r0, h0⟩ : ∃ r0, l[0]? = some r0 := ⟨_, List.getElem?_eq_getElem (by omega)⟩
            obtain ⟨r1, hr1⟩ : ∃ r1, l[M]? = some r1 := ⟨_, List.getElem?_eq_getElem (by omega)⟩
            have hl0 : 0 < l.length := by omega
            have hlM : M < l.length := by omega
            have hR0 := hl r0 (List.mem_of_getElem? h0)
            have hR1 := hl r1 (List.mem_of_getElem? hr1)
            have hsl : r0.scores.length ≤ 16777216 := by have := hR0.2.2.1; omega
            have hset : (l.map ResultD.dat).set M [.int .i64 r1.skater, .lst 1 (r0.scores.map datI)] = (l.set M ⟨r1.skater, r0.scores⟩).map ResultD.dat := by rw [List.map_set]; rfl
            repeat' (first | with_reducible refine stop_seq (id := 9) ?_ | with_reducible refine stop_one (id := 9) ?_ | ((with_reducible first | (refine hK _ ?_; clear hK K) | refine stq fun K' hK' => ?_ | refine stc ?_); try simp only [go_sem, e1, hl0, hlM, List.getElem?_map, h0, hr1, Option.map_some, dat1]) | (with_reducible first | refine stp ?_ | (refine hK' _ ?_; clear hK' K') | refine kN kl106 fun K hK => ?_ | refine kO fun K hK => ?_) | (refine xS rfl fun K' hK' => ?_; simp only [go_sem, e1, hl0, hlM, List.getElem?_map, h0, hr1, Option.map_some, dat1]) | ((with_reducible apply CallK.eq); (· with_reducible first | exact l1Own_ok (r0.scores.map datI) (by simpa using hsl)); (· simp [RV.flat, D.sc, datI]); try simp only [go_sem, e1, hl0, hlM, List.getElem?_map, h0, hr1, Option.map_some, dat1]) | refine iB ?_ | (with_reducible refine pK_mk ?_ ?_ <;> (intro hc; (try simp only [go_sem, e1, hl0, hlM, List.getElem?_map, h0, hr1, Option.map_some, dat1]); (try simp at hc); try (exfalso; omega))) | with_reducible refine And.intro (by first | omega | (unfold inI; omega)) ?_)
            refine po_store_own (e := r1.dat) (ds := [.lst 1 (r0.scores.map datI)]) rfl (G_ok _ _ G31) rfl rfl (by rw [List.getElem?_map, hr1]; rfl) (by simp [ownL, ownC, cellsPV, AS.get, lk, hget]) (by simp [cellsPV, AS.get, lk, rowIds]) ?_ (by simp [cellsPV, AS.get, lk, rowIds]) rfl (Nat.le_refl _) ?_
            · simp only [cellsPV, AS.get, lk, flatL, flatC, hget, if_true, if_false, Nat.reduceEqDiff, Option.getD_some, Option.getD_none]; exact ⟨flatE_datI _, trivial⟩
            repeat' (first | with_reducible refine stop_seq (id := 9) ?_ | with_reducible refine stop_one (id := 9) ?_ | ((with_reducible first | (refine hK _ ?_; clear hK K) | refine stq fun K' hK' => ?_ | refine stc ?_); try simp only [go_sem, rdatS, hset]) | (with_reducible first | refine stp ?_ | (refine hK' _ ?_; clear hK' K') | refine kN kl106 fun K hK => ?_ | refine kO fun K hK => ?_) | (refine xS rfl fun K' hK' => ?_; simp only [go_sem, rdatS, hset]) | refine iB ?_ | (with_reducible refine pK_mk ?_ ?_ <;> (intro hc; (try simp only [go_sem, rdatS, hset]); (try simp at hc); try (exfalso; omega))) | with_reducible refine And.intro (by first | omega | (unfold inI; omega)) ?_)
            unfold Stop
            have hln : (l.set M ⟨r1.skater, r0.scores⟩).length = l.length := List.length_set
            have h := key (l.set M ⟨r1.skater, r0.scores⟩) c2 (by rw [hln]; exact hlN) (hC.mono (by omega)) (mem_set1 hl ⟨hR1.1, hR1.2.1, hR0.2.2⟩)
            rw [hln] at h
            refine pw_fits (s0 := ⟨⟨104, [(0, .bptr 0 0), (1, .d (.int .i64 (n : Int))), (5, .row 1 l.length), (6, .d (.int .i64 ((M + 1 : Nat) : Int)))]⟩, [(0, .pbox 0 ty (c2.map .d)), (1, .deep 0 92 2 ((l.set M ⟨r1.skater, r0.scores⟩).map ResultD.dat))], 2⟩) (fits_mk [] (by simp [renL_d, bdL_d, sg, over, wipe, wl, memN, ins, rm, lk, fitFr, fit1, ren, renL, bd, bdL, app, fitHp, hget, renB, bdB, -List.map_set] <;> omega)) ?_
            exact h
          · unfold Stop
            have h := key l c2 hlN (hC.mono (by omega)) hl
            refine pw_fits (s0 := ⟨⟨104, [(0, .bptr 0 0), (1, .d (.int .i64 (n : Int))), (5, .row 1 l.length), (6, .d (.int .i64 ((M + 1 : Nat) : Int)))]⟩, [(0, .pbox 0 ty (c2.map .d)), (1, .deep 0 92 2 (l.map ResultD.dat))], 2⟩) (fits_mk [] (by simp [renL_d, bdL_d, sg, over, wipe, wl, memN, ins, rm, lk, fitFr, fit1, ren, renL, bd, bdL, app, fitHp, hget, renB, bdB] <;> omega)) ?_
            exact h
        case k =>
          intro l c hlN hC hl
          by_cases h2 : 2 < M + 1 ∧ 1 < n
          · have h2a : (2 : Int) < ((M + 1 : Nat) : Int) := by omega
            have h2b : (1 : Int) < (n : Int) := by omega
            obtain ⟨r0, h0⟩ : ∃ r0, l[0]? = some r0 := ⟨_, List.getElem?_eq_getElem (by omega)⟩
            obtain ⟨r1, hr1⟩ : ∃ r1, l[1]? = some r1 := ⟨_, List.getElem?_eq_getElem (by omega)⟩
            have hl0 : 0 < l.length := by omega
            have hlM : 1 < l.length := by omega
            have hR0 := hl r0 (List.mem_of_getElem? h0)
            have hR1 := hl r1 (List.mem_of_getElem? hr1)
            have hsl : r0.scores.length ≤ 16777216 := by have := hR0.2.2.1; omega
            have hset : (l.map ResultD.dat).set 1 [.int .i64 r1.skater, .lst 1 (r0.scores.map datI)] = (l.set 1 ⟨r1.skater, r0.scores⟩).map ResultD.dat := by rw [List.map_set]; rfl
            repeat' (first | ((with_reducible first | (refine hK _ ?_; clear hK K) | refine stq fun K' hK' => ?_ | refine stc ?_); try simp only [go_sem, h2a, h2b, hl0, hlM, List.getElem?_map, h0, hr1, Option.map_some, dat1, show Int.toNat 1 = 1 from rfl]) | (with_reducible first | refine stp ?_ | (refine hK' _ ?_; clear hK' K') | refine kN kl106 fun K hK => ?_ | refine kO fun K hK => ?_) | (refine xS rfl fun K' hK' => ?_; simp only [go_sem, h2a, h2b, hl0, hlM, List.getElem?_map, h0, hr1, Option.map_some, dat1, show Int.toNat 1 = 1 from rfl]) | ((with_reducible apply CallK.eq); (· with_reducible first | exact l1Own_ok (r0.scores.map datI) (by simpa using hsl)); (· simp [RV.flat, D.sc, datI]); try simp only [go_sem, h2a, h2b, hl0, hlM, List.getElem?_map, h0, hr1, Option.map_some, dat1, show Int.toNat 1 = 1 from rfl]) | ((first | refine CallK.cur (some 0) (onec_ok (by assumption) (by omega)) rfl rfl rfl rfl rfl rfl ?_); rintro c2 _ ⟨x, hx, rfl, hC⟩; try simp only [mkB, go_sem, h2a, h2b, hl0, hlM, List.getElem?_map, h0, hr1, Option.map_some, dat1, show Int.toNat 1 = 1 from rfl]) | refine iB ?_ | (with_reducible refine pK_mk ?_ ?_ <;> (intro hc; (try simp only [go_sem, h2a, h2b, hl0, hlM, List.getElem?_map, h0, hr1, Option.map_some, dat1, show Int.toNat 1 = 1 from rfl]); (try simp at hc); try (exfalso; omega))) | with_reducible refine And.intro (by first | omega | (unfold inI; omega)) ?_)
            · refine po_store_own (e := r1.dat) (ds := [.lst 1 (r0.scores.map datI)]) rfl (G_ok _ _ G31) rfl rfl (by rw [List.getElem?_map, hr1]; rfl) (by simp [ownL, ownC, cellsPV, AS.get, lk, hget]) (by simp [cellsPV, AS.get, lk, rowIds]) ?_ (by simp [cellsPV, AS.get, lk, rowIds]) rfl (Nat.le_refl _) ?_
              · simp only [cellsPV, AS.get, lk, flatL, flatC, hget, if_true, if_false, Nat.reduceEqDiff, Option.getD_some, Option.getD_none]; exact ⟨flatE_datI _, trivial⟩
              have hx1 : (l.set 1 ⟨r1.skater, r0.scores⟩)[1]? = some ⟨r1.skater, r0.scores⟩ := List.getElem?_set_self hlM
              have hl1 := mem_set1 (i := 1) hl (⟨hR1.1, hR1.2.1, hR0.2.2⟩ : resOk n ⟨r1.skater, r0.scores⟩)
              have hln : (l.set 1 ⟨r1.skater, r0.scores⟩).length = l.length := List.length_set
              have hlm := hlM
              rw [← hln] at hlm
              generalize hlq : l.set 1 ⟨r1.skater, r0.scores⟩ = q at hset hx1 hl1 hln hlm
              obtain ⟨a0, ha0⟩ : ∃ a, r0.scores[0]? = some a := ⟨_, List.getElem?_eq_getElem (by have := hR0.2.2.1; omega)⟩
              obtain ⟨a1, ha1⟩ : ∃ a, r0.scores[1]? = some a := ⟨_, List.getElem?_eq_getElem (by have := hR0.2.2.1; omega)⟩
              have hA0 := hR0.2.2.2 a0 (List.mem_of_getElem? ha0)
              have hA1 := hR0.2.2.2 a1 (List.mem_of_getElem? ha1)
              unfold scOk at hA0 hA1
              have hs0 : 0 < r0.scores.length := by have := hR0.2.2.1; omega
              have hs1 : 1 < r0.scores.length := by have := hR0.2.2.1; omega
              repeat' (first | ((with_reducible first | (refine hK _ ?_; clear hK K) | refine stq fun K' hK' => ?_ | refine stc ?_); try simp only [go_sem, rdatS, hset, hln, ← hlN, hlm, hlM, List.getElem?_map, hx1, Option.map_some, dat1, ha0, ha1, hs0, hs1, datI, show Int.toNat 1 = 1 from rfl]) | (with_reducible first | refine stp ?_ | (refine hK' _ ?_; clear hK' K') | refine kN kl106 fun K hK => ?_ | refine kO fun K hK => ?_) | (refine xS rfl fun K' hK' => ?_; simp only [go_sem, rdatS, hset, hln, ← hlN, hlm, hlM, List.getElem?_map, hx1, Option.map_some, dat1, ha0, ha1, hs0, hs1, datI, show Int.toNat 1 = 1 from rfl]) | refine iB ?_ | (with_reducible refine pK_mk ?_ ?_ <;> (intro hc; (try simp only [go_sem, rdatS, hset, hln, ← hlN, hlm, hlM, List.getElem?_map, hx1, Option.map_some, dat1, ha0, ha1, hs0, hs1, datI, show Int.toNat 1 = 1 from rfl]); (try simp at hc); try (exfalso; omega))) | with_reducible refine And.intro (by first | omega | (unfold inI; omega)) ?_)
              · have hset0 : setC (q.map ResultD.dat) 1 1 (.lst 1 ((r0.scores.map datI).set 0 (spl (datI a0) 0 [.int .i64 (a0 - 10)]))) = (q.set 1 ⟨r1.skater, r0.scores.set 0 (a0 - 10)⟩).map ResultD.dat := by
                  simp only [setC, List.getElem?_map, hx1, Option.map_some]
                  rw [List.map_set]
                  simp [ResultD.dat, List.map_set, spl, datI]
                refine po_store_al (es' := r0.scores.map datI) (e1 := datI a0) (ds := [.int .i64 (a0 - 10)]) rfl (G_ok _ _ G3) rfl rfl rfl (by simp only [alC, List.getElem?_map, hx1, Option.map_some, dat1]) (by rw [List.getElem?_map, ha0]; rfl) rfl rfl rfl (Nat.le_refl _) ?_
                rw [hset0]
                have hx2 : (q.set 1 ⟨r1.skater, r0.scores.set 0 (a0 - 10)⟩)[1]? = some ⟨r1.skater, r0.scores.set 0 (a0 - 10)⟩ := List.getElem?_set_self hlm
                have hb1 : (r0.scores.set 0 (a0 - 10))[1]? = some a1 := by rw [List.getElem?_set]; simpa using ha1
                have hbl : (r0.scores.set 0 (a0 - 10)).length = r0.scores.length := List.length_set
                have hbm : ∀ x ∈ r0.scores.set 0 (a0 - 10), scOk x := mem_set1 hR0.2.2.2 (by unfold scOk; omega)
                have hln2 : (q.set 1 ⟨r1.skater, r0.scores.set 0 (a0 - 10)⟩).length = q.length := List.length_set
                generalize hb : r0.scores.set 0 (a0 - 10) = b at hx2 hb1 hbl hbm hln2
                have hl2 := mem_set1 (i := 1) hl1 (⟨hR1.1, hR1.2.1, by simp only; rw [hbl]; exact hR0.2.2.1, hbm⟩ : resOk n ⟨r1.skater, b⟩)
                generalize hq2 : q.set 1 ⟨r1.skater, b⟩ = q2 at hx2 hln2 hl2
                have hlm2 : 1 < q2.length := by omega
                have hs2 : 1 < b.length := by omega
                repeat' (first | ((with_reducible first | (refine hK _ ?_; clear hK K) | refine stq fun K' hK' => ?_ | refine stc ?_); try simp only [go_sem, hln, hln2, hlm2, ← hlN, hlm, hlM, List.getElem?_map, hx2, Option.map_some, dat1, hb1, hs2, datI, show Int.toNat 1 = 1 from rfl]) | (with_reducible first | refine stp ?_ | (refine hK' _ ?_; clear hK' K') | refine kN kl106 fun K hK => ?_ | refine kO fun K hK => ?_) | (refine xS rfl fun K' hK' => ?_; simp only [go_sem, hln, hln2, hlm2, ← hlN, hlm, hlM, List.getElem?_map, hx2, Option.map_some, dat1, hb1, hs2, datI, show Int.toNat 1 = 1 from rfl]) | refine iB ?_ | (with_reducible refine pK_mk ?_ ?_ <;> (intro hc; (try simp only [go_sem, hln, hln2, hlm2, ← hlN, hlm, hlM, List.getElem?_map, hx2, Option.map_some, dat1, hb1, hs2, datI, show Int.toNat 1 = 1 from rfl]); (try simp at hc); try (exfalso; omega))) | with_reducible refine And.intro (by first | omega | (unfold inI; omega)) ?_)
                have hset3 : setC (q2.map ResultD.dat) 1 1 (.lst 1 ((b.map datI).set 1 (spl (datI a1) 0 [.int .i64 (a1 + 10)]))) = (q2.set 1 ⟨r1.skater, b.set 1 (a1 + 10)⟩).map ResultD.dat := by
                  simp only [setC, List.getElem?_map, hx2, Option.map_some]
                  rw [List.map_set]
                  simp [ResultD.dat, List.map_set, spl, datI]
                refine po_store_al (es' := b.map datI) (e1 := datI a1) (ds := [.int .i64 (a1 + 10)]) rfl (G_ok _ _ G3) rfl rfl rfl (by simp only [alC, List.getElem?_map, hx2, Option.map_some, dat1]) (by rw [List.getElem?_map, hb1]; rfl) rfl rfl rfl (Nat.le_refl _) ?_
                rw [hset3]
                have hln3 : (q2.set 1 ⟨r1.skater, b.set 1 (a1 + 10)⟩).length = q2.length := List.length_set
                have hl3 := mem_set1 (i := 1) hl2 (⟨hR1.1, hR1.2.1, by simp only; rw [List.length_set, hbl]; exact hR0.2.2.1, mem_set1 hbm (by unfold scOk; omega)⟩ : resOk n ⟨r1.skater, b.set 1 (a1 + 10)⟩)
                generalize hq3 : q2.set 1 ⟨r1.skater, b.set 1 (a1 + 10)⟩ = q3 at hln3 hl3
                repeat' (first | ((with_reducible first | (refine hK _ ?_; clear hK K) | refine stq fun K' hK' => ?_ | refine stc ?_); try simp only [go_sem]) | (with_reducible first | refine stp ?_ | (refine hK' _ ?_; clear hK' K') | refine kN kl106 fun K hK => ?_ | refine kO fun K hK => ?_) | (refine xS rfl fun K' hK' => ?_; simp only [go_sem]) | refine iB ?_ | (with_reducible refine pK_mk ?_ ?_ <;> (intro hc; (try simp only [go_sem]); (try simp at hc); try (exfalso; omega))) | with_reducible refine And.intro (by first | omega | (unfold inI; omega)) ?_)
                refine retC_ret (id := 0) (rs := [.deep 92 2 (q3.map ResultD.dat)]) _ rfl (by simp only [retL, ret1, hget, lk, List.length_map, hln, hln2, hln3, if_true, if_false, Nat.reduceEqDiff]) (by simp [rowsOf, lk]) rfl (Cur.len (by assumption)) ⟨q3, ⟨by omega, hl3⟩, (show _ = [ownRV q3] by rw [ownRV_pos (by omega)]), hC.mono (by omega)⟩
              all_goals refine retC_ret (id := 0) (rs := [.deep 92 2 (q.map ResultD.dat)]) _ rfl (by simp only [retL, ret1, hget, lk, List.length_map, hln, if_true, if_false, Nat.reduceEqDiff]) (by simp [rowsOf, lk]) rfl (Cur.len (by assumption)) ⟨q, ⟨by omega, hl1⟩, (show _ = [ownRV q] by rw [ownRV_pos (by omega)]), hC.mono (by omega)⟩
            all_goals refine retC_ret (id := 0) (rs := [.deep 92 2 (l.map ResultD.dat)]) _ rfl (by simp only [retL, ret1, hget, lk, List.length_map, if_true, if_false, Nat.reduceEqDiff]) (by simp [rowsOf, lk]) rfl (Cur.len (by assumption)) ⟨l, ⟨by omega, hl⟩, (show _ = [ownRV l] by rw [ownRV_pos (by omega)]), hC.mono (by omega)⟩
          · have h2' : ¬ ((2 : Int) < ((M + 1 : Nat) : Int) ∧ (1 : Int) < (n : Int)) := by omega
            repeat' (first | ((with_reducible first | (refine hK _ ?_; clear hK K) | refine stq fun K' hK' => ?_ | refine stc ?_); try simp only [go_sem]) | (with_reducible first | refine stp ?_ | (refine hK' _ ?_; clear hK' K') | refine kN kl106 fun K hK => ?_ | refine kO fun K hK => ?_) | (refine xS rfl fun K' hK' => ?_; simp only [go_sem]) | ((first | refine CallK.cur (some 0) (onec_ok (by assumption) (by omega)) rfl rfl rfl rfl rfl rfl ?_); rintro c2 _ ⟨x, hx, rfl, hC⟩; try simp only [mkB, go_sem]) | ((first | refine CallK.cur (some 0) (onec_ok (by assumption) (by omega)) rfl rfl rfl rfl rfl rfl ?_); rintro c2 _ ⟨x, hx, rfl, hC⟩; try simp only [mkB, go_sem]) | refine iB ?_ | (with_reducible refine pK_mk ?_ ?_ <;> (intro hc; (try simp only [go_sem]); (try simp at hc); try (exfalso; omega))) | with_reducible refine And.intro (by first | omega | (unfold inI; omega)) ?_)
            all_goals first
              | (exfalso; omega)
              | refine retC_ret (id := 0) (rs := [.deep 92 2 (l.map ResultD.dat)]) _ rfl (by simp only [retL, ret1, hget, lk, List.length_map, if_true, if_false, Nat.reduceEqDiff]) (by simp [rowsOf, lk]) rfl (Cur.len (by assumption)) ⟨l, ⟨by omega, hl⟩, (show _ = [ownRV l] by rw [ownRV_pos (by omega)]), hC.mono (by omega)⟩
      · have hlt2 : ¬ (1 : Int) < (N : Int) := by omega
        have hlt3 : ¬ (2 : Int) < (N : Int) := by omega
        repeat' (first | ((with_reducible first | (refine hK _ ?_; clear hK K) | refine stq fun K' hK' => ?_ | refine stc ?_); try simp only [go_sem, hlt', hlt2, hlt3]) | (with_reducible first | refine stp ?_ | (refine hK' _ ?_; clear hK' K') | refine kN kl106 fun K hK => ?_ | refine kO fun K hK => ?_) | (refine xS rfl fun K' hK' => ?_; simp only [go_sem, hlt', hlt2, hlt3]) | refine iB ?_ | (with_reducible refine pK_mk ?_ ?_ <;> (intro hc; (try simp only [go_sem, hlt', hlt2, hlt3]); (try simp at hc); try (exfalso; omega))) | with_reducible refine And.intro (by first | omega | (unfold inI; omega)) ?_)
        all_goals refine retC_ret (id := 0) (rs := [.deep 92 2 (l.map ResultD.dat)]) _ rfl (by simp only [retL, ret1, hget, lk, List.length_map, if_true, if_false, Nat.reduceEqDiff]) (by simp [rowsOf, lk]) rfl (Cur.len (by assumption)) ⟨l, ⟨by omega, hl⟩, (show _ = [ownRV l] by rw [ownRV_pos (by omega)]), hC.mono (by omega)⟩
end Go.Proofs.YthocihmhljmgdaaGreatDoor
