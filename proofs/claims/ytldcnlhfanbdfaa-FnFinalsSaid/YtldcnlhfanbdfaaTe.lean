/-
  Drawn finishes and disciplines.
-/
import Derived.Test.YtldcnlhfanbdfaaCu
import Derived.Test.YtldcnlhfanbdfaaTf1
set_option linter.unusedSimpArgs false
set_option linter.unusedVariables false
set_option maxHeartbeats 2000000
set_option maxRecDepth 100000
namespace Go.Proofs.Ytldcnlhfanbdfaa
open Go.RowKit

def finOk (x : FinishD) : Prop := 0 ≤ x.team ∧ x.team ≤ 13 ∧ 0 ≤ x.place ∧ x.place ≤ 13
theorem mem_snoc {α : Type} {l : List α} {x : α} {p : α → Prop} (h : ∀ y ∈ l, p y) (hx : p x) : ∀ y ∈ l ++ [x], p y := by
  intro y hy
  rcases List.mem_append.1 hy with h1 | h1
  · exact h y h1
  · rw [List.mem_singleton.1 h1]; exact hx
theorem mem_set {α : Type} {l : List α} {i : Nat} {x : α} {p : α → Prop} (h : ∀ y ∈ l, p y) (hx : p x) : ∀ y ∈ l.set i x, p y := fun y hy => (List.mem_or_eq_of_mem_set hy).elim (h y) fun e => e ▸ hx
theorem tdiv_smallT {x c : Int} (h : 0 ≤ x) (hc : 0 < c) : 0 ≤ x.tdiv c ∧ x.tdiv c ≤ x := ⟨Int.tdiv_nonneg h (by omega), Int.tdiv_le_self c h⟩
theorem team_ok {k : Nat} {cs : List D} (hC : Cur k cs) (hk : k ≤ 1000000000000) : FnC Try.prog 42 3 [] cs (PostI (k + 4) fun x => 0 ≤ x ∧ x ≤ 32) := by
  refine fn_okC G_ok Try.func42 rfl rfl hC.len fun ty => ?_; simp only [Try.ntmps42, List.length_cons, List.length_nil, Nat.reduceAdd, Nat.reduceSub, List.map_cons, List.map_nil, List.length_map, enm]
  repeat' (first | (with_reducible refine execL_step (fun K' hK' => ?_); (first | with_reducible refine s_none rfl ?_ | refine s_some2 rfl ?_); simp only [go_sem]) | (with_reducible refine hK' _ ?_; clear hK' K') | with_reducible refine execL_nil ?_ | (with_reducible refine hK _ ?_; clear hK K; try simp only [go_sem]) | with_reducible refine pw_seq_opsK kl42 G_ok (fun K hK => ?_) | with_reducible (first | refine pw_seq (x := .seq _ _) ?_ | refine thenA_normal ?_ | refine thenA_exit ?_ | refine thenA_ret ?_ | refine inBlockA_same ?_ | refine inBlockA_ret ?_ | refine inBlockA_normal ?_) | refine inBlockA_other (by decide) ?_ | with_reducible (first | refine pw_seq (pw_block ?_) | refine pw_seq (pw_skip (thenA_normal ?_)) | refine pw_skip ?_ | refine pw_exit ?_ | refine pw_ret ?_ | refine pw_ops G_ok (fun K hK => ?_)) | with_reducible refine pw_block ?_ | (with_reducible refine pK_mk (fun hc => ?_) (fun hc => ?_) <;> (try simp only [go_sem]) <;> (try simp at hc) <;> (try (exfalso; omega))) | ((first | refine pw_seq (pw_cond rfl (fun hc => ?_) (fun hc => ?_)) | refine pw_cond rfl (fun hc => ?_) (fun hc => ?_)) <;> (try simp at hc) <;> (try (exfalso; omega))) | with_reducible refine And.intro (by first | omega | (unfold inI; omega) | exact andI_inI _) ?_)
  refine CallK.cur (some 0) (pick_ok (by assumption) (by omega)) rfl rfl rfl rfl rfl rfl ?_; rintro c2 _ ⟨x, hx, rfl, hC⟩; try simp only [mkB, go_sem]
  have hy := hx
  generalize x = y at hy
  repeat' (first | (with_reducible refine execL_step (fun K' hK' => ?_); (first | with_reducible refine s_none rfl ?_ | refine s_some2 rfl ?_); simp only [go_sem]) | (with_reducible refine hK' _ ?_; clear hK' K') | with_reducible refine execL_nil ?_ | (with_reducible refine hK _ ?_; clear hK K; try simp only [go_sem]) | with_reducible refine pw_seq_opsK kl42 G_ok (fun K hK => ?_) | with_reducible (first | refine pw_seq (x := .seq _ _) ?_ | refine thenA_normal ?_ | refine thenA_exit ?_ | refine thenA_ret ?_ | refine inBlockA_same ?_ | refine inBlockA_ret ?_ | refine inBlockA_normal ?_) | refine inBlockA_other (by decide) ?_ | with_reducible (first | refine pw_seq (pw_block ?_) | refine pw_seq (pw_skip (thenA_normal ?_)) | refine pw_skip ?_ | refine pw_exit ?_ | refine pw_ret ?_ | refine pw_ops G_ok (fun K hK => ?_)) | with_reducible refine pw_block ?_ | (with_reducible refine pK_mk (fun hc => ?_) (fun hc => ?_) <;> (try simp only [go_sem]) <;> (try simp at hc) <;> (try (exfalso; omega))) | ((first | refine pw_seq (pw_cond rfl (fun hc => ?_) (fun hc => ?_)) | refine pw_cond rfl (fun hc => ?_) (fun hc => ?_)) <;> (try simp at hc) <;> (try (exfalso; omega))) | with_reducible refine And.intro (by first | omega | (unfold inI; omega) | exact andI_inI _) ?_)
  refine CallK.cur (some 0) (pick_ok (by assumption) (by omega)) rfl rfl rfl rfl rfl rfl ?_; rintro c2 _ ⟨x, hx, rfl, hC⟩; try simp only [mkB, go_sem]
  have h19 := tdiv_smallT (c := 19) hx.1 (by omega)
  repeat' (first | (with_reducible refine execL_step (fun K' hK' => ?_); (first | with_reducible refine s_none rfl ?_ | refine s_some2 rfl ?_); simp only [go_sem]) | (with_reducible refine hK' _ ?_; clear hK' K') | with_reducible refine execL_nil ?_ | (with_reducible refine hK _ ?_; clear hK K; try simp only [go_sem]) | with_reducible refine pw_seq_opsK kl42 G_ok (fun K hK => ?_) | with_reducible (first | refine pw_seq (x := .seq _ _) ?_ | refine thenA_normal ?_ | refine thenA_exit ?_ | refine thenA_ret ?_ | refine inBlockA_same ?_ | refine inBlockA_ret ?_ | refine inBlockA_normal ?_) | refine inBlockA_other (by decide) ?_ | with_reducible (first | refine pw_seq (pw_block ?_) | refine pw_seq (pw_skip (thenA_normal ?_)) | refine pw_skip ?_ | refine pw_exit ?_ | refine pw_ret ?_ | refine pw_ops G_ok (fun K hK => ?_)) | with_reducible refine pw_block ?_ | (with_reducible refine pK_mk (fun hc => ?_) (fun hc => ?_) <;> (try simp only [go_sem]) <;> (try simp at hc) <;> (try (exfalso; omega))) | ((first | refine pw_seq (pw_cond rfl (fun hc => ?_) (fun hc => ?_)) | refine pw_cond rfl (fun hc => ?_) (fun hc => ?_)) <;> (try simp at hc) <;> (try (exfalso; omega))) | with_reducible refine And.intro (by first | omega | (unfold inI; omega) | exact andI_inI _) ?_)
  refine retC_ret (id := 0) _ rfl rfl (by simp [rowsOf, lk]) rfl (Cur.len (by assumption)) ⟨_, ?_, rfl, Cur.mono (by assumption) (by omega)⟩
  omega
theorem finishes_ok {k : Nat} {cs : List D} (hC : Cur k cs) (hk : k ≤ 100000000000) : FnC Try.prog 59 3 [] cs (PostX (k + 60) (fun l : List FinishD => l.length ≤ 13 ∧ ∀ x ∈ l, finOk x) fun l => [.row 48 2 (l.map FinishD.dat)]) := by
  refine fn_okC G_ok Try.func59 rfl rfl hC.len fun ty => ?_; simp only [Try.ntmps59, List.length_cons, List.length_nil, Nat.reduceAdd, Nat.reduceSub, List.map_cons, List.map_nil, List.length_map, enm]
  repeat' (first | (with_reducible refine execL_step (fun K' hK' => ?_); (first | with_reducible refine s_none rfl ?_ | refine s_some2 rfl ?_); simp only [go_sem]) | (with_reducible refine hK' _ ?_; clear hK' K') | with_reducible refine execL_nil ?_ | (with_reducible refine hK _ ?_; clear hK K; try simp only [go_sem]) | with_reducible refine pw_seq_opsK kl59 G_ok (fun K hK => ?_) | (refine CallK.cur (some 0) (pick_ok (by assumption) (by omega)) rfl rfl rfl rfl rfl rfl ?_; rintro c2 _ ⟨x, hx, rfl, hC⟩; try simp only [mkB, go_sem]) | (refine CallK.cur (some 0) (onec_ok (by assumption) (by omega)) rfl rfl rfl rfl rfl rfl ?_; rintro c2 _ ⟨x, hx, rfl, hC⟩; try simp only [mkB, go_sem]) | with_reducible (first | refine pw_seq (x := .seq _ _) ?_ | refine thenA_normal ?_ | refine thenA_exit ?_ | refine thenA_ret ?_ | refine inBlockA_same ?_ | refine inBlockA_ret ?_ | refine inBlockA_normal ?_) | refine inBlockA_other (by decide) ?_ | with_reducible (first | refine pw_seq (pw_block ?_) | refine pw_seq (pw_skip (thenA_normal ?_)) | refine pw_skip ?_ | refine pw_exit ?_ | refine pw_ret ?_ | refine pw_ops G_ok (fun K hK => ?_)) | with_reducible refine pw_block ?_ | (with_reducible refine pK_mk (fun hc => ?_) (fun hc => ?_) <;> (try simp only [go_sem]) <;> (try simp at hc) <;> (try (exfalso; omega))) | ((first | refine pw_seq (pw_cond rfl (fun hc => ?_) (fun hc => ?_)) | refine pw_cond rfl (fun hc => ?_) (fun hc => ?_)) <;> (try simp at hc) <;> (try (exfalso; omega))) | with_reducible refine And.intro (by first | omega | (unfold inI; omega) | exact andI_inI _) ?_)
  case' refine_1 =>
    obtain ⟨N, hm⟩ : ∃ N : Nat, (12 : Int) = (N : Int) := ⟨12, rfl⟩
  case' refine_2 =>
    rename_i y hy _
    obtain ⟨N, hm⟩ : ∃ N : Nat, y = (N : Int) := ⟨y.toNat, by omega⟩
  all_goals
    have hN : N ≤ 12 := by omega
    have hC6 : Cur (k + 4) c2 := hC.mono (by omega)
    refine pw_fits (s0 := ⟨⟨106, [(0, .bptr 0 0), (3, .row 1 0), (4, .d (.int .i64 1)), (5, .d (.int .i64 0)), (6, .d (.int .i64 (N : Int))), (7, .d (.int .i64 0))]⟩, [(0, .pbox 0 ty (c2.map .d)), (1, .row 48 2 [])], 2⟩) (fits_mk [] (by simp [renL_d, bdL_d, sg, over, wipe, wl, memN, ins, rm, lk, fitFr, fit1, ren, renL, bd, bdL, app, fitHp, hget, renB, bdB, hm] <;> omega)) ?_
    refine pw_loop_over [2, 3, 4, 5, 7, 15, 16, 17, 18, 19, 20, 21, 22, 23, 24, 25, 26, 27, 28, 29, 30, 31, 32, 33, 34, 35, 36, 37, 38, 39, 40, 41, 42, 43, 44, 45] (fun q : Nat × Nat × List FinishD × List D => [(0, .bptr 0 0), (3, .row 1 q.2.2.1.length), (4, .d (.int .i64 (q.1 : Int))), (5, .d (.int .i64 (q.2.1 : Int))), (6, .d (.int .i64 (N : Int))), (7, .d (.int .i64 (q.2.2.1.length : Int)))]) (fun q => [(0, .pbox 0 ty (q.2.2.2.map .d)), (1, .row 48 2 (q.2.2.1.map FinishD.dat))]) 2 (fun q => q.2.2.1.length ≤ N ∧ q.1 + q.2.1 = 1 + q.2.2.1.length ∧ Cur (k + 4 + 2 * q.2.2.1.length) q.2.2.2 ∧ ∀ x ∈ q.2.2.1, finOk x) (fun q => N - q.2.2.1.length) (1, 0, [], c2) ⟨by simp, by simp, hC6, by simp⟩ (fits_mk [] (by simp [renL_d, bdL_d, sg, over, wipe, wl, memN, ins, rm, lk, fitFr, fit1, ren, renL, bd, bdL, app, fitHp, hget, renB, bdB] <;> omega)) ?_
    rintro ⟨r, sh, l, c⟩ ⟨h1, h2, hC, hl⟩; simp only [over, wipe, wl, memN, ins, rm, if_true, if_false, Nat.reduceEqDiff, Bool.false_eq_true, reduceCtorEq]
    simp only at h1 h2 hC hl
    by_cases hlt : l.length < N
    · have hlt' : (l.length : Int) < (N : Int) := by omega
      have ht := tmod_pick (x := 5 * (l.length : Int) + (N : Int)) (n := 12) (by omega) (by omega)
      generalize hT : (5 * (l.length : Int) + (N : Int)).tmod 12 = T at ht
      have hat : ∀ e : List D, (List.map FinishD.dat l ++ [e])[l.length]? = some e := by intro e; simp
      have hst : ∀ e e' : List D, (List.map FinishD.dat l ++ [e]).set l.length e' = List.map FinishD.dat l ++ [e'] := by intro e e'; rw [List.set_append_right _ _ (by simp)]; simp
      have hfin : ∀ b : Int, 0 ≤ b → b ≤ 13 → ∀ y ∈ l ++ [⟨T + 1, b⟩], finOk y := fun b hb1 hb2 => mem_snoc hl (by unfold finOk; simp only; omega)
      have hl1 : l.length < l.length + 1 := by omega
      repeat' (first | (with_reducible refine execL_step (fun K' hK' => ?_); (first | with_reducible refine s_none rfl ?_ | refine s_some2 rfl ?_); simp only [go_sem, hlt', hT, hat, hst, hl1]) | (with_reducible refine hK' _ ?_; clear hK' K') | with_reducible refine execL_nil ?_ | (with_reducible refine hK _ ?_; clear hK K; try simp only [go_sem, hlt', hT, hat, hst, hl1]) | with_reducible refine pw_seq_opsK kl59 G_ok (fun K hK => ?_) | (refine CallK.cur (some 0) (onec_ok (by assumption) (by omega)) rfl rfl rfl rfl rfl rfl ?_; rintro c2 _ ⟨x, hx, rfl, hC⟩; try simp only [mkB, go_sem, hlt', hT, hat, hst, hl1]) | with_reducible (first | refine pw_seq (x := .seq _ _) ?_ | refine thenA_normal ?_ | refine thenA_exit ?_ | refine thenA_ret ?_ | refine inBlockA_same ?_ | refine inBlockA_ret ?_ | refine inBlockA_normal ?_) | refine inBlockA_other (by decide) ?_ | with_reducible (first | refine pw_seq (pw_block ?_) | refine pw_seq (pw_skip (thenA_normal ?_)) | refine pw_skip ?_ | refine pw_exit ?_ | refine pw_ret ?_ | refine pw_ops G_ok (fun K hK => ?_)) | with_reducible refine pw_block ?_ | (with_reducible refine pK_mk (fun hc => ?_) (fun hc => ?_) <;> (try simp only [go_sem, hlt', hT, hat, hst, hl1]) <;> (try simp at hc) <;> (try (exfalso; omega))) | ((first | refine pw_seq (pw_cond rfl (fun hc => ?_) (fun hc => ?_)) | refine pw_cond rfl (fun hc => ?_) (fun hc => ?_)) <;> (try simp at hc) <;> (try (exfalso; omega))) | with_reducible refine And.intro (by first | omega | (unfold inI; omega) | exact andI_inI _) ?_)
      · exact ⟨(r + (sh + 1), 0, l ++ [⟨T + 1, (r : Int)⟩], c2), ⟨by simp; omega, by simp; omega, hC.mono (by simp; omega), hfin _ (by omega) (by omega)⟩, by simp; omega, (fits_mk [] (by simp [renL_d, bdL_d, sg, over, wipe, wl, memN, ins, rm, lk, fitFr, fit1, ren, renL, bd, bdL, app, fitHp, hget, renB, bdB, FinishD.dat] <;> omega))⟩
      · exact ⟨(r, sh + 1, l ++ [⟨T + 1, (r : Int)⟩], c2), ⟨by simp; omega, by simp; omega, hC.mono (by simp; omega), hfin _ (by omega) (by omega)⟩, by simp; omega, (fits_mk [] (by simp [renL_d, bdL_d, sg, over, wipe, wl, memN, ins, rm, lk, fitFr, fit1, ren, renL, bd, bdL, app, fitHp, hget, renB, bdB, FinishD.dat] <;> omega))⟩
    · obtain rfl : N = l.length := by omega
      have hlt' : ¬ (l.length : Int) < (l.length : Int) := by omega
      have hC0 : Cur (k + 30) c := hC.mono (by omega)
      clear hC
      repeat' (first | (with_reducible refine execL_step (fun K' hK' => ?_); (first | with_reducible refine s_none rfl ?_ | refine s_some2 rfl ?_); simp only [go_sem, hlt']) | (with_reducible refine hK' _ ?_; clear hK' K') | with_reducible refine execL_nil ?_ | (with_reducible refine hK _ ?_; clear hK K; try simp only [go_sem, hlt']) | with_reducible refine pw_seq_opsK kl59 G_ok (fun K hK => ?_) | (refine CallK.cur (some 0) (onec_ok hC0 (by omega)) rfl rfl rfl rfl rfl rfl ?_; rintro c2 _ ⟨x, hx, rfl, hC⟩; try simp only [mkB, go_sem, hlt']) | with_reducible (first | refine pw_seq (x := .seq _ _) ?_ | refine thenA_normal ?_ | refine thenA_exit ?_ | refine thenA_ret ?_ | refine inBlockA_same ?_ | refine inBlockA_ret ?_ | refine inBlockA_normal ?_) | refine inBlockA_other (by decide) ?_ | with_reducible (first | refine pw_seq (pw_block ?_) | refine pw_seq (pw_skip (thenA_normal ?_)) | refine pw_skip ?_ | refine pw_exit ?_ | refine pw_ret ?_ | refine pw_ops G_ok (fun K hK => ?_)) | with_reducible refine pw_block ?_ | (with_reducible refine pK_mk (fun hc => ?_) (fun hc => ?_) <;> (try simp only [go_sem, hlt']) <;> (try simp at hc) <;> (try (exfalso; omega))) | ((first | refine pw_seq (pw_cond rfl (fun hc => ?_) (fun hc => ?_)) | refine pw_cond rfl (fun hc => ?_) (fun hc => ?_)) <;> (try simp at hc) <;> (try (exfalso; omega))) | with_reducible refine And.intro (by first | omega | (unfold inI; omega) | exact andI_inI _) ?_)
      · have hpos : 0 < l.length := by omega
        refine CallK.cur (some 0) (pick_ok (by assumption) (by omega)) rfl rfl rfl rfl rfl rfl ?_; rintro c2 _ ⟨x, hx, rfl, hC⟩; try simp only [mkB, go_sem]
        obtain ⟨j, rfl⟩ : ∃ j : Nat, x = j := ⟨x.toNat, by omega⟩
        have hjl : j < l.length := by omega
        have hj := List.getElem?_eq_getElem hjl
        have h0 := List.getElem?_eq_getElem hpos
        have he0 := hl _ (List.getElem_mem hpos)
        have hej := hl _ (List.getElem_mem hjl)
        generalize l[j] = e at hj hej
        generalize l[0] = e0 at h0 he0
        have hs1 : (List.map FinishD.dat l).set 0 [D.int .i64 e.team, D.int .i64 e.place] = List.map FinishD.dat (l.set 0 e) := by rw [List.map_set]; rfl
        have hs2 : (List.map FinishD.dat (l.set 0 e)).set j [D.int .i64 e0.team, D.int .i64 e0.place] = List.map FinishD.dat ((l.set 0 e).set j e0) := by simp only [List.map_set, FinishD.dat]
        have hj2l : j < (l.set 0 e).length := by simpa using hjl
        have hj2 := List.getElem?_eq_getElem hj2l
        generalize (l.set 0 e)[j] = q2 at hj2
        repeat' (first | (with_reducible refine execL_step (fun K' hK' => ?_); (first | with_reducible refine s_none rfl ?_ | refine s_some2 rfl ?_); simp only [go_sem, hjl, hpos, List.getElem?_map, hj, h0, Option.map_some, FinishD.dat, hs1, hs2, hj2, List.length_set]) | (with_reducible refine hK' _ ?_; clear hK' K') | with_reducible refine execL_nil ?_ | (with_reducible refine hK _ ?_; clear hK K; try simp only [go_sem, hjl, hpos, List.getElem?_map, hj, h0, Option.map_some, FinishD.dat, hs1, hs2, hj2, List.length_set]) | with_reducible refine pw_seq_opsK kl59 G_ok (fun K hK => ?_) | with_reducible (first | refine pw_seq (x := .seq _ _) ?_ | refine thenA_normal ?_ | refine thenA_exit ?_ | refine thenA_ret ?_ | refine inBlockA_same ?_ | refine inBlockA_ret ?_ | refine inBlockA_normal ?_) | refine inBlockA_other (by decide) ?_ | with_reducible (first | refine pw_seq (pw_block ?_) | refine pw_seq (pw_skip (thenA_normal ?_)) | refine pw_skip ?_ | refine pw_exit ?_ | refine pw_ret ?_ | refine pw_ops G_ok (fun K hK => ?_)) | with_reducible refine pw_block ?_ | (with_reducible refine pK_mk (fun hc => ?_) (fun hc => ?_) <;> (try simp only [go_sem, hjl, hpos, List.getElem?_map, hj, h0, Option.map_some, FinishD.dat, hs1, hs2, hj2, List.length_set]) <;> (try simp at hc) <;> (try (exfalso; omega))) | ((first | refine pw_seq (pw_cond rfl (fun hc => ?_) (fun hc => ?_)) | refine pw_cond rfl (fun hc => ?_) (fun hc => ?_)) <;> (try simp at hc) <;> (try (exfalso; omega))) | with_reducible refine And.intro (by first | omega | (unfold inI; omega) | exact andI_inI _) ?_)
        all_goals first
          | (exfalso; simp [hc] at hpos; done)
          | skip
        have hll : ((l.set 0 e).set j e0).length = l.length := by simp
        have hl' : ∀ x ∈ (l.set 0 e).set j e0, finOk x := mem_set (mem_set hl hej) he0
        rw [← hll]
        generalize (l.set 0 e).set j e0 = l at hll hl' ⊢
        clear hl
        have hl := hl'
        have hN : l.length ≤ 12 := by omega
        have hpos : 0 < l.length := by omega
        refine CallK.cur (some 0) (pick_ok (by assumption) (by omega)) rfl rfl rfl rfl rfl rfl ?_; rintro c2 _ ⟨x, hx, rfl, hC⟩; try simp only [mkB, go_sem]
        obtain ⟨i, rfl⟩ : ∃ i : Nat, x = i := ⟨x.toNat, by omega⟩
        have hil : i < l.length := by omega
        have hi := List.getElem?_eq_getElem hil
        have h0 := List.getElem?_eq_getElem hpos
        have he0 := hl _ (List.getElem_mem hpos)
        have hei := hl _ (List.getElem_mem hil)
        generalize l[i] = e at hi hei
        generalize l[0] = e0 at h0 he0
        unfold finOk at he0 hei
        have hset1 : ∀ a : Int, (List.map FinishD.dat l).set i [D.int .i64 a, D.int .i64 e.place] = (l.set i ⟨a, e.place⟩).map FinishD.dat := by intro a; rw [List.map_set]; rfl
        have hset2 : ∀ a : Int, (List.map FinishD.dat l).set i [D.int .i64 e.team, D.int .i64 a] = (l.set i ⟨e.team, a⟩).map FinishD.dat := by intro a; rw [List.map_set]; rfl
        try simp only [Int.toNat_natCast, hil, if_true]
        repeat' (first | (with_reducible refine execL_step (fun K' hK' => ?_); (first | with_reducible refine s_none rfl ?_ | refine s_some2 rfl ?_); simp only [go_sem, hil, hpos, List.getElem?_map, hi, h0, Option.map_some, FinishD.dat]) | (with_reducible refine hK' _ ?_; clear hK' K') | with_reducible refine execL_nil ?_ | (with_reducible refine hK _ ?_; clear hK K; try simp only [go_sem, hil, hpos, List.getElem?_map, hi, h0, Option.map_some, FinishD.dat]) | with_reducible refine pw_seq_opsK kl59 G_ok (fun K hK => ?_) | (refine CallK.cur (some 0) (pick_ok (by assumption) (by omega)) rfl rfl rfl rfl rfl rfl ?_; rintro c2 _ ⟨x, hx, rfl, hC⟩; try simp only [mkB, go_sem, hil, hpos, List.getElem?_map, hi, h0, Option.map_some, FinishD.dat]) | (refine CallK.cur (some 0) (among_ok (l := [0, 12, 13, e0.team]) (by assumption) (by omega) (by simp) (by simp)) rfl rfl rfl rfl rfl rfl ?_; rintro c2 _ ⟨x, hx, rfl, hC⟩; try simp only [mkB, go_sem, hil, hpos, List.getElem?_map, hi, h0, Option.map_some, FinishD.dat]) | (refine CallK.cur (some 0) (among_ok (l := [0, 1, 2, 13]) (by assumption) (by omega) (by simp) (by simp)) rfl rfl rfl rfl rfl rfl ?_; rintro c2 _ ⟨x, hx, rfl, hC⟩; try simp only [mkB, go_sem, hil, hpos, List.getElem?_map, hi, h0, Option.map_some, FinishD.dat]) | with_reducible (first | refine pw_seq (x := .seq _ _) ?_ | refine thenA_normal ?_ | refine thenA_exit ?_ | refine thenA_ret ?_ | refine inBlockA_same ?_ | refine inBlockA_ret ?_ | refine inBlockA_normal ?_) | refine inBlockA_other (by decide) ?_ | with_reducible (first | refine pw_seq (pw_block ?_) | refine pw_seq (pw_skip (thenA_normal ?_)) | refine pw_skip ?_ | refine pw_exit ?_ | refine pw_ret ?_ | refine pw_ops G_ok (fun K hK => ?_)) | with_reducible refine pw_block ?_ | (with_reducible refine pK_mk (fun hc => ?_) (fun hc => ?_) <;> (try simp only [go_sem, hil, hpos, List.getElem?_map, hi, h0, Option.map_some, FinishD.dat]) <;> (try simp at hc) <;> (try (exfalso; omega))) | ((first | refine pw_seq (pw_cond rfl (fun hc => ?_) (fun hc => ?_)) | refine pw_cond rfl (fun hc => ?_) (fun hc => ?_)) <;> (try simp at hc) <;> (try (exfalso; omega))) | with_reducible refine And.intro (by first | omega | (unfold inI; omega) | exact andI_inI _) ?_)
        · simp at hx
          refine retC_ret (id := 0) _ rfl (by simp only [retL, ret1, hget, lk, List.length_map, List.length_nil, List.length_append, List.length_take, List.length_cons, if_true, if_false, Nat.reduceEqDiff, Nat.reduceBEq, Bool.false_eq_true, Option.some.injEq, hset1, List.length_set]; rfl) (by simp [rowsOf, lk]) rfl (Cur.len (by assumption)) ⟨l.set i ⟨x, e.place⟩, ?_, (by simp [datI, hset1, List.length_set]), Cur.mono (by assumption) (by omega)⟩
          exact ⟨by simp; omega, mem_set hl (by unfold finOk; simp only; omega)⟩
        · simp at hx
          refine retC_ret (id := 0) _ rfl (by simp only [retL, ret1, hget, lk, List.length_map, List.length_nil, List.length_append, List.length_take, List.length_cons, if_true, if_false, Nat.reduceEqDiff, Nat.reduceBEq, Bool.false_eq_true, Option.some.injEq, hset2, List.length_set]; rfl) (by simp [rowsOf, lk]) rfl (Cur.len (by assumption)) ⟨l.set i ⟨e.team, x⟩, ?_, (by simp [datI, hset2, List.length_set]), Cur.mono (by assumption) (by omega)⟩
          exact ⟨by simp; omega, mem_set hl (by unfold finOk; simp only; omega)⟩
        · refine retC_ret (id := 0) _ rfl (by simp only [retL, ret1, hget, lk, List.length_map, List.length_nil, List.length_append, List.length_take, List.length_cons, if_true, if_false, Nat.reduceEqDiff, Nat.reduceBEq, Bool.false_eq_true, Option.some.injEq, FinishD.dat]; rfl) (by simp [rowsOf, lk]) rfl (Cur.len (by assumption)) ⟨l ++ [⟨12, (l.length : Int) + 1⟩], ?_, (by simp [datI, FinishD.dat]), Cur.mono (by assumption) (by omega)⟩
          exact ⟨by simp; omega, mem_snoc hl (by unfold finOk; simp only; omega)⟩
        · refine retC_ret (id := 0) _ rfl (by simp only [retL, ret1, hget, lk, List.length_map, List.length_nil, List.length_append, List.length_take, List.length_cons, if_true, if_false, Nat.reduceEqDiff, Nat.reduceBEq, Bool.false_eq_true, Option.some.injEq]; rfl) (by simp [rowsOf, lk]) rfl (Cur.len (by assumption)) ⟨l, ?_, (by simp [datI]), Cur.mono (by assumption) (by omega)⟩
          exact ⟨by omega, hl⟩
      all_goals first
        | (refine retC_ret (id := 0) _ rfl (by simp only [retL, ret1, hget, lk, List.length_map, List.length_nil, List.length_append, List.length_take, List.length_cons, if_true, if_false, Nat.reduceEqDiff, Nat.reduceBEq, Bool.false_eq_true, Option.some.injEq]; rfl) (by simp [rowsOf, lk]) rfl (Cur.len (by assumption)) ⟨l, ?_, (by simp [datI]), Cur.mono (by assumption) (by omega)⟩; exact ⟨by omega, hl⟩)
        | skip
      all_goals
        have hpos : 0 < l.length := by omega
        refine CallK.cur (some 0) (pick_ok (by assumption) (by omega)) rfl rfl rfl rfl rfl rfl ?_; rintro c2 _ ⟨x, hx, rfl, hC⟩; try simp only [mkB, go_sem]
        obtain ⟨i, rfl⟩ : ∃ i : Nat, x = i := ⟨x.toNat, by omega⟩
        have hil : i < l.length := by omega
        have hi := List.getElem?_eq_getElem hil
        have h0 := List.getElem?_eq_getElem hpos
        have he0 := hl _ (List.getElem_mem hpos)
        have hei := hl _ (List.getElem_mem hil)
        generalize l[i] = e at hi hei
        generalize l[0] = e0 at h0 he0
        unfold finOk at he0 hei
        have hset1 : ∀ a : Int, (List.map FinishD.dat l).set i [D.int .i64 a, D.int .i64 e.place] = (l.set i ⟨a, e.place⟩).map FinishD.dat := by intro a; rw [List.map_set]; rfl
        have hset2 : ∀ a : Int, (List.map FinishD.dat l).set i [D.int .i64 e.team, D.int .i64 a] = (l.set i ⟨e.team, a⟩).map FinishD.dat := by intro a; rw [List.map_set]; rfl
        try simp only [Int.toNat_natCast, hil, if_true]
        repeat' (first | (with_reducible refine execL_step (fun K' hK' => ?_); (first | with_reducible refine s_none rfl ?_ | refine s_some2 rfl ?_); simp only [go_sem, hil, hpos, List.getElem?_map, hi, h0, Option.map_some, FinishD.dat]) | (with_reducible refine hK' _ ?_; clear hK' K') | with_reducible refine execL_nil ?_ | (with_reducible refine hK _ ?_; clear hK K; try simp only [go_sem, hil, hpos, List.getElem?_map, hi, h0, Option.map_some, FinishD.dat]) | with_reducible refine pw_seq_opsK kl59 G_ok (fun K hK => ?_) | (refine CallK.cur (some 0) (pick_ok (by assumption) (by omega)) rfl rfl rfl rfl rfl rfl ?_; rintro c2 _ ⟨x, hx, rfl, hC⟩; try simp only [mkB, go_sem, hil, hpos, List.getElem?_map, hi, h0, Option.map_some, FinishD.dat]) | (refine CallK.cur (some 0) (among_ok (l := [0, 12, 13, e0.team]) (by assumption) (by omega) (by simp) (by simp)) rfl rfl rfl rfl rfl rfl ?_; rintro c2 _ ⟨x, hx, rfl, hC⟩; try simp only [mkB, go_sem, hil, hpos, List.getElem?_map, hi, h0, Option.map_some, FinishD.dat]) | (refine CallK.cur (some 0) (among_ok (l := [0, 1, 2, 13]) (by assumption) (by omega) (by simp) (by simp)) rfl rfl rfl rfl rfl rfl ?_; rintro c2 _ ⟨x, hx, rfl, hC⟩; try simp only [mkB, go_sem, hil, hpos, List.getElem?_map, hi, h0, Option.map_some, FinishD.dat]) | with_reducible (first | refine pw_seq (x := .seq _ _) ?_ | refine thenA_normal ?_ | refine thenA_exit ?_ | refine thenA_ret ?_ | refine inBlockA_same ?_ | refine inBlockA_ret ?_ | refine inBlockA_normal ?_) | refine inBlockA_other (by decide) ?_ | with_reducible (first | refine pw_seq (pw_block ?_) | refine pw_seq (pw_skip (thenA_normal ?_)) | refine pw_skip ?_ | refine pw_exit ?_ | refine pw_ret ?_ | refine pw_ops G_ok (fun K hK => ?_)) | with_reducible refine pw_block ?_ | (with_reducible refine pK_mk (fun hc => ?_) (fun hc => ?_) <;> (try simp only [go_sem, hil, hpos, List.getElem?_map, hi, h0, Option.map_some, FinishD.dat]) <;> (try simp at hc) <;> (try (exfalso; omega))) | ((first | refine pw_seq (pw_cond rfl (fun hc => ?_) (fun hc => ?_)) | refine pw_cond rfl (fun hc => ?_) (fun hc => ?_)) <;> (try simp at hc) <;> (try (exfalso; omega))) | with_reducible refine And.intro (by first | omega | (unfold inI; omega) | exact andI_inI _) ?_)
        · simp at hx
          refine retC_ret (id := 0) _ rfl (by simp only [retL, ret1, hget, lk, List.length_map, List.length_nil, List.length_append, List.length_take, List.length_cons, if_true, if_false, Nat.reduceEqDiff, Nat.reduceBEq, Bool.false_eq_true, Option.some.injEq, hset1, List.length_set]; rfl) (by simp [rowsOf, lk]) rfl (Cur.len (by assumption)) ⟨l.set i ⟨x, e.place⟩, ?_, (by simp [datI, hset1, List.length_set]), Cur.mono (by assumption) (by omega)⟩
          exact ⟨by simp; omega, mem_set hl (by unfold finOk; simp only; omega)⟩
        · simp at hx
          refine retC_ret (id := 0) _ rfl (by simp only [retL, ret1, hget, lk, List.length_map, List.length_nil, List.length_append, List.length_take, List.length_cons, if_true, if_false, Nat.reduceEqDiff, Nat.reduceBEq, Bool.false_eq_true, Option.some.injEq, hset2, List.length_set]; rfl) (by simp [rowsOf, lk]) rfl (Cur.len (by assumption)) ⟨l.set i ⟨e.team, x⟩, ?_, (by simp [datI, hset2, List.length_set]), Cur.mono (by assumption) (by omega)⟩
          exact ⟨by simp; omega, mem_set hl (by unfold finOk; simp only; omega)⟩
        · refine retC_ret (id := 0) _ rfl (by simp only [retL, ret1, hget, lk, List.length_map, List.length_nil, List.length_append, List.length_take, List.length_cons, if_true, if_false, Nat.reduceEqDiff, Nat.reduceBEq, Bool.false_eq_true, Option.some.injEq, FinishD.dat]; rfl) (by simp [rowsOf, lk]) rfl (Cur.len (by assumption)) ⟨l ++ [⟨12, (l.length : Int) + 1⟩], ?_, (by simp [datI, FinishD.dat]), Cur.mono (by assumption) (by omega)⟩
          exact ⟨by simp; omega, mem_snoc hl (by unfold finOk; simp only; omega)⟩
        · refine retC_ret (id := 0) _ rfl (by simp only [retL, ret1, hget, lk, List.length_map, List.length_nil, List.length_append, List.length_take, List.length_cons, if_true, if_false, Nat.reduceEqDiff, Nat.reduceBEq, Bool.false_eq_true, Option.some.injEq]; rfl) (by simp [rowsOf, lk]) rfl (Cur.len (by assumption)) ⟨l, ?_, (by simp [datI]), Cur.mono (by assumption) (by omega)⟩
          exact ⟨by omega, hl⟩
end Go.Proofs.Ytldcnlhfanbdfaa
