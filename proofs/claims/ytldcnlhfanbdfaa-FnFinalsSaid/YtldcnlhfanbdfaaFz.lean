/-
  Plain facts on places of teams; what the law FnFinals draws.
-/
import Derived.Test.YtldcnlhfanbdfaaTd
import Derived.Test.YtldcnlhfanbdfaaTx
set_option linter.unusedSimpArgs false
set_option linter.unusedVariables false
set_option maxHeartbeats 2000000
set_option maxRecDepth 100000
namespace Go.Proofs.Ytldcnlhfanbdfaa
open Go.RowKit

/- ranks under a key -/
def rkF (f : Nat → Int) (i k : Nat) : Nat := cn (fun j => decide (f i < f j)) (List.range k)
theorem countP_two {α : Type} {p q : α → Bool} (h : ∀ x, p x = true → q x = true) : ∀ l : List α, l.countP q = l.countP p + l.countP (fun x => q x && !p x)
  | [] => rfl
  | x :: l => by
    rw [List.countP_cons, List.countP_cons, List.countP_cons, countP_two h l]
    cases hp : p x
    · cases hq : q x <;> simp <;> omega
    · rw [h x hp]; simp; omega
theorem rk_lt {f : Nat → Int} {i j k : Nat} (hi : i < k) (h : f j < f i) : rkF f i k < rkF f j k := by
  unfold rkF cn
  rw [countP_two (p := fun x => decide (f i < f x)) (q := fun x => decide (f j < f x)) (fun x hx => by simp at hx ⊢; omega) (List.range k)]
  have : 0 < (List.range k).countP (fun x => decide (f j < f x) && !decide (f i < f x)) := List.countP_pos_iff.2 ⟨i, List.mem_range.2 hi, by simp; omega⟩
  omega
theorem rk_eq {f : Nat → Int} {i j k : Nat} (h : f j = f i) : rkF f i k = rkF f j k := by unfold rkF; rw [h]
theorem rk_fin {f : Nat → Int} {k n : Nat} (hn : n ≤ k) : n ≤ (List.range k).countP (fun i => decide (1 + rkF f i k ≤ n)) := by
  rcases Nat.lt_or_ge ((List.range k).countP (fun i => decide (1 + rkF f i k ≤ n))) n with hc | hc
  · exfalso
    have key : ∀ m i, i < k → rkF f i k = m → 1 + rkF f i k ≤ n := by
      intro m
      induction m using Nat.strongRecOn with
      | ind m ih =>
        intro i hi hm
        have hle : rkF f i k ≤ (List.range k).countP (fun i => decide (1 + rkF f i k ≤ n)) := by
          have e : rkF f i k = (List.range k).countP (fun j => decide (f i < f j)) := rfl
          rw [e]
          refine List.countP_mono_left fun j hj hp => ?_
          have hj' := List.mem_range.1 hj
          have hp' : f i < f j := by simpa using hp
          have h1 := rk_lt hj' hp'
          have := ih (rkF f j k) (by omega) j hj' rfl
          simpa using this
        omega
    have hall : (List.range k).countP (fun i => decide (1 + rkF f i k ≤ n)) = (List.range k).length := List.countP_eq_length.2 fun i hi => by simpa using key _ i (List.mem_range.1 hi) rfl
    rw [List.length_range] at hall
    omega
  · exact hc
/-- a team's points, as one number -/
def keyZ (ls : List (List FinishD)) (a : Int) : Int := ttD ls a * 1000000 + tnD ls a 2 * 1000 + tnD ls a 1
theorem cmpT_key {ls : List (List FinishD)} (hd : DisOk ls) (a b : Int) : (0 < cmpT ls a b ↔ keyZ ls b < keyZ ls a) ∧ (cmpT ls a b < 0 ↔ keyZ ls a < keyZ ls b) := by
  have h1 := ttD_bd hd a
  have h2 := ttD_bd hd b
  have h3 := tnD_bd hd a 2
  have h4 := tnD_bd hd b 2
  have h5 := tnD_bd hd a 1
  have h6 := tnD_bd hd b 1
  unfold cmpT keyZ sgn
  generalize ttD ls a = t1 at *
  generalize ttD ls b = t2 at *
  generalize tnD ls a 2 = u1 at *
  generalize tnD ls b 2 = u2 at *
  generalize tnD ls a 1 = v1 at *
  generalize tnD ls b 1 = v2 at *
  constructor
  · split <;> (try split) <;> (try split) <;> (try split) <;> omega
  · split <;> (try split) <;> (try split) <;> (try split) <;> omega
def keyFz (ls : List (List FinishD)) (i : Nat) : Int := keyZ ls ((i : Int) + 1)
theorem ahN_rk {ls : List (List FinishD)} (hd : DisOk ls) (i k : Nat) : ahN ls i k = rkF (keyFz ls) i k := by
  unfold ahN rkF cn
  congr 1
  funext j
  unfold aheadB keyFz
  exact decide_eq_decide.2 (cmpT_key hd _ _).1
theorem pl_key {ls : List (List FinishD)} (hd : DisOk ls) {i : Nat} (hi : i < 12) : (0 < cmpT ls ((i : Int) + 1) 1 → plT ls i < plT ls 0) ∧ (cmpT ls ((i : Int) + 1) 1 < 0 → plT ls 0 < plT ls i) ∧ (cmpT ls ((i : Int) + 1) 1 = 0 → plT ls i = plT ls 0) := by
  have hk := cmpT_key hd ((i : Int) + 1) 1
  have e0 : keyFz ls 0 = keyZ ls 1 := rfl
  have ei : keyFz ls i = keyZ ls ((i : Int) + 1) := rfl
  unfold plT
  rw [ahN_rk hd, ahN_rk hd]
  refine ⟨fun h => ?_, fun h => ?_, fun h => ?_⟩
  · have := rk_lt (f := keyFz ls) (i := i) (j := 0) (k := 12) hi (by rw [e0, ei]; exact hk.1.1 h)
    omega
  · have := rk_lt (f := keyFz ls) (i := 0) (j := i) (k := 12) (by omega) (by rw [e0, ei]; exact hk.2.1 h)
    omega
  · have h1 : ¬ keyZ ls 1 < keyZ ls ((i : Int) + 1) := fun h' => by have := hk.1.2 h'; omega
    have h2 : ¬ keyZ ls ((i : Int) + 1) < keyZ ls 1 := fun h' => by have := hk.2.2 h'; omega
    have := rk_eq (f := keyFz ls) (i := i) (j := 0) (k := 12) (by rw [e0, ei]; omega)
    omega
theorem fin_len {ls : List (List FinishD)} (hd : DisOk ls) {n : Nat} (hn : n ≤ 12) : n ≤ (ix1 (finB ls (n : Int)) 12).length := by
  have h := rk_fin (f := keyFz ls) (k := 12) (n := n) hn
  unfold ix1 fm
  rw [List.length_map, ← List.countP_eq_length_filter]
  refine Nat.le_trans h (Nat.le_of_eq ?_)
  congr 1
  funext i
  unfold finB plT
  rw [ahN_rk hd]
  exact decide_eq_decide.2 (by omega)
theorem fin_mem {p : Nat → Bool} {i : Nat} (hi : i < 12) : bP (((i : Int) + 1) ∈ ix1 p 12) = p i := by
  rw [Bool.eq_iff_iff, bP_iff]
  unfold ix1
  rw [fm_mem]
  constructor
  · rintro ⟨j, _, h2, h3⟩
    have : j = i := by omega
    subst this
    exact h2
  · exact fun h => ⟨i, List.mem_range.2 hi, h, rfl⟩
/-- the greatest total of the other teams -/
def mst (ls : List (List FinishD)) (t : Int) : Nat → Int
  | 0 => 0
  | k + 1 => if (k : Int) + 1 ≠ t ∧ mst ls t k < ttD ls ((k : Int) + 1) then ttD ls ((k : Int) + 1) else mst ls t k
theorem mst_le (ls : List (List FinishD)) (t r : Int) : ∀ k, mst ls t k ≤ r ↔ 0 ≤ r ∧ ∀ i : Nat, i < k → (i : Int) + 1 ≠ t → ttD ls ((i : Int) + 1) ≤ r
  | 0 => by simp [mst]
  | k + 1 => by
    have ih := mst_le ls t r k
    unfold mst
    split
    · rename_i h
      constructor
      · intro h1
        have h2 := ih.1 (by omega)
        refine ⟨h2.1, fun i hi hne => ?_⟩
        by_cases e : i = k
        · subst e; exact h1
        · exact h2.2 i (by omega) hne
      · rintro ⟨_, h2⟩
        exact h2 k (by omega) h.1
    · rename_i h
      constructor
      · intro h1
        have h2 := ih.1 h1
        refine ⟨h2.1, fun i hi hne => ?_⟩
        by_cases e : i = k
        · subst e
          have : ¬ mst ls t i < ttD ls ((i : Int) + 1) := fun h' => h ⟨hne, h'⟩
          omega
        · exact h2.2 i (by omega) hne
      · rintro ⟨h1, h2⟩
        exact ih.2 ⟨h1, fun i hi => h2 i (by omega)⟩
theorem mst_bd {ls : List (List FinishD)} (hd : DisOk ls) (t : Int) : ∀ k, 0 ≤ mst ls t k ∧ mst ls t k ≤ 125
  | 0 => by simp [mst]
  | k + 1 => by
    have ih := mst_bd hd t k
    have h := ttD_bd hd ((k : Int) + 1)
    unfold mst
    split <;> omega
theorem mst_win {ls : List (List FinishD)} {t m : Int} (hd : DisOk ls) (hm : 0 ≤ m) : winB ls t m = decide (mst ls t 12 ≤ ttD ls t + 24 * m) := by
  have h := ttD_bd hd t
  rw [Bool.eq_iff_iff]
  unfold winB
  rw [bP_iff, decide_eq_true_eq, mst_le]
  exact ⟨fun h1 => ⟨by omega, h1⟩, fun h1 => h1.2⟩
theorem qHas_ok (xs : List Int) (n : Int) (hn : xs.length ≤ 1048576) : FnEq Try.prog 31 [.d (.lst 1 (xs.map datI)), .d (.int .i64 n)] [.d (.bool (bP (n ∈ xs)))] := by
  refine fn_ok G_ok Try.func31 rfl rfl ?_; simp only [Try.ntmps31, List.length_cons, List.length_nil, Nat.reduceAdd, Nat.reduceSub, enm]
  repeat' (first | (with_reducible refine execL_step (fun K' hK' => ?_); (first | with_reducible refine s_none rfl ?_ | refine s_some2 rfl ?_); simp only [go_sem]) | (with_reducible refine hK' _ ?_; clear hK' K') | with_reducible refine execL_nil ?_ | (with_reducible refine hK _ ?_; clear hK K; try simp only [go_sem]) | with_reducible refine pw_seq_opsK kl31 G_ok (fun K hK => ?_) | with_reducible (first | refine pw_seq (x := .seq _ _) ?_ | refine thenA_normal ?_ | refine thenA_exit ?_ | refine thenA_ret ?_ | refine inBlockA_same ?_ | refine inBlockA_ret ?_ | refine inBlockA_normal ?_) | refine inBlockA_other (by decide) ?_ | with_reducible (first | refine pw_seq (pw_block ?_) | refine pw_seq (pw_skip (thenA_normal ?_)) | refine pw_skip ?_ | refine pw_exit ?_ | refine pw_ret ?_ | refine pw_ops G_ok (fun K hK => ?_)) | with_reducible refine pw_block ?_ | (with_reducible refine pK_mk (fun hc => ?_) (fun hc => ?_) <;> (try simp only [go_sem]) <;> (try simp at hc) <;> (try (exfalso; omega))) | ((first | refine pw_seq (pw_cond rfl (fun hc => ?_) (fun hc => ?_)) | refine pw_cond rfl (fun hc => ?_) (fun hc => ?_)) <;> (try simp at hc) <;> (try (exfalso; omega))) | with_reducible refine And.intro (by first | omega | (unfold inI; omega) | exact andI_inI _) ?_)
  refine pw_loop_over [4, 6, 9, 10, 11, 12, 13, 14, 15, 16] (fun k : Nat => [(9, .d (.int .i64 (k : Int)))]) (fun k : Nat => []) 0 (fun k : Nat => k ≤ xs.length ∧ n ∉ xs.take k) (fun k : Nat => xs.length - k) 0 ⟨Nat.zero_le _, by simp⟩ (fits_mk [] (by simp [renL_d, bdL_d, sg, over, wipe, wl, memN, ins, rm, lk, fitFr, fit1, ren, renL, bd, bdL, app, fitHp, hget, renB, bdB] <;> omega)) ?_
  rintro k ⟨hk, hJ⟩
  simp only [over, wipe, wl, memN, ins, rm, if_true, if_false, Nat.reduceEqDiff, Bool.false_eq_true, reduceCtorEq]
  by_cases hlt : k < xs.length
  · have hx := List.getElem?_eq_getElem hlt
    generalize xs[k] = x at hx
    repeat' (first | (with_reducible refine execL_step (fun K' hK' => ?_); (first | with_reducible refine s_none rfl ?_ | refine s_some2 rfl ?_); simp only [go_sem, List.getElem?_map, hx, Option.map_some, datI]) | (with_reducible refine hK' _ ?_; clear hK' K') | with_reducible refine execL_nil ?_ | (with_reducible refine hK _ ?_; clear hK K; try simp only [go_sem, List.getElem?_map, hx, Option.map_some, datI]) | with_reducible refine pw_seq_opsK kl31 G_ok (fun K hK => ?_) | with_reducible (first | refine pw_seq (x := .seq _ _) ?_ | refine thenA_normal ?_ | refine thenA_exit ?_ | refine thenA_ret ?_ | refine inBlockA_same ?_ | refine inBlockA_ret ?_ | refine inBlockA_normal ?_) | refine inBlockA_other (by decide) ?_ | with_reducible (first | refine pw_seq (pw_block ?_) | refine pw_seq (pw_skip (thenA_normal ?_)) | refine pw_skip ?_ | refine pw_exit ?_ | refine pw_ret ?_ | refine pw_ops G_ok (fun K hK => ?_)) | with_reducible refine pw_block ?_ | (with_reducible refine pK_mk (fun hc => ?_) (fun hc => ?_) <;> (try simp only [go_sem, List.getElem?_map, hx, Option.map_some, datI]) <;> (try simp at hc) <;> (try (exfalso; omega))) | ((first | refine pw_seq (pw_cond rfl (fun hc => ?_) (fun hc => ?_)) | refine pw_cond rfl (fun hc => ?_) (fun hc => ?_)) <;> (try simp at hc) <;> (try (exfalso; omega))) | with_reducible refine And.intro (by first | omega | (unfold inI; omega) | exact andI_inI _) ?_)
    · refine retQ_ret rfl rfl (by simp [rowsOf, lk]) ?_; subst hc; rw [bP_true (List.mem_of_getElem? hx)]
    · exact ⟨k + 1, ⟨by omega, by rw [take_snoc hx]; simp [hJ]; exact fun h => hc h.symm⟩, by omega, (fits_mk [] (by simp [renL_d, bdL_d, sg, over, wipe, wl, memN, ins, rm, lk, fitFr, fit1, ren, renL, bd, bdL, app, fitHp, hget, renB, bdB] <;> omega))⟩
  · rw [List.take_of_length_le (by omega)] at hJ
    repeat' (first | (with_reducible refine execL_step (fun K' hK' => ?_); (first | with_reducible refine s_none rfl ?_ | refine s_some2 rfl ?_); simp only [go_sem]) | (with_reducible refine hK' _ ?_; clear hK' K') | with_reducible refine execL_nil ?_ | (with_reducible refine hK _ ?_; clear hK K; try simp only [go_sem]) | with_reducible refine pw_seq_opsK kl31 G_ok (fun K hK => ?_) | with_reducible (first | refine pw_seq (x := .seq _ _) ?_ | refine thenA_normal ?_ | refine thenA_exit ?_ | refine thenA_ret ?_ | refine inBlockA_same ?_ | refine inBlockA_ret ?_ | refine inBlockA_normal ?_) | refine inBlockA_other (by decide) ?_ | with_reducible (first | refine pw_seq (pw_block ?_) | refine pw_seq (pw_skip (thenA_normal ?_)) | refine pw_skip ?_ | refine pw_exit ?_ | refine pw_ret ?_ | refine pw_ops G_ok (fun K hK => ?_)) | with_reducible refine pw_block ?_ | (with_reducible refine pK_mk (fun hc => ?_) (fun hc => ?_) <;> (try simp only [go_sem]) <;> (try simp at hc) <;> (try (exfalso; omega))) | ((first | refine pw_seq (pw_cond rfl (fun hc => ?_) (fun hc => ?_)) | refine pw_cond rfl (fun hc => ?_) (fun hc => ?_)) <;> (try simp at hc) <;> (try (exfalso; omega))) | with_reducible refine And.intro (by first | omega | (unfold inI; omega) | exact andI_inI _) ?_)
    refine retQ_ret rfl rfl (by simp [rowsOf, lk]) ?_; rw [bP_false hJ]
theorem drawFinal_ok (xs : List Int) (hx : ∀ x ∈ xs, 0 ≤ x ∧ x ≤ 255) (hn : xs.length ≤ 9223372036854775807) : FnOK Try.prog 21 [.d (.lst 1 (xs.map datY))] (fun rs => ∃ (ls : List (List FinishD)) (n : Int), (disOk ls ∧ 0 ≤ n ∧ n ≤ 13) ∧ rs = [.d (.lst 1 (ls.map disD)), .d (.int .i64 n)]) := by
  refine FnOK.data ?_
  have hC := cur0 hx hn
  refine fn_ok G_ok Try.func21 rfl rfl ?_; simp only [Try.ntmps21, List.length_cons, List.length_nil, Nat.reduceAdd, Nat.reduceSub, enm]
  repeat' (first | (with_reducible refine execL_step (fun K' hK' => ?_); (first | with_reducible refine s_none rfl ?_ | refine s_some2 rfl ?_); simp only [go_sem]) | (with_reducible refine hK' _ ?_; clear hK' K') | with_reducible refine execL_nil ?_ | (with_reducible refine hK _ ?_; clear hK K; try simp only [go_sem]) | with_reducible refine pw_seq_opsK kl21 G_ok (fun K hK => ?_) | with_reducible (first | refine pw_seq (x := .seq _ _) ?_ | refine thenA_normal ?_ | refine thenA_exit ?_ | refine thenA_ret ?_ | refine inBlockA_same ?_ | refine inBlockA_ret ?_ | refine inBlockA_normal ?_) | refine inBlockA_other (by decide) ?_ | with_reducible (first | refine pw_seq (pw_block ?_) | refine pw_seq (pw_skip (thenA_normal ?_)) | refine pw_skip ?_ | refine pw_exit ?_ | refine pw_ret ?_ | refine pw_ops G_ok (fun K hK => ?_)) | with_reducible refine pw_block ?_ | (with_reducible refine pK_mk (fun hc => ?_) (fun hc => ?_) <;> (try simp only [go_sem]) <;> (try simp at hc) <;> (try (exfalso; omega))) | ((first | refine pw_seq (pw_cond rfl (fun hc => ?_) (fun hc => ?_)) | refine pw_cond rfl (fun hc => ?_) (fun hc => ?_)) <;> (try simp at hc) <;> (try (exfalso; omega))) | with_reducible refine And.intro (by first | omega | (unfold inI; omega) | exact andI_inI _) ?_)
  rw [box3 (.lst 1 (xs.map datY)) (.int .i64 0) (.int .u64 0)]
  generalize [D.lst 1 (xs.map datY), D.int .i64 0, D.int .u64 0] = cs at hC ⊢
  refine CallK.cur (none) (disciplines_ok (by assumption) (by omega)) rfl rfl rfl rfl rfl rfl ?_; rintro c2 _ ⟨x, hx, rfl, hC⟩; try simp only [mkB, go_sem]
  rename List (List FinishD) => ls
  have hls := hx
  repeat' (first | (with_reducible refine execL_step (fun K' hK' => ?_); (first | with_reducible refine s_none rfl ?_ | refine s_some2 rfl ?_); simp only [go_sem]) | (with_reducible refine hK' _ ?_; clear hK' K') | with_reducible refine execL_nil ?_ | (with_reducible refine hK _ ?_; clear hK K; try simp only [go_sem]) | with_reducible refine pw_seq_opsK kl21 G_ok (fun K hK => ?_) | with_reducible (first | refine pw_seq (x := .seq _ _) ?_ | refine thenA_normal ?_ | refine thenA_exit ?_ | refine thenA_ret ?_ | refine inBlockA_same ?_ | refine inBlockA_ret ?_ | refine inBlockA_normal ?_) | refine inBlockA_other (by decide) ?_ | with_reducible (first | refine pw_seq (pw_block ?_) | refine pw_seq (pw_skip (thenA_normal ?_)) | refine pw_skip ?_ | refine pw_exit ?_ | refine pw_ret ?_ | refine pw_ops G_ok (fun K hK => ?_)) | with_reducible refine pw_block ?_ | (with_reducible refine pK_mk (fun hc => ?_) (fun hc => ?_) <;> (try simp only [go_sem]) <;> (try simp at hc) <;> (try (exfalso; omega))) | ((first | refine pw_seq (pw_cond rfl (fun hc => ?_) (fun hc => ?_)) | refine pw_cond rfl (fun hc => ?_) (fun hc => ?_)) <;> (try simp at hc) <;> (try (exfalso; omega))) | with_reducible refine And.intro (by first | omega | (unfold inI; omega) | exact andI_inI _) ?_)
  refine CallK.cur (none) (among_ok (l := [1, 2, 3, 5, 12, 13, 0]) (by assumption) (by omega) (by simp) (by simp)) rfl rfl rfl rfl rfl rfl ?_; rintro c2 _ ⟨x, hx, rfl, hC⟩; try simp only [mkB, go_sem]
  simp at hx
  repeat' (first | (with_reducible refine execL_step (fun K' hK' => ?_); (first | with_reducible refine s_none rfl ?_ | refine s_some2 rfl ?_); simp only [go_sem]) | (with_reducible refine hK' _ ?_; clear hK' K') | with_reducible refine execL_nil ?_ | (with_reducible refine hK _ ?_; clear hK K; try simp only [go_sem]) | with_reducible refine pw_seq_opsK kl21 G_ok (fun K hK => ?_) | with_reducible (first | refine pw_seq (x := .seq _ _) ?_ | refine thenA_normal ?_ | refine thenA_exit ?_ | refine thenA_ret ?_ | refine inBlockA_same ?_ | refine inBlockA_ret ?_ | refine inBlockA_normal ?_) | refine inBlockA_other (by decide) ?_ | with_reducible (first | refine pw_seq (pw_block ?_) | refine pw_seq (pw_skip (thenA_normal ?_)) | refine pw_skip ?_ | refine pw_exit ?_ | refine pw_ret ?_ | refine pw_ops G_ok (fun K hK => ?_)) | with_reducible refine pw_block ?_ | (with_reducible refine pK_mk (fun hc => ?_) (fun hc => ?_) <;> (try simp only [go_sem]) <;> (try simp at hc) <;> (try (exfalso; omega))) | ((first | refine pw_seq (pw_cond rfl (fun hc => ?_) (fun hc => ?_)) | refine pw_cond rfl (fun hc => ?_) (fun hc => ?_)) <;> (try simp at hc) <;> (try (exfalso; omega))) | with_reducible refine And.intro (by first | omega | (unfold inI; omega) | exact andI_inI _) ?_)
  refine retQ_ret rfl (by simp only [retL, ret1, hget, lk, List.length_map, List.length_nil, List.length_append, List.length_take, if_true, if_false, Nat.reduceEqDiff, Nat.reduceBEq, Bool.false_eq_true, Option.some.injEq]; rfl) (by simp [rowsOf, lk]) ?_
  exact ⟨ls, x, ⟨hls, by omega, by omega⟩, by simp [RV.data]⟩
theorem drawReach_ok (xs : List Int) (hx : ∀ x ∈ xs, 0 ≤ x ∧ x ≤ 255) (hn : xs.length ≤ 9223372036854775807) : FnOK Try.prog 54 [.d (.lst 1 (xs.map datY))] (fun rs => ∃ (ls : List (List FinishD)) (t m : Int), (disOk ls ∧ (0 ≤ t ∧ t ≤ 32) ∧ -20 ≤ m ∧ m ≤ 20) ∧ rs = [.d (.lst 1 (ls.map disD)), .d (.int .i64 t), .d (.int .i64 m)]) := by
  refine FnOK.data ?_
  have hC := cur0 hx hn
  refine fn_ok G_ok Try.func54 rfl rfl ?_; simp only [Try.ntmps54, List.length_cons, List.length_nil, Nat.reduceAdd, Nat.reduceSub, enm]
  repeat' (first | (with_reducible refine execL_step (fun K' hK' => ?_); (first | with_reducible refine s_none rfl ?_ | refine s_some2 rfl ?_); simp only [go_sem]) | (with_reducible refine hK' _ ?_; clear hK' K') | with_reducible refine execL_nil ?_ | (with_reducible refine hK _ ?_; clear hK K; try simp only [go_sem]) | with_reducible refine pw_seq_opsK kl54 G_ok (fun K hK => ?_) | with_reducible (first | refine pw_seq (x := .seq _ _) ?_ | refine thenA_normal ?_ | refine thenA_exit ?_ | refine thenA_ret ?_ | refine inBlockA_same ?_ | refine inBlockA_ret ?_ | refine inBlockA_normal ?_) | refine inBlockA_other (by decide) ?_ | with_reducible (first | refine pw_seq (pw_block ?_) | refine pw_seq (pw_skip (thenA_normal ?_)) | refine pw_skip ?_ | refine pw_exit ?_ | refine pw_ret ?_ | refine pw_ops G_ok (fun K hK => ?_)) | with_reducible refine pw_block ?_ | (with_reducible refine pK_mk (fun hc => ?_) (fun hc => ?_) <;> (try simp only [go_sem]) <;> (try simp at hc) <;> (try (exfalso; omega))) | ((first | refine pw_seq (pw_cond rfl (fun hc => ?_) (fun hc => ?_)) | refine pw_cond rfl (fun hc => ?_) (fun hc => ?_)) <;> (try simp at hc) <;> (try (exfalso; omega))) | with_reducible refine And.intro (by first | omega | (unfold inI; omega) | exact andI_inI _) ?_)
  rw [box3 (.lst 1 (xs.map datY)) (.int .i64 0) (.int .u64 0)]
  generalize [D.lst 1 (xs.map datY), D.int .i64 0, D.int .u64 0] = cs at hC ⊢
  refine CallK.cur (none) (disciplines_ok (by assumption) (by omega)) rfl rfl rfl rfl rfl rfl ?_; rintro c2 _ ⟨x, hx, rfl, hC⟩; try simp only [mkB, go_sem]
  rename List (List FinishD) => ls
  have hls := hx
  repeat' (first | (with_reducible refine execL_step (fun K' hK' => ?_); (first | with_reducible refine s_none rfl ?_ | refine s_some2 rfl ?_); simp only [go_sem]) | (with_reducible refine hK' _ ?_; clear hK' K') | with_reducible refine execL_nil ?_ | (with_reducible refine hK _ ?_; clear hK K; try simp only [go_sem]) | with_reducible refine pw_seq_opsK kl54 G_ok (fun K hK => ?_) | with_reducible (first | refine pw_seq (x := .seq _ _) ?_ | refine thenA_normal ?_ | refine thenA_exit ?_ | refine thenA_ret ?_ | refine inBlockA_same ?_ | refine inBlockA_ret ?_ | refine inBlockA_normal ?_) | refine inBlockA_other (by decide) ?_ | with_reducible (first | refine pw_seq (pw_block ?_) | refine pw_seq (pw_skip (thenA_normal ?_)) | refine pw_skip ?_ | refine pw_exit ?_ | refine pw_ret ?_ | refine pw_ops G_ok (fun K hK => ?_)) | with_reducible refine pw_block ?_ | (with_reducible refine pK_mk (fun hc => ?_) (fun hc => ?_) <;> (try simp only [go_sem]) <;> (try simp at hc) <;> (try (exfalso; omega))) | ((first | refine pw_seq (pw_cond rfl (fun hc => ?_) (fun hc => ?_)) | refine pw_cond rfl (fun hc => ?_) (fun hc => ?_)) <;> (try simp at hc) <;> (try (exfalso; omega))) | with_reducible refine And.intro (by first | omega | (unfold inI; omega) | exact andI_inI _) ?_)
  refine CallK.cur (none) (team_ok (by assumption) (by omega)) rfl rfl rfl rfl rfl rfl ?_; rintro c2 _ ⟨x, hx, rfl, hC⟩; try simp only [mkB, go_sem]
  have ht := hx
  generalize x = t at ht ⊢
  repeat' (first | (with_reducible refine execL_step (fun K' hK' => ?_); (first | with_reducible refine s_none rfl ?_ | refine s_some2 rfl ?_); simp only [go_sem]) | (with_reducible refine hK' _ ?_; clear hK' K') | with_reducible refine execL_nil ?_ | (with_reducible refine hK _ ?_; clear hK K; try simp only [go_sem]) | with_reducible refine pw_seq_opsK kl54 G_ok (fun K hK => ?_) | with_reducible (first | refine pw_seq (x := .seq _ _) ?_ | refine thenA_normal ?_ | refine thenA_exit ?_ | refine thenA_ret ?_ | refine inBlockA_same ?_ | refine inBlockA_ret ?_ | refine inBlockA_normal ?_) | refine inBlockA_other (by decide) ?_ | with_reducible (first | refine pw_seq (pw_block ?_) | refine pw_seq (pw_skip (thenA_normal ?_)) | refine pw_skip ?_ | refine pw_exit ?_ | refine pw_ret ?_ | refine pw_ops G_ok (fun K hK => ?_)) | with_reducible refine pw_block ?_ | (with_reducible refine pK_mk (fun hc => ?_) (fun hc => ?_) <;> (try simp only [go_sem]) <;> (try simp at hc) <;> (try (exfalso; omega))) | ((first | refine pw_seq (pw_cond rfl (fun hc => ?_) (fun hc => ?_)) | refine pw_cond rfl (fun hc => ?_) (fun hc => ?_)) <;> (try simp at hc) <;> (try (exfalso; omega))) | with_reducible refine And.intro (by first | omega | (unfold inI; omega) | exact andI_inI _) ?_)
  refine CallK.cur (none) (pick_ok (by assumption) (by omega)) rfl rfl rfl rfl rfl rfl ?_; rintro c2 _ ⟨x, hx, rfl, hC⟩; try simp only [mkB, go_sem]
  have hu := hx
  generalize x = u at hu ⊢
  repeat' (first | (with_reducible refine execL_step (fun K' hK' => ?_); (first | with_reducible refine s_none rfl ?_ | refine s_some2 rfl ?_); simp only [go_sem]) | (with_reducible refine hK' _ ?_; clear hK' K') | with_reducible refine execL_nil ?_ | (with_reducible refine hK _ ?_; clear hK K; try simp only [go_sem]) | with_reducible refine pw_seq_opsK kl54 G_ok (fun K hK => ?_) | with_reducible (first | refine pw_seq (x := .seq _ _) ?_ | refine thenA_normal ?_ | refine thenA_exit ?_ | refine thenA_ret ?_ | refine inBlockA_same ?_ | refine inBlockA_ret ?_ | refine inBlockA_normal ?_) | refine inBlockA_other (by decide) ?_ | with_reducible (first | refine pw_seq (pw_block ?_) | refine pw_seq (pw_skip (thenA_normal ?_)) | refine pw_skip ?_ | refine pw_exit ?_ | refine pw_ret ?_ | refine pw_ops G_ok (fun K hK => ?_)) | with_reducible refine pw_block ?_ | (with_reducible refine pK_mk (fun hc => ?_) (fun hc => ?_) <;> (try simp only [go_sem]) <;> (try simp at hc) <;> (try (exfalso; omega))) | ((first | refine pw_seq (pw_cond rfl (fun hc => ?_) (fun hc => ?_)) | refine pw_cond rfl (fun hc => ?_) (fun hc => ?_)) <;> (try simp at hc) <;> (try (exfalso; omega))) | with_reducible refine And.intro (by first | omega | (unfold inI; omega) | exact andI_inI _) ?_)
  refine CallK.cur (none) (pick_ok (by assumption) (by omega)) rfl rfl rfl rfl rfl rfl ?_; rintro c2 _ ⟨x, hx, rfl, hC⟩; try simp only [mkB, go_sem]
  have h19 := tdiv_smallT (c := 19) hx.1 (by omega)
  repeat' (first | (with_reducible refine execL_step (fun K' hK' => ?_); (first | with_reducible refine s_none rfl ?_ | refine s_some2 rfl ?_); simp only [go_sem]) | (with_reducible refine hK' _ ?_; clear hK' K') | with_reducible refine execL_nil ?_ | (with_reducible refine hK _ ?_; clear hK K; try simp only [go_sem]) | with_reducible refine pw_seq_opsK kl54 G_ok (fun K hK => ?_) | with_reducible (first | refine pw_seq (x := .seq _ _) ?_ | refine thenA_normal ?_ | refine thenA_exit ?_ | refine thenA_ret ?_ | refine inBlockA_same ?_ | refine inBlockA_ret ?_ | refine inBlockA_normal ?_) | refine inBlockA_other (by decide) ?_ | with_reducible (first | refine pw_seq (pw_block ?_) | refine pw_seq (pw_skip (thenA_normal ?_)) | refine pw_skip ?_ | refine pw_exit ?_ | refine pw_ret ?_ | refine pw_ops G_ok (fun K hK => ?_)) | with_reducible refine pw_block ?_ | (with_reducible refine pK_mk (fun hc => ?_) (fun hc => ?_) <;> (try simp only [go_sem]) <;> (try simp at hc) <;> (try (exfalso; omega))) | ((first | refine pw_seq (pw_cond rfl (fun hc => ?_) (fun hc => ?_)) | refine pw_cond rfl (fun hc => ?_) (fun hc => ?_)) <;> (try simp at hc) <;> (try (exfalso; omega))) | with_reducible refine And.intro (by first | omega | (unfold inI; omega) | exact andI_inI _) ?_)
  refine retQ_ret rfl (by simp only [retL, ret1, hget, lk, List.length_map, List.length_nil, List.length_append, List.length_take, if_true, if_false, Nat.reduceEqDiff, Nat.reduceBEq, Bool.false_eq_true, Option.some.injEq]; rfl) (by simp [rowsOf, lk]) ?_
  exact ⟨ls, t, u - x.tdiv 19, ⟨hls, ht, by omega, by omega⟩, by simp [RV.data]⟩
theorem drawWin_ok (xs : List Int) (hx : ∀ x ∈ xs, 0 ≤ x ∧ x ≤ 255) (hn : xs.length ≤ 9223372036854775807) : FnOK Try.prog 24 [.d (.lst 1 (xs.map datY))] (fun rs => ∃ (ls : List (List FinishD)) (t m : Int), (disOk ls ∧ (0 ≤ t ∧ t ≤ 32) ∧ -20 ≤ m ∧ m ≤ 20) ∧ rs = [.d (.lst 1 (ls.map disD)), .d (.int .i64 t), .d (.int .i64 m)]) := by
  refine fn_ok G_ok Try.func24 rfl rfl ?_; simp only [Try.ntmps24, List.length_cons, List.length_nil, Nat.reduceAdd, Nat.reduceSub, enm]
  repeat' (first | (with_reducible refine execL_step (fun K' hK' => ?_); (first | with_reducible refine s_none rfl ?_ | refine s_some2 rfl ?_); simp only [go_sem]) | (with_reducible refine hK' _ ?_; clear hK' K') | with_reducible refine execL_nil ?_ | (with_reducible refine hK _ ?_; clear hK K; try simp only [go_sem]) | with_reducible refine pw_seq_opsK kl24 G_ok (fun K hK => ?_) | with_reducible (first | refine pw_seq (x := .seq _ _) ?_ | refine thenA_normal ?_ | refine thenA_exit ?_ | refine thenA_ret ?_ | refine inBlockA_same ?_ | refine inBlockA_ret ?_ | refine inBlockA_normal ?_) | refine inBlockA_other (by decide) ?_ | with_reducible (first | refine pw_seq (pw_block ?_) | refine pw_seq (pw_skip (thenA_normal ?_)) | refine pw_skip ?_ | refine pw_exit ?_ | refine pw_ret ?_ | refine pw_ops G_ok (fun K hK => ?_)) | with_reducible refine pw_block ?_ | (with_reducible refine pK_mk (fun hc => ?_) (fun hc => ?_) <;> (try simp only [go_sem]) <;> (try simp at hc) <;> (try (exfalso; omega))) | ((first | refine pw_seq (pw_cond rfl (fun hc => ?_) (fun hc => ?_)) | refine pw_cond rfl (fun hc => ?_) (fun hc => ?_)) <;> (try simp at hc) <;> (try (exfalso; omega))) | with_reducible refine And.intro (by first | omega | (unfold inI; omega) | exact andI_inI _) ?_)
  refine CallK.of (drawReach_ok xs hx hn) ?_; rintro _ ⟨ls, t, m, h, rfl⟩; refine ⟨(fun h => by cases h), ?_⟩; try simp only [go_sem]
  repeat' (first | (with_reducible refine execL_step (fun K' hK' => ?_); (first | with_reducible refine s_none rfl ?_ | refine s_some2 rfl ?_); simp only [go_sem]) | (with_reducible refine hK' _ ?_; clear hK' K') | with_reducible refine execL_nil ?_ | (with_reducible refine hK _ ?_; clear hK K; try simp only [go_sem]) | with_reducible refine pw_seq_opsK kl24 G_ok (fun K hK => ?_) | with_reducible (first | refine pw_seq (x := .seq _ _) ?_ | refine thenA_normal ?_ | refine thenA_exit ?_ | refine thenA_ret ?_ | refine inBlockA_same ?_ | refine inBlockA_ret ?_ | refine inBlockA_normal ?_) | refine inBlockA_other (by decide) ?_ | with_reducible (first | refine pw_seq (pw_block ?_) | refine pw_seq (pw_skip (thenA_normal ?_)) | refine pw_skip ?_ | refine pw_exit ?_ | refine pw_ret ?_ | refine pw_ops G_ok (fun K hK => ?_)) | with_reducible refine pw_block ?_ | (with_reducible refine pK_mk (fun hc => ?_) (fun hc => ?_) <;> (try simp only [go_sem]) <;> (try simp at hc) <;> (try (exfalso; omega))) | ((first | refine pw_seq (pw_cond rfl (fun hc => ?_) (fun hc => ?_)) | refine pw_cond rfl (fun hc => ?_) (fun hc => ?_)) <;> (try simp at hc) <;> (try (exfalso; omega))) | with_reducible refine And.intro (by first | omega | (unfold inI; omega) | exact andI_inI _) ?_)
  refine retQ_ret rfl rfl (by simp [rowsOf, lk]) ?_
  exact ⟨ls, t, m, h, rfl⟩
end Go.Proofs.Ytldcnlhfanbdfaa
