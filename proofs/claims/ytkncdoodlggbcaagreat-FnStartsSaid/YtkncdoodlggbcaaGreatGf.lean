/-
  Lists of lists of numbers: what the laws' helpers give (eqIntSS, markIntSS, heldIntSS), in the abstract machine.
-/
import Derived.Test.YtkncdoodlggbcaaGreatEc
import Derived.Test.YtkncdoodlggbcaaGreatSm
import Derived.Test.YtkncdoodlggbcaaGreatEo
set_option linter.unusedSimpArgs false
set_option linter.unusedVariables false
set_option maxHeartbeats 2000000
set_option maxRecDepth 100000
namespace Go.Proofs.YtkncdoodlggbcaaGreat
open Go.RowKit

def cntG (l : List (List Int)) : Nat := (l.map List.length).sum
theorem cntG_succ {l : List (List Int)} {k : Nat} {x : List Int} (hx : l[k]? = some x) : cntG (l.take (k + 1)) = cntG (l.take k) + x.length := by unfold cntG; rw [take_snoc hx]; simp
theorem cntG_take (l : List (List Int)) (k : Nat) : cntG (l.take k) ≤ cntG l := by
  unfold cntG
  conv => rhs; rw [← List.take_append_drop k l]
  rw [List.map_append, List.sum_append]
  omega
theorem cntG_le {l : List (List Int)} {b : Nat} (h : ∀ c ∈ l, c.length ≤ b) : cntG l ≤ l.length * b := by
  induction l with
  | nil => simp [cntG]
  | cons c l ih =>
    have h1 := h c (by simp)
    have h2 := ih fun x hx => h x (List.mem_cons_of_mem _ hx)
    have e : cntG (c :: l) = c.length + cntG l := by unfold cntG; simp
    rw [e, List.length_cons, Nat.add_mul]
    omega
/-- lists marked with the numbers from q on -/
def mkG (q : Int) : List (List Int) → List (List Int)
  | [] => []
  | c :: l => mkI q c.length :: mkG (q + c.length) l
theorem mkG_len : ∀ (q : Int) (l : List (List Int)), (mkG q l).length = l.length
  | _, [] => rfl
  | q, c :: l => by simp [mkG, mkG_len]
theorem mkG_append : ∀ (q : Int) (l l' : List (List Int)), mkG q (l ++ l') = mkG q l ++ mkG (q + (cntG l : Int)) l'
  | q, [], l' => by simp [mkG, cntG]
  | q, c :: l, l' => by
    simp only [List.cons_append, mkG, mkG_append _ l l']
    congr 3
    simp [cntG]
    omega
theorem mkG_snoc {q : Int} {l : List (List Int)} {k : Nat} {x : List Int} (hx : l[k]? = some x) : mkG q (l.take (k + 1)) = mkG q (l.take k) ++ [mkI (q + (cntG (l.take k) : Int)) x.length] := by
  rw [take_snoc hx, mkG_append]
  rfl
def mkGTo (q : Int) (l : List (List Int)) (k : Nat) : List (List Int) := mkG q (l.take k) ++ l.drop k
def mkGAt (q : Int) (l : List (List Int)) (k : Nat) : Int := q + (cntG (l.take k) : Int)
theorem mkGTo_zero (q : Int) (l : List (List Int)) : mkGTo q l 0 = l := rfl
theorem mkGAt_zero (q : Int) (l : List (List Int)) : mkGAt q l 0 = q := by simp [mkGAt, cntG]
theorem mkGTo_end (q : Int) (l : List (List Int)) : mkGTo q l l.length = mkG q l := by unfold mkGTo; rw [List.take_length, List.drop_length, List.append_nil]
theorem mkGTo_len {q : Int} {l : List (List Int)} {k : Nat} (hk : k ≤ l.length) : (mkGTo q l k).length = l.length := by unfold mkGTo; rw [List.length_append, mkG_len, List.length_drop, List.length_take]; omega
theorem mkGTo_get {q : Int} {l : List (List Int)} {k : Nat} {x : List Int} (hx : l[k]? = some x) : (mkGTo q l k)[k]? = some x := by
  have hk := (List.getElem?_eq_some_iff.1 hx).1
  unfold mkGTo
  rw [List.getElem?_append_right (by rw [mkG_len, List.length_take]; omega), mkG_len, List.length_take, Nat.min_eq_left (by omega), Nat.sub_self, List.getElem?_drop]
  exact hx
theorem mkGTo_set {q : Int} {l : List (List Int)} {k : Nat} {x : List Int} (hx : l[k]? = some x) : (mkGTo q l k).set k (mkI (mkGAt q l k) x.length) = mkGTo q l (k + 1) := by
  have hk := (List.getElem?_eq_some_iff.1 hx).1
  unfold mkGTo
  rw [List.set_append_right _ _ (by rw [mkG_len, List.length_take]; omega), mkG_len, List.length_take, Nat.min_eq_left (by omega), Nat.sub_self, mkG_snoc hx, List.drop_eq_getElem_cons hk, List.append_assoc]
  rfl
theorem mkGAt_succ {q : Int} {l : List (List Int)} {k : Nat} {x : List Int} (hx : l[k]? = some x) : mkGAt q l (k + 1) = mkGAt q l k + (x.length : Int) := by unfold mkGAt; rw [cntG_succ hx]; omega
theorem mkG_get {q : Int} {l : List (List Int)} {k : Nat} {x : List Int} (hx : l[k]? = some x) : (mkG q l)[k]? = some (mkI (mkGAt q l k) x.length) := by
  have hk := (List.getElem?_eq_some_iff.1 hx).1
  have h1 : (mkG q l)[k]? = (mkG q (l.take (k + 1)))[k]? := by
    conv => lhs; rw [← List.take_append_drop (k + 1) l, mkG_append]
    rw [List.getElem?_append_left (by rw [mkG_len, List.length_take]; omega)]
  rw [h1, mkG_snoc hx, List.getElem?_append_right (by rw [mkG_len, List.length_take]; omega), mkG_len, List.length_take, Nat.min_eq_left (by omega), Nat.sub_self]
  rfl
end Go.Proofs.YtkncdoodlggbcaaGreat
namespace Go.Proofs.YtkncdoodlggbcaaGreat
open Go.RowKit Go.Sort

theorem perm_of_in : ∀ {s c : List Int}, s.Pairwise (· ≠ ·) → s.length = c.length → (∀ n ∈ s, n ∈ c) → s.Perm c
  | [], c, _, hl, _ => by rw [List.eq_nil_of_length_eq_zero (l := c) (by simpa using hl.symm)]
  | x :: s, c, hp, hl, hm => by
    have hx := hm x (by simp)
    have h1 := List.perm_cons_erase hx
    have hp1 := List.pairwise_cons.1 hp
    refine (List.Perm.cons x (perm_of_in hp1.2 ?_ fun n hn => ?_)).trans h1.symm
    · have h2 := h1.length_eq
      simp only [List.length_cons] at hl h2
      omega
    · exact (List.mem_erase_of_ne (fun e => hp1.1 n hn e.symm)).2 (hm n (List.mem_cons_of_mem _ hn))
theorem sort_same {s c : List Int} (hp : s.Pairwise (· ≠ ·)) (hl : s.length = c.length) (hc : c.Pairwise (· ≤ ·)) : bP (sortUp s = c) = bP (∀ n ∈ s, n ∈ c) := by
  by_cases h : ∀ n ∈ s, n ∈ c
  · rw [bP_true h, bP_true]
    exact List.Perm.eq_of_pairwise (le := fun a b : Int => a ≤ b) (fun a b _ _ h1 h2 => by omega) (sortUp_sorted s) hc ((sortUp_perm s).trans (perm_of_in hp hl h))
  · rw [bP_false h, bP_false]
    rintro rfl
    exact h fun n hn => (sortUp_perm s).mem_iff.2 hn
def offG (gs : List (List Int)) (k : Nat) : Nat := cntG (gs.take k)
theorem offG_zero (gs : List (List Int)) : offG gs 0 = 0 := by simp [offG, cntG]
theorem offG_succ {gs : List (List Int)} {k : Nat} {c : List Int} (hx : gs[k]? = some c) : offG gs (k + 1) = offG gs k + c.length := cntG_succ hx
def FitAt (gs : List (List Int)) (o : List Int) (j : Nat) (c : List Int) : Prop := c.length ≤ (o.drop (offG gs j)).length ∧ ∀ n ∈ (o.drop (offG gs j)).take c.length, n ∈ c
def FitOk (gs : List (List Int)) (o : List Int) : Prop := Upto (FitAt gs o) gs gs.length ∧ o.drop (offG gs gs.length) = []
theorem FitOk.not_at {gs : List (List Int)} {o : List Int} {k : Nat} {c : List Int} (hx : gs[k]? = some c) (hf : ¬ FitAt gs o k c) : ¬ FitOk gs o :=
  fun h => hf (h.1 k c (List.getElem?_eq_some_iff.1 hx).1 hx)
theorem fit_end {gs : List (List Int)} {o : List Int} (h : Upto (FitAt gs o) gs gs.length) : (((o.drop (offG gs gs.length)).length : Int) == 0) = bP (FitOk gs o) := by
  by_cases h0 : o.drop (offG gs gs.length) = []
  · rw [bP_true ⟨h, h0⟩, h0]; rfl
  · rw [bP_false fun h' => h0 h'.2, beq_eq_false_iff_ne]
    intro e
    exact h0 (List.eq_nil_of_length_eq_zero (by omega))
theorem sortedIntsD_ok (l : List Int) (hn : l.length ≤ 1048576) : FnEq Tryz.prog 67 [.d (.lst 1 (l.map datI))] [.row 3 1 ((sortUp l).map datI)] := by
  refine fn_ok G_ok Tryz.func67 rfl rfl ?_; simp only [Tryz.ntmps67, List.length_cons, List.length_nil, Nat.reduceAdd, Nat.reduceSub, enm]
  have hsl := sortUp_len l
  repeat' (first | (with_reducible refine execL_step (fun K' hK' => ?_); (first | with_reducible refine s_none rfl ?_ | refine s_some2 rfl ?_); simp only [go_sem]) | (with_reducible refine hK' _ ?_; clear hK' K') | with_reducible refine execL_nil ?_ | (with_reducible refine hK _ ?_; clear hK K; try simp only [go_sem]) | with_reducible refine pw_seq_opsK kl67 G_ok (fun K hK => ?_) | (with_reducible refine CallK.eq (copyInts_ok l hn) ?_ ?_; (focus (simp [RV.flat, D.sc, datI]; done)); try simp only [go_sem]) | with_reducible (first | refine pw_seq (x := .seq _ _) ?_ | refine thenA_normal ?_ | refine thenA_exit ?_ | refine thenA_ret ?_ | refine inBlockA_same ?_ | refine inBlockA_ret ?_ | refine inBlockA_normal ?_) | refine inBlockA_other (by decide) ?_ | with_reducible (first | refine pw_seq (pw_block ?_) | refine pw_seq (pw_skip (thenA_normal ?_)) | refine pw_skip ?_ | refine pw_exit ?_ | refine pw_ret ?_ | refine pw_ops G_ok (fun K hK => ?_)) | with_reducible refine pw_block ?_ | (with_reducible refine pK_mk (fun hc => ?_) (fun hc => ?_) <;> (try simp only [go_sem]) <;> (try simp at hc) <;> (try (exfalso; omega))) | ((first | refine pw_seq (pw_cond rfl (fun hc => ?_) (fun hc => ?_)) | refine pw_cond rfl (fun hc => ?_) (fun hc => ?_)) <;> (try simp at hc) <;> (try (exfalso; omega))) | with_reducible refine And.intro (by first | omega | (unfold inI; omega) | exact andI_inI _) ?_)
  refine CallK.po (po_callMr rfl rfl rfl rfl rfl (by simp [D.sc]) (by simp [D.sc]) rfl (by simp [hsl]) (flatE_datI _) (flatE_datI _) (sortM_ok l (by omega)) ?_)
  repeat' (first | (with_reducible refine execL_step (fun K' hK' => ?_); (first | with_reducible refine s_none rfl ?_ | refine s_some2 rfl ?_); simp only [go_sem, List.length_map]) | (with_reducible refine hK' _ ?_; clear hK' K') | with_reducible refine execL_nil ?_ | (with_reducible refine hK _ ?_; clear hK K; try simp only [go_sem, List.length_map]) | with_reducible refine pw_seq_opsK kl67 G_ok (fun K hK => ?_) | with_reducible (first | refine pw_seq (x := .seq _ _) ?_ | refine thenA_normal ?_ | refine thenA_exit ?_ | refine thenA_ret ?_ | refine inBlockA_same ?_ | refine inBlockA_ret ?_ | refine inBlockA_normal ?_) | refine inBlockA_other (by decide) ?_ | with_reducible (first | refine pw_seq (pw_block ?_) | refine pw_seq (pw_skip (thenA_normal ?_)) | refine pw_skip ?_ | refine pw_exit ?_ | refine pw_ret ?_ | refine pw_ops G_ok (fun K hK => ?_)) | with_reducible refine pw_block ?_ | (with_reducible refine pK_mk (fun hc => ?_) (fun hc => ?_) <;> (try simp only [go_sem, List.length_map]) <;> (try simp at hc) <;> (try (exfalso; omega))) | ((first | refine pw_seq (pw_cond rfl (fun hc => ?_) (fun hc => ?_)) | refine pw_cond rfl (fun hc => ?_) (fun hc => ?_)) <;> (try simp at hc) <;> (try (exfalso; omega))) | with_reducible refine And.intro (by first | omega | (unfold inI; omega) | exact andI_inI _) ?_)
  refine retQ_ret rfl (by simp only [hsl, retL, ret1, hget, lk, List.length_map, List.length_nil, List.length_append, List.length_take, if_true, if_false, Nat.reduceEqDiff, Nat.reduceBEq, Bool.false_eq_true, Option.some.injEq]; rfl) (by simp [rowsOf, lk]) ?_; rfl
theorem equalD_ok (xs ys : List Int) (hn : xs.length ≤ 1048576) (hn' : ys.length ≤ 9223372036854775807) : FnEq Tryz.prog 66 [.d (.lst 1 (xs.map datI)), .d (.lst 1 (ys.map datI))] [.d (.bool (bP (xs = ys)))] := by
  refine fn_ok G_ok Tryz.func66 rfl rfl ?_; simp only [Tryz.ntmps66, List.length_cons, List.length_nil, Nat.reduceAdd, Nat.reduceSub, enm]
  repeat' (first | (with_reducible refine execL_step (fun K' hK' => ?_); (first | with_reducible refine s_none rfl ?_ | refine s_some2 rfl ?_); simp only [go_sem]) | (with_reducible refine hK' _ ?_; clear hK' K') | (with_reducible refine quietL_step (fun K' hK' => ?_); (first | with_reducible refine s_none rfl ?_ | refine s_some2 rfl ?_); simp only [go_sem]) | with_reducible refine quietL_nil ?_ | with_reducible refine execL_nil ?_ | (with_reducible refine hK _ ?_; clear hK K; try simp only [go_sem]) | with_reducible refine pw_seq_opsK kl66 G_ok (fun K hK => ?_) | with_reducible (first | refine pw_seq (x := .seq _ _) ?_ | refine thenA_normal ?_ | refine thenA_exit ?_ | refine thenA_ret ?_ | refine inBlockA_same ?_ | refine inBlockA_ret ?_ | refine inBlockA_normal ?_) | refine inBlockA_other (by decide) ?_ | with_reducible (first | refine pw_seq (pw_block ?_) | refine pw_seq (pw_skip (thenA_normal ?_)) | refine pw_skip ?_ | refine pw_exit ?_ | refine pw_ret ?_ | refine pw_ops G_ok (fun K hK => ?_)) | (with_reducible refine pw_seq_drawK kl66 G_ok mixed (by kernel_rfl) (fun K hK => ?_)) | (with_reducible refine pw_draw G_ok mixed (by kernel_rfl) ?_) | with_reducible refine pw_block ?_ | (with_reducible refine pK_mk (fun hc => ?_) (fun hc => ?_) <;> (try simp only [go_sem]) <;> (try simp at hc) <;> (try (exfalso; omega))) | ((first | refine pw_seq (pw_cond rfl (fun hc => ?_) (fun hc => ?_)) | refine pw_cond rfl (fun hc => ?_) (fun hc => ?_)) <;> (try simp at hc) <;> (try (exfalso; omega))) | with_reducible refine And.intro (by first | omega | (unfold inI; omega) | exact andI_inI _) ?_)
  · refine retQ_ret rfl rfl (by simp [rowsOf, lk]) ?_; rw [bP_false fun h => absurd (congrArg List.length h) (by omega)]
  · refine pw_loop_over [4, 5, 13, 14, 15, 16, 17, 18, 19, 20, 21, 22, 23, 24, 25] (fun k : Nat => [(13, .d (.int .i64 (k : Int)))]) (fun k : Nat => []) 0 (fun k : Nat => k ≤ xs.length ∧ xs.take k = ys.take k) (fun k : Nat => xs.length - k) 0 ⟨Nat.zero_le _, by simp⟩ (fits_mk [] (by simp [renL_d, bdL_d, sg, over, wipe, wl, memN, ins, rm, lk, fitFr, fit1, ren, renL, bd, bdL, app, fitHp, hget, renB, bdB] <;> omega)) ?_
    rintro k ⟨hk, hJ⟩
    simp only [over, wipe, wl, memN, ins, rm, if_true, if_false, Nat.reduceEqDiff, Bool.false_eq_true, reduceCtorEq]
    by_cases hlt : k < xs.length
    · have hx := List.getElem?_eq_getElem hlt
      generalize xs[k] = x at hx
      have hy := List.getElem?_eq_getElem (show k < ys.length by omega)
      generalize ys[k] = y at hy
      repeat' (first | (with_reducible refine execL_step (fun K' hK' => ?_); (first | with_reducible refine s_none rfl ?_ | refine s_some2 rfl ?_); simp only [go_sem, List.getElem?_map, hx, hy, Option.map_some, datI]) | (with_reducible refine hK' _ ?_; clear hK' K') | (with_reducible refine quietL_step (fun K' hK' => ?_); (first | with_reducible refine s_none rfl ?_ | refine s_some2 rfl ?_); simp only [go_sem, List.getElem?_map, hx, hy, Option.map_some, datI]) | with_reducible refine quietL_nil ?_ | with_reducible refine execL_nil ?_ | (with_reducible refine hK _ ?_; clear hK K; try simp only [go_sem, List.getElem?_map, hx, hy, Option.map_some, datI]) | with_reducible refine pw_seq_opsK kl66 G_ok (fun K hK => ?_) | with_reducible (first | refine pw_seq (x := .seq _ _) ?_ | refine thenA_normal ?_ | refine thenA_exit ?_ | refine thenA_ret ?_ | refine inBlockA_same ?_ | refine inBlockA_ret ?_ | refine inBlockA_normal ?_) | refine inBlockA_other (by decide) ?_ | with_reducible (first | refine pw_seq (pw_block ?_) | refine pw_seq (pw_skip (thenA_normal ?_)) | refine pw_skip ?_ | refine pw_exit ?_ | refine pw_ret ?_ | refine pw_ops G_ok (fun K hK => ?_)) | (with_reducible refine pw_seq_drawK kl66 G_ok mixed (by kernel_rfl) (fun K hK => ?_)) | (with_reducible refine pw_draw G_ok mixed (by kernel_rfl) ?_) | with_reducible refine pw_block ?_ | (with_reducible refine pK_mk (fun hc => ?_) (fun hc => ?_) <;> (try simp only [go_sem, List.getElem?_map, hx, hy, Option.map_some, datI]) <;> (try simp at hc) <;> (try (exfalso; omega))) | ((first | refine pw_seq (pw_cond rfl (fun hc => ?_) (fun hc => ?_)) | refine pw_cond rfl (fun hc => ?_) (fun hc => ?_)) <;> (try simp at hc) <;> (try (exfalso; omega))) | with_reducible refine And.intro (by first | omega | (unfold inI; omega) | exact andI_inI _) ?_)
      · refine retQ_ret rfl rfl (by simp [rowsOf, lk]) ?_; rw [bP_false fun h => by rw [h, hy] at hx; exact absurd (Option.some.inj hx).symm (by assumption)]
      · exact ⟨k + 1, ⟨by omega, by rw [take_snoc hx, take_snoc hy, hJ, hc]⟩, by omega, (fits_mk [] (by simp [renL_d, bdL_d, sg, over, wipe, wl, memN, ins, rm, lk, fitFr, fit1, ren, renL, bd, bdL, app, fitHp, hget, renB, bdB] <;> omega))⟩
    · repeat' (first | (with_reducible refine execL_step (fun K' hK' => ?_); (first | with_reducible refine s_none rfl ?_ | refine s_some2 rfl ?_); simp only [go_sem]) | (with_reducible refine hK' _ ?_; clear hK' K') | (with_reducible refine quietL_step (fun K' hK' => ?_); (first | with_reducible refine s_none rfl ?_ | refine s_some2 rfl ?_); simp only [go_sem]) | with_reducible refine quietL_nil ?_ | with_reducible refine execL_nil ?_ | (with_reducible refine hK _ ?_; clear hK K; try simp only [go_sem]) | with_reducible refine pw_seq_opsK kl66 G_ok (fun K hK => ?_) | with_reducible (first | refine pw_seq (x := .seq _ _) ?_ | refine thenA_normal ?_ | refine thenA_exit ?_ | refine thenA_ret ?_ | refine inBlockA_same ?_ | refine inBlockA_ret ?_ | refine inBlockA_normal ?_) | refine inBlockA_other (by decide) ?_ | with_reducible (first | refine pw_seq (pw_block ?_) | refine pw_seq (pw_skip (thenA_normal ?_)) | refine pw_skip ?_ | refine pw_exit ?_ | refine pw_ret ?_ | refine pw_ops G_ok (fun K hK => ?_)) | (with_reducible refine pw_seq_drawK kl66 G_ok mixed (by kernel_rfl) (fun K hK => ?_)) | (with_reducible refine pw_draw G_ok mixed (by kernel_rfl) ?_) | with_reducible refine pw_block ?_ | (with_reducible refine pK_mk (fun hc => ?_) (fun hc => ?_) <;> (try simp only [go_sem]) <;> (try simp at hc) <;> (try (exfalso; omega))) | ((first | refine pw_seq (pw_cond rfl (fun hc => ?_) (fun hc => ?_)) | refine pw_cond rfl (fun hc => ?_) (fun hc => ?_)) <;> (try simp at hc) <;> (try (exfalso; omega))) | with_reducible refine And.intro (by first | omega | (unfold inI; omega) | exact andI_inI _) ?_)
      refine retQ_ret rfl rfl (by simp [rowsOf, lk]) ?_; rw [bP_true (by rwa [List.take_of_length_le (by omega), List.take_of_length_le (by omega)] at hJ)]
theorem soFits_ok (gs : List (List Int)) (o : List Int) (hn : gs.length ≤ 1048576) (ho : o.length ≤ 1048576) (hb : ∀ c ∈ gs, c.length ≤ 1048576) : FnEq Tryz.prog 48 [.d (.lst 1 (gs.map datG)), .d (.lst 1 (o.map datI))] [.d (.bool (bP (FitOk gs o)))] := by
  refine fn_ok G_ok Tryz.func48 rfl rfl ?_; simp only [Tryz.ntmps48, List.length_cons, List.length_nil, Nat.reduceAdd, Nat.reduceSub, enm]
  repeat' (first | (with_reducible refine execL_step (fun K' hK' => ?_); (first | with_reducible refine s_none rfl ?_ | refine s_some2 rfl ?_); simp only [go_sem]) | (with_reducible refine hK' _ ?_; clear hK' K') | with_reducible refine execL_nil ?_ | (with_reducible refine hK _ ?_; clear hK K; try simp only [go_sem]) | with_reducible refine pw_seq_opsK kl48 G_ok (fun K hK => ?_) | with_reducible (first | refine pw_seq (x := .seq _ _) ?_ | refine thenA_normal ?_ | refine thenA_exit ?_ | refine thenA_ret ?_ | refine inBlockA_same ?_ | refine inBlockA_ret ?_ | refine inBlockA_normal ?_) | refine inBlockA_other (by decide) ?_ | with_reducible (first | refine pw_seq (pw_block ?_) | refine pw_seq (pw_skip (thenA_normal ?_)) | refine pw_skip ?_ | refine pw_exit ?_ | refine pw_ret ?_ | refine pw_ops G_ok (fun K hK => ?_)) | with_reducible refine pw_block ?_ | (with_reducible refine pK_mk (fun hc => ?_) (fun hc => ?_) <;> (try simp only [go_sem]) <;> (try simp at hc) <;> (try (exfalso; omega))) | ((first | refine pw_seq (pw_cond rfl (fun hc => ?_) (fun hc => ?_)) | refine pw_cond rfl (fun hc => ?_) (fun hc => ?_)) <;> (try simp at hc) <;> (try (exfalso; omega))) | with_reducible refine And.intro (by first | omega | (unfold inI; omega) | exact andI_inI _) ?_)
  refine pw_loop_over [1, 4, 6, 8, 11, 12, 13, 14, 15, 16, 17, 18, 19, 20, 21, 22, 23, 24, 25, 26, 27, 28, 29, 30, 31, 32, 33, 34, 35, 36, 37, 38] (fun k : Nat => [(11, .d (.int .i64 (k : Int))), (1, .d (.lst 1 ((o.drop (offG gs k)).map datI)))]) (fun k : Nat => []) 0 (fun k : Nat => k ≤ gs.length ∧ Upto (FitAt gs o) gs k) (fun k : Nat => gs.length - k) 0 ⟨Nat.zero_le _, Upto.zero _ _⟩ (fits_mk [] (by simp [renL_d, bdL_d, sg, over, wipe, wl, memN, ins, rm, lk, fitFr, fit1, ren, renL, bd, bdL, app, fitHp, hget, renB, bdB, offG_zero, List.drop_zero] <;> omega)) ?_
  rintro k ⟨hk, hJ⟩
  have hdl : (o.drop (offG gs k)).length ≤ 1048576 := by rw [List.length_drop]; omega
  simp only [over, wipe, wl, memN, ins, rm, if_true, if_false, Nat.reduceEqDiff, Bool.false_eq_true, reduceCtorEq]
  by_cases hlt : k < gs.length
  · have hx := List.getElem?_eq_getElem hlt
    generalize gs[k] = c at hx
    have hcl := hb c (List.mem_of_getElem? hx)
    have hoS := offG_succ hx
    have hdr : List.drop c.length ((o.drop (offG gs k)).map datI) = (o.drop (offG gs (k + 1))).map datI := by rw [← List.map_drop, List.drop_drop, hoS]
    have hfa : FitAt gs o k c ↔ c.length ≤ (o.drop (offG gs k)).length ∧ ∀ n ∈ (o.drop (offG gs k)).take c.length, n ∈ c := Iff.rfl
    generalize o.drop (offG gs k) = r at hdl hdr hfa
    have htx : List.take r.length (List.map datI r) = List.map datI r := List.take_of_length_le (by simp)
    by_cases hle : c.length ≤ r.length
    · have htk : List.take c.length (r.map datI) = (r.take c.length).map datI := by rw [List.map_take]
      have hsl : (r.take c.length).length = c.length := by rw [List.length_take]; omega
      generalize r.take c.length = s at hfa htk hsl
      repeat' (first | (with_reducible refine execL_step (fun K' hK' => ?_); (first | with_reducible refine s_none rfl ?_ | refine s_some2 rfl ?_); simp only [go_sem, List.getElem?_map, hx, Option.map_some, datG, hle, hlt, htk, hsl, List.length_map, List.drop_zero]) | (with_reducible refine hK' _ ?_; clear hK' K') | with_reducible refine execL_nil ?_ | (with_reducible refine hK _ ?_; clear hK K; try simp only [go_sem, List.getElem?_map, hx, Option.map_some, datG, hle, hlt, htk, hsl, List.length_map, List.drop_zero]) | with_reducible refine pw_seq_opsK kl48 G_ok (fun K hK => ?_) | with_reducible (first | refine pw_seq (x := .seq _ _) ?_ | refine thenA_normal ?_ | refine thenA_exit ?_ | refine thenA_ret ?_ | refine inBlockA_same ?_ | refine inBlockA_ret ?_ | refine inBlockA_normal ?_) | refine inBlockA_other (by decide) ?_ | with_reducible (first | refine pw_seq (pw_block ?_) | refine pw_seq (pw_skip (thenA_normal ?_)) | refine pw_skip ?_ | refine pw_exit ?_ | refine pw_ret ?_ | refine pw_ops G_ok (fun K hK => ?_)) | with_reducible refine pw_block ?_ | (with_reducible refine pK_mk (fun hc => ?_) (fun hc => ?_) <;> (try simp only [go_sem, List.getElem?_map, hx, Option.map_some, datG, hle, hlt, htk, hsl, List.length_map, List.drop_zero]) <;> (try simp at hc) <;> (try (exfalso; omega))) | ((first | refine pw_seq (pw_cond rfl (fun hc => ?_) (fun hc => ?_)) | refine pw_cond rfl (fun hc => ?_) (fun hc => ?_)) <;> (try simp at hc) <;> (try (exfalso; omega))) | with_reducible refine And.intro (by first | omega | (unfold inI; omega) | exact andI_inI _) ?_)
      all_goals first
        | (exfalso; omega)
        | skip
      refine pw_loop_over [4, 8, 25, 26, 27, 28, 29, 30, 31, 32, 33] (fun j : Nat => [(25, .d (.int .i64 (j : Int)))]) (fun _ => []) 0 (fun j => j ≤ c.length ∧ ∀ n ∈ s.take j, n ∈ c) (fun j => c.length - j) 0 ⟨by omega, by simp⟩ (fits_mk [] (by simp [renL_d, bdL_d, sg, over, wipe, wl, memN, ins, rm, lk, fitFr, fit1, ren, renL, bd, bdL, app, fitHp, hget, renB, bdB, hsl] <;> omega)) ?_
      rintro j ⟨hj, hI⟩
      simp only [over, wipe, wl, memN, ins, rm, if_true, if_false, Nat.reduceEqDiff, Bool.false_eq_true, reduceCtorEq]
      by_cases hlj : j < c.length
      · have hy := List.getElem?_eq_getElem (show j < s.length by omega)
        generalize s[j] = y at hy
        by_cases hyc : y ∈ c
        · have hm := bP_true hyc
          repeat' (first | (with_reducible refine execL_step (fun K' hK' => ?_); (first | with_reducible refine s_none rfl ?_ | refine s_some2 rfl ?_); simp only [go_sem, List.getElem?_map, hy, Option.map_some, datI, hsl, hm]) | (with_reducible refine hK' _ ?_; clear hK' K') | with_reducible refine execL_nil ?_ | (with_reducible refine hK _ ?_; clear hK K; try simp only [go_sem, List.getElem?_map, hy, Option.map_some, datI, hsl, hm]) | with_reducible refine pw_seq_opsK kl48 G_ok (fun K hK => ?_) | (with_reducible refine CallK.eq (l1Has_ok c y (by omega)) ?_ ?_; (focus (simp [RV.flat, D.sc, datI]; done)); try simp only [go_sem, List.getElem?_map, hy, Option.map_some, datI, hsl, hm]) | with_reducible (first | refine pw_seq (x := .seq _ _) ?_ | refine thenA_normal ?_ | refine thenA_exit ?_ | refine thenA_ret ?_ | refine inBlockA_same ?_ | refine inBlockA_ret ?_ | refine inBlockA_normal ?_) | refine inBlockA_other (by decide) ?_ | with_reducible (first | refine pw_seq (pw_block ?_) | refine pw_seq (pw_skip (thenA_normal ?_)) | refine pw_skip ?_ | refine pw_exit ?_ | refine pw_ret ?_ | refine pw_ops G_ok (fun K hK => ?_)) | with_reducible refine pw_block ?_ | (with_reducible refine pK_mk (fun hc => ?_) (fun hc => ?_) <;> (try simp only [go_sem, List.getElem?_map, hy, Option.map_some, datI, hsl, hm]) <;> (try simp at hc) <;> (try (exfalso; omega))) | ((first | refine pw_seq (pw_cond rfl (fun hc => ?_) (fun hc => ?_)) | refine pw_cond rfl (fun hc => ?_) (fun hc => ?_)) <;> (try simp at hc) <;> (try (exfalso; omega))) | with_reducible refine And.intro (by first | omega | (unfold inI; omega) | exact andI_inI _) ?_)
          all_goals first
            | (exfalso; omega)
            | exact ⟨j + 1, ⟨by omega, fun n hn => by
                rw [take_snoc hy] at hn
                rcases List.mem_append.1 hn with h | h
                · exact hI n h
                · rw [List.mem_singleton] at h; subst h; exact hyc⟩, by omega, (fits_mk [] (by simp [renL_d, bdL_d, sg, over, wipe, wl, memN, ins, rm, lk, fitFr, fit1, ren, renL, bd, bdL, app, fitHp, hget, renB, bdB] <;> omega))⟩
        · have hm := bP_false hyc
          repeat' (first | (with_reducible refine execL_step (fun K' hK' => ?_); (first | with_reducible refine s_none rfl ?_ | refine s_some2 rfl ?_); simp only [go_sem, List.getElem?_map, hy, Option.map_some, datI, hsl, hm]) | (with_reducible refine hK' _ ?_; clear hK' K') | with_reducible refine execL_nil ?_ | (with_reducible refine hK _ ?_; clear hK K; try simp only [go_sem, List.getElem?_map, hy, Option.map_some, datI, hsl, hm]) | with_reducible refine pw_seq_opsK kl48 G_ok (fun K hK => ?_) | (with_reducible refine CallK.eq (l1Has_ok c y (by omega)) ?_ ?_; (focus (simp [RV.flat, D.sc, datI]; done)); try simp only [go_sem, List.getElem?_map, hy, Option.map_some, datI, hsl, hm]) | with_reducible (first | refine pw_seq (x := .seq _ _) ?_ | refine thenA_normal ?_ | refine thenA_exit ?_ | refine thenA_ret ?_ | refine inBlockA_same ?_ | refine inBlockA_ret ?_ | refine inBlockA_normal ?_) | refine inBlockA_other (by decide) ?_ | with_reducible (first | refine pw_seq (pw_block ?_) | refine pw_seq (pw_skip (thenA_normal ?_)) | refine pw_skip ?_ | refine pw_exit ?_ | refine pw_ret ?_ | refine pw_ops G_ok (fun K hK => ?_)) | with_reducible refine pw_block ?_ | (with_reducible refine pK_mk (fun hc => ?_) (fun hc => ?_) <;> (try simp only [go_sem, List.getElem?_map, hy, Option.map_some, datI, hsl, hm]) <;> (try simp at hc) <;> (try (exfalso; omega))) | ((first | refine pw_seq (pw_cond rfl (fun hc => ?_) (fun hc => ?_)) | refine pw_cond rfl (fun hc => ?_) (fun hc => ?_)) <;> (try simp at hc) <;> (try (exfalso; omega))) | with_reducible refine And.intro (by first | omega | (unfold inI; omega) | exact andI_inI _) ?_)
          all_goals first
            | (exfalso; omega)
            | (refine retQ_ret rfl rfl (by simp [rowsOf, lk]) ?_; rw [bP_false (FitOk.not_at hx fun h => hyc ((hfa.1 h).2 y (List.mem_of_getElem? hy)))])
      · obtain rfl : j = c.length := by omega
        rw [List.take_of_length_le (by omega)] at hI
        repeat' (first | (with_reducible refine execL_step (fun K' hK' => ?_); (first | with_reducible refine s_none rfl ?_ | refine s_some2 rfl ?_); simp only [go_sem, hsl, hle, htx, hdr, List.take_length, List.length_map]) | (with_reducible refine hK' _ ?_; clear hK' K') | with_reducible refine execL_nil ?_ | (with_reducible refine hK _ ?_; clear hK K; try simp only [go_sem, hsl, hle, htx, hdr, List.take_length, List.length_map]) | with_reducible refine pw_seq_opsK kl48 G_ok (fun K hK => ?_) | with_reducible (first | refine pw_seq (x := .seq _ _) ?_ | refine thenA_normal ?_ | refine thenA_exit ?_ | refine thenA_ret ?_ | refine inBlockA_same ?_ | refine inBlockA_ret ?_ | refine inBlockA_normal ?_) | refine inBlockA_other (by decide) ?_ | with_reducible (first | refine pw_seq (pw_block ?_) | refine pw_seq (pw_skip (thenA_normal ?_)) | refine pw_skip ?_ | refine pw_exit ?_ | refine pw_ret ?_ | refine pw_ops G_ok (fun K hK => ?_)) | with_reducible refine pw_block ?_ | (with_reducible refine pK_mk (fun hc => ?_) (fun hc => ?_) <;> (try simp only [go_sem, hsl, hle, htx, hdr, List.take_length, List.length_map]) <;> (try simp at hc) <;> (try (exfalso; omega))) | ((first | refine pw_seq (pw_cond rfl (fun hc => ?_) (fun hc => ?_)) | refine pw_cond rfl (fun hc => ?_) (fun hc => ?_)) <;> (try simp at hc) <;> (try (exfalso; omega))) | with_reducible refine And.intro (by first | omega | (unfold inI; omega) | exact andI_inI _) ?_)
        all_goals first
          | (exfalso; omega)
          | exact ⟨k + 1, ⟨by omega, hJ.succ hx (hfa.2 ⟨hle, hI⟩)⟩, by omega, (fits_mk [] (by simp [renL_d, bdL_d, sg, over, wipe, wl, memN, ins, rm, lk, fitFr, fit1, ren, renL, bd, bdL, app, fitHp, hget, renB, bdB, htx, hdr] <;> omega))⟩
    · repeat' (first | (with_reducible refine execL_step (fun K' hK' => ?_); (first | with_reducible refine s_none rfl ?_ | refine s_some2 rfl ?_); simp only [go_sem, List.getElem?_map, hx, Option.map_some, datG, hle, hlt, List.length_map]) | (with_reducible refine hK' _ ?_; clear hK' K') | with_reducible refine execL_nil ?_ | (with_reducible refine hK _ ?_; clear hK K; try simp only [go_sem, List.getElem?_map, hx, Option.map_some, datG, hle, hlt, List.length_map]) | with_reducible refine pw_seq_opsK kl48 G_ok (fun K hK => ?_) | with_reducible (first | refine pw_seq (x := .seq _ _) ?_ | refine thenA_normal ?_ | refine thenA_exit ?_ | refine thenA_ret ?_ | refine inBlockA_same ?_ | refine inBlockA_ret ?_ | refine inBlockA_normal ?_) | refine inBlockA_other (by decide) ?_ | with_reducible (first | refine pw_seq (pw_block ?_) | refine pw_seq (pw_skip (thenA_normal ?_)) | refine pw_skip ?_ | refine pw_exit ?_ | refine pw_ret ?_ | refine pw_ops G_ok (fun K hK => ?_)) | with_reducible refine pw_block ?_ | (with_reducible refine pK_mk (fun hc => ?_) (fun hc => ?_) <;> (try simp only [go_sem, List.getElem?_map, hx, Option.map_some, datG, hle, hlt, List.length_map]) <;> (try simp at hc) <;> (try (exfalso; omega))) | ((first | refine pw_seq (pw_cond rfl (fun hc => ?_) (fun hc => ?_)) | refine pw_cond rfl (fun hc => ?_) (fun hc => ?_)) <;> (try simp at hc) <;> (try (exfalso; omega))) | with_reducible refine And.intro (by first | omega | (unfold inI; omega) | exact andI_inI _) ?_)
      all_goals first
        | (exfalso; omega)
        | (refine retQ_ret rfl rfl (by simp [rowsOf, lk]) ?_; rw [bP_false (FitOk.not_at hx fun h => hle (hfa.1 h).1)])
  · obtain rfl : k = gs.length := by omega
    repeat' (first | (with_reducible refine execL_step (fun K' hK' => ?_); (first | with_reducible refine s_none rfl ?_ | refine s_some2 rfl ?_); simp only [go_sem, List.length_map]) | (with_reducible refine hK' _ ?_; clear hK' K') | with_reducible refine execL_nil ?_ | (with_reducible refine hK _ ?_; clear hK K; try simp only [go_sem, List.length_map]) | with_reducible refine pw_seq_opsK kl48 G_ok (fun K hK => ?_) | with_reducible (first | refine pw_seq (x := .seq _ _) ?_ | refine thenA_normal ?_ | refine thenA_exit ?_ | refine thenA_ret ?_ | refine inBlockA_same ?_ | refine inBlockA_ret ?_ | refine inBlockA_normal ?_) | refine inBlockA_other (by decide) ?_ | with_reducible (first | refine pw_seq (pw_block ?_) | refine pw_seq (pw_skip (thenA_normal ?_)) | refine pw_skip ?_ | refine pw_exit ?_ | refine pw_ret ?_ | refine pw_ops G_ok (fun K hK => ?_)) | with_reducible refine pw_block ?_ | (with_reducible refine pK_mk (fun hc => ?_) (fun hc => ?_) <;> (try simp only [go_sem, List.length_map]) <;> (try simp at hc) <;> (try (exfalso; omega))) | ((first | refine pw_seq (pw_cond rfl (fun hc => ?_) (fun hc => ?_)) | refine pw_cond rfl (fun hc => ?_) (fun hc => ?_)) <;> (try simp at hc) <;> (try (exfalso; omega))) | with_reducible refine And.intro (by first | omega | (unfold inI; omega) | exact andI_inI _) ?_)
    refine retQ_ret rfl rfl (by simp [rowsOf, lk]) ?_; rw [← fit_end hJ]
theorem isStartOrder_ok (gs : List (List Int)) (o : List Int) (hn : gs.length ≤ 1048576) (ho : o.length ≤ 1048576) (hb : ∀ c ∈ gs, c.length ≤ 1048576) (hs : ∀ c ∈ gs, c.Pairwise (· ≤ ·)) (hd : o.Pairwise (· ≠ ·)) : FnEq Tryz.prog 40 [.d (.lst 1 (gs.map datG)), .d (.lst 1 (o.map datI))] [.d (.bool (bP (FitOk gs o)))] := by
  refine fn_ok G_ok Tryz.func40 rfl rfl ?_; simp only [Tryz.ntmps40, List.length_cons, List.length_nil, Nat.reduceAdd, Nat.reduceSub, enm]
  repeat' (first | (with_reducible refine execL_step (fun K' hK' => ?_); (first | with_reducible refine s_none rfl ?_ | refine s_some2 rfl ?_); simp only [go_sem]) | (with_reducible refine hK' _ ?_; clear hK' K') | with_reducible refine execL_nil ?_ | (with_reducible refine hK _ ?_; clear hK K; try simp only [go_sem]) | with_reducible refine pw_seq_opsK kl40 G_ok (fun K hK => ?_) | with_reducible (first | refine pw_seq (x := .seq _ _) ?_ | refine thenA_normal ?_ | refine thenA_exit ?_ | refine thenA_ret ?_ | refine inBlockA_same ?_ | refine inBlockA_ret ?_ | refine inBlockA_normal ?_) | refine inBlockA_other (by decide) ?_ | with_reducible (first | refine pw_seq (pw_block ?_) | refine pw_seq (pw_skip (thenA_normal ?_)) | refine pw_skip ?_ | refine pw_exit ?_ | refine pw_ret ?_ | refine pw_ops G_ok (fun K hK => ?_)) | with_reducible refine pw_block ?_ | (with_reducible refine pK_mk (fun hc => ?_) (fun hc => ?_) <;> (try simp only [go_sem]) <;> (try simp at hc) <;> (try (exfalso; omega))) | ((first | refine pw_seq (pw_cond rfl (fun hc => ?_) (fun hc => ?_)) | refine pw_cond rfl (fun hc => ?_) (fun hc => ?_)) <;> (try simp at hc) <;> (try (exfalso; omega))) | with_reducible refine And.intro (by first | omega | (unfold inI; omega) | exact andI_inI _) ?_)
  refine pw_loop_over [1, 4, 6, 9, 10, 11, 12, 13, 14, 15, 16, 17, 18, 19, 20, 21, 22, 23, 24, 25, 26, 27, 28, 29, 30, 31, 32] (fun k : Nat => [(9, .d (.int .i64 (k : Int))), (1, .d (.lst 1 ((o.drop (offG gs k)).map datI)))]) (fun k : Nat => []) 0 (fun k : Nat => k ≤ gs.length ∧ Upto (FitAt gs o) gs k) (fun k : Nat => gs.length - k) 0 ⟨Nat.zero_le _, Upto.zero _ _⟩ (fits_mk [] (by simp [renL_d, bdL_d, sg, over, wipe, wl, memN, ins, rm, lk, fitFr, fit1, ren, renL, bd, bdL, app, fitHp, hget, renB, bdB, offG_zero, List.drop_zero] <;> omega)) ?_
  rintro k ⟨hk, hJ⟩
  have hdl : (o.drop (offG gs k)).length ≤ 1048576 := by rw [List.length_drop]; omega
  have hdd : (o.drop (offG gs k)).Pairwise (· ≠ ·) := hd.sublist (List.drop_sublist _ _)
  simp only [over, wipe, wl, memN, ins, rm, if_true, if_false, Nat.reduceEqDiff, Bool.false_eq_true, reduceCtorEq]
  by_cases hlt : k < gs.length
  · have hx := List.getElem?_eq_getElem hlt
    generalize gs[k] = c at hx
    have hcl := hb c (List.mem_of_getElem? hx)
    have hcs := hs c (List.mem_of_getElem? hx)
    have hoS := offG_succ hx
    have hdr : List.drop c.length ((o.drop (offG gs k)).map datI) = (o.drop (offG gs (k + 1))).map datI := by rw [← List.map_drop, List.drop_drop, hoS]
    have hfa : FitAt gs o k c ↔ c.length ≤ (o.drop (offG gs k)).length ∧ ∀ n ∈ (o.drop (offG gs k)).take c.length, n ∈ c := Iff.rfl
    generalize o.drop (offG gs k) = r at hdl hdr hfa hdd
    have htx : List.take r.length (List.map datI r) = List.map datI r := List.take_of_length_le (by simp)
    by_cases hle : c.length ≤ r.length
    · have htk : List.take c.length (r.map datI) = (r.take c.length).map datI := by rw [List.map_take]
      have hsl : (r.take c.length).length = c.length := by rw [List.length_take]; omega
      have hss : (r.take c.length).Pairwise (· ≠ ·) := hdd.sublist (List.take_sublist _ _)
      generalize r.take c.length = s at hfa htk hsl hss
      have hse := sort_same hss hsl hcs
      by_cases hI : ∀ n ∈ s, n ∈ c
      · have hm := bP_true hI
        repeat' (first | (with_reducible refine execL_step (fun K' hK' => ?_); (first | with_reducible refine s_none rfl ?_ | refine s_some2 rfl ?_); simp only [go_sem, List.getElem?_map, hx, Option.map_some, datG, hle, hlt, htk, hsl, htx, hdr, List.length_map, List.drop_zero, hse, hm]) | (with_reducible refine hK' _ ?_; clear hK' K') | with_reducible refine execL_nil ?_ | (with_reducible refine hK _ ?_; clear hK K; try simp only [go_sem, List.getElem?_map, hx, Option.map_some, datG, hle, hlt, htk, hsl, htx, hdr, List.length_map, List.drop_zero, hse, hm]) | with_reducible refine pw_seq_opsK kl40 G_ok (fun K hK => ?_) | (with_reducible refine CallK.eq (sortedIntsD_ok s (by omega)) ?_ ?_; (focus (simp [RV.flat, D.sc, datI]; done)); try simp only [go_sem, List.getElem?_map, hx, Option.map_some, datG, hle, hlt, htk, hsl, htx, hdr, List.length_map, List.drop_zero, hse, hm]) | (with_reducible refine CallK.eq (equalD_ok (sortUp s) c (by rw [sortUp_len]; omega) (by omega)) ?_ ?_; (focus (simp [RV.flat, D.sc, datI]; done)); try simp only [go_sem, List.getElem?_map, hx, Option.map_some, datG, hle, hlt, htk, hsl, htx, hdr, List.length_map, List.drop_zero, hse, hm]) | with_reducible (first | refine pw_seq (x := .seq _ _) ?_ | refine thenA_normal ?_ | refine thenA_exit ?_ | refine thenA_ret ?_ | refine inBlockA_same ?_ | refine inBlockA_ret ?_ | refine inBlockA_normal ?_) | refine inBlockA_other (by decide) ?_ | with_reducible (first | refine pw_seq (pw_block ?_) | refine pw_seq (pw_skip (thenA_normal ?_)) | refine pw_skip ?_ | refine pw_exit ?_ | refine pw_ret ?_ | refine pw_ops G_ok (fun K hK => ?_)) | with_reducible refine pw_block ?_ | (with_reducible refine pK_mk (fun hc => ?_) (fun hc => ?_) <;> (try simp only [go_sem, List.getElem?_map, hx, Option.map_some, datG, hle, hlt, htk, hsl, htx, hdr, List.length_map, List.drop_zero, hse, hm]) <;> (try simp at hc) <;> (try (exfalso; omega))) | ((first | refine pw_seq (pw_cond rfl (fun hc => ?_) (fun hc => ?_)) | refine pw_cond rfl (fun hc => ?_) (fun hc => ?_)) <;> (try simp at hc) <;> (try (exfalso; omega))) | with_reducible refine And.intro (by first | omega | (unfold inI; omega) | exact andI_inI _) ?_)
        all_goals first
          | (exfalso; omega)
          | exact ⟨k + 1, ⟨by omega, hJ.succ hx (hfa.2 ⟨hle, hI⟩)⟩, by omega, (fits_mk [] (by simp [renL_d, bdL_d, sg, over, wipe, wl, memN, ins, rm, lk, fitFr, fit1, ren, renL, bd, bdL, app, fitHp, hget, renB, bdB, htx, hdr] <;> omega))⟩
      · have hm := bP_false hI
        repeat' (first | (with_reducible refine execL_step (fun K' hK' => ?_); (first | with_reducible refine s_none rfl ?_ | refine s_some2 rfl ?_); simp only [go_sem, List.getElem?_map, hx, Option.map_some, datG, hle, hlt, htk, hsl, htx, hdr, List.length_map, List.drop_zero, hse, hm]) | (with_reducible refine hK' _ ?_; clear hK' K') | with_reducible refine execL_nil ?_ | (with_reducible refine hK _ ?_; clear hK K; try simp only [go_sem, List.getElem?_map, hx, Option.map_some, datG, hle, hlt, htk, hsl, htx, hdr, List.length_map, List.drop_zero, hse, hm]) | with_reducible refine pw_seq_opsK kl40 G_ok (fun K hK => ?_) | (with_reducible refine CallK.eq (sortedIntsD_ok s (by omega)) ?_ ?_; (focus (simp [RV.flat, D.sc, datI]; done)); try simp only [go_sem, List.getElem?_map, hx, Option.map_some, datG, hle, hlt, htk, hsl, htx, hdr, List.length_map, List.drop_zero, hse, hm]) | (with_reducible refine CallK.eq (equalD_ok (sortUp s) c (by rw [sortUp_len]; omega) (by omega)) ?_ ?_; (focus (simp [RV.flat, D.sc, datI]; done)); try simp only [go_sem, List.getElem?_map, hx, Option.map_some, datG, hle, hlt, htk, hsl, htx, hdr, List.length_map, List.drop_zero, hse, hm]) | with_reducible (first | refine pw_seq (x := .seq _ _) ?_ | refine thenA_normal ?_ | refine thenA_exit ?_ | refine thenA_ret ?_ | refine inBlockA_same ?_ | refine inBlockA_ret ?_ | refine inBlockA_normal ?_) | refine inBlockA_other (by decide) ?_ | with_reducible (first | refine pw_seq (pw_block ?_) | refine pw_seq (pw_skip (thenA_normal ?_)) | refine pw_skip ?_ | refine pw_exit ?_ | refine pw_ret ?_ | refine pw_ops G_ok (fun K hK => ?_)) | with_reducible refine pw_block ?_ | (with_reducible refine pK_mk (fun hc => ?_) (fun hc => ?_) <;> (try simp only [go_sem, List.getElem?_map, hx, Option.map_some, datG, hle, hlt, htk, hsl, htx, hdr, List.length_map, List.drop_zero, hse, hm]) <;> (try simp at hc) <;> (try (exfalso; omega))) | ((first | refine pw_seq (pw_cond rfl (fun hc => ?_) (fun hc => ?_)) | refine pw_cond rfl (fun hc => ?_) (fun hc => ?_)) <;> (try simp at hc) <;> (try (exfalso; omega))) | with_reducible refine And.intro (by first | omega | (unfold inI; omega) | exact andI_inI _) ?_)
        all_goals first
          | (exfalso; omega)
          | (refine retQ_ret rfl rfl (by simp [rowsOf, lk]) ?_; rw [bP_false (FitOk.not_at hx fun h => hI (hfa.1 h).2)])
    · repeat' (first | (with_reducible refine execL_step (fun K' hK' => ?_); (first | with_reducible refine s_none rfl ?_ | refine s_some2 rfl ?_); simp only [go_sem, List.getElem?_map, hx, Option.map_some, datG, hle, hlt, List.length_map]) | (with_reducible refine hK' _ ?_; clear hK' K') | with_reducible refine execL_nil ?_ | (with_reducible refine hK _ ?_; clear hK K; try simp only [go_sem, List.getElem?_map, hx, Option.map_some, datG, hle, hlt, List.length_map]) | with_reducible refine pw_seq_opsK kl40 G_ok (fun K hK => ?_) | with_reducible (first | refine pw_seq (x := .seq _ _) ?_ | refine thenA_normal ?_ | refine thenA_exit ?_ | refine thenA_ret ?_ | refine inBlockA_same ?_ | refine inBlockA_ret ?_ | refine inBlockA_normal ?_) | refine inBlockA_other (by decide) ?_ | with_reducible (first | refine pw_seq (pw_block ?_) | refine pw_seq (pw_skip (thenA_normal ?_)) | refine pw_skip ?_ | refine pw_exit ?_ | refine pw_ret ?_ | refine pw_ops G_ok (fun K hK => ?_)) | with_reducible refine pw_block ?_ | (with_reducible refine pK_mk (fun hc => ?_) (fun hc => ?_) <;> (try simp only [go_sem, List.getElem?_map, hx, Option.map_some, datG, hle, hlt, List.length_map]) <;> (try simp at hc) <;> (try (exfalso; omega))) | ((first | refine pw_seq (pw_cond rfl (fun hc => ?_) (fun hc => ?_)) | refine pw_cond rfl (fun hc => ?_) (fun hc => ?_)) <;> (try simp at hc) <;> (try (exfalso; omega))) | with_reducible refine And.intro (by first | omega | (unfold inI; omega) | exact andI_inI _) ?_)
      all_goals first
        | (exfalso; omega)
        | (refine retQ_ret rfl rfl (by simp [rowsOf, lk]) ?_; rw [bP_false (FitOk.not_at hx fun h => hle (hfa.1 h).1)])
  · obtain rfl : k = gs.length := by omega
    repeat' (first | (with_reducible refine execL_step (fun K' hK' => ?_); (first | with_reducible refine s_none rfl ?_ | refine s_some2 rfl ?_); simp only [go_sem, List.length_map]) | (with_reducible refine hK' _ ?_; clear hK' K') | with_reducible refine execL_nil ?_ | (with_reducible refine hK _ ?_; clear hK K; try simp only [go_sem, List.length_map]) | with_reducible refine pw_seq_opsK kl40 G_ok (fun K hK => ?_) | with_reducible (first | refine pw_seq (x := .seq _ _) ?_ | refine thenA_normal ?_ | refine thenA_exit ?_ | refine thenA_ret ?_ | refine inBlockA_same ?_ | refine inBlockA_ret ?_ | refine inBlockA_normal ?_) | refine inBlockA_other (by decide) ?_ | with_reducible (first | refine pw_seq (pw_block ?_) | refine pw_seq (pw_skip (thenA_normal ?_)) | refine pw_skip ?_ | refine pw_exit ?_ | refine pw_ret ?_ | refine pw_ops G_ok (fun K hK => ?_)) | with_reducible refine pw_block ?_ | (with_reducible refine pK_mk (fun hc => ?_) (fun hc => ?_) <;> (try simp only [go_sem, List.length_map]) <;> (try simp at hc) <;> (try (exfalso; omega))) | ((first | refine pw_seq (pw_cond rfl (fun hc => ?_) (fun hc => ?_)) | refine pw_cond rfl (fun hc => ?_) (fun hc => ?_)) <;> (try simp at hc) <;> (try (exfalso; omega))) | with_reducible refine And.intro (by first | omega | (unfold inI; omega) | exact andI_inI _) ?_)
    refine retQ_ret rfl rfl (by simp [rowsOf, lk]) ?_; rw [← fit_end hJ]
end Go.Proofs.YtkncdoodlggbcaaGreat
