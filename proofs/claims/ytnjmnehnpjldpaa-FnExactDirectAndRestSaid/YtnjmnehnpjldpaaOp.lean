/-
  The order of results: the program's function (slices.SortFunc), in the abstract machine.
-/
import Derived.Test.YtnjmnehnpjldpaaSf
import Derived.Test.YtnjmnehnpjldpaaOo
import Derived.Test.YtnjmnehnpjldpaaInd
namespace Go.Proofs.Ytnjmnehnpjldpaa
open Go.RowKit Go.Sort

theorem sgn_bd2 (n : Int) : -1 ≤ sgn n ∧ sgn n ≤ 1 := by unfold sgn; split <;> (try split) <;> omega
theorem cmpS_bd (la lb : List Int) : ∀ n, -1 ≤ cmpS la lb n ∧ cmpS la lb n ≤ 1
  | 0 => by simp [cmpS]
  | n + 1 => by
    unfold cmpS
    split
    · exact cmpS_bd la lb n
    · exact sgn_bd2 _
theorem cmpR_bd (a b : ResultD) : -1 ≤ cmpR a b ∧ cmpR a b ≤ 1 := by
  unfold cmpR
  split
  · split
    · exact cmpS_bd _ _ _
    · exact sgn_bd2 _
  · exact sgn_bd2 _
/-- the closure's own comparison on places -/
def cfF (l : List ResultD) (x y : Fin l.length) : Int := cfR l (x.val : Int) (y.val : Int)
theorem ltF_eq (l : List ResultD) (x y : Fin l.length) : ltOf (cfF l) x y = ltR l (x.val : Int) (y.val : Int) := rfl
theorem inF (l : List ResultD) (x : Fin l.length) : inL l (x.val : Int) := ⟨by omega, by have := x.isLt; omega⟩
theorem ltF_swo {l : List ResultD} (hv : ResultsOk l) : SWO (ltOf (cfF l)) := by
  have hT := ltR_tot hv
  refine ⟨fun x => ?_, fun x y z h1 h2 => hT.trans (inF l x) (inF l y) (inF l z) h1 h2, fun x y z h1 h2 => ?_⟩
  · cases h : ltOf (cfF l) x x with
    | false => rfl
    | true => exact absurd ((hT.asymm (inF l x) (inF l x) h).symm.trans h) (by simp)
  · rw [ltF_eq] at h1 h2 ⊢
    cases h3 : ltR l (x.val : Int) (z.val : Int) with
    | false => rfl
    | true =>
      cases h4 : ltR l (y.val : Int) (x.val : Int) with
      | true => rw [hT.trans (inF l y) (inF l x) (inF l z) h4 h3] at h2; cases h2
      | false => rw [hT.total (inF l x) (inF l y) h1 h4, h2] at h3; cases h3
theorem ltF_one {l : List ResultD} (hv : ResultsOk l) (x y : Fin l.length) (h1 : ltOf (cfF l) x y = false) (h2 : ltOf (cfF l) y x = false) : x = y := by
  have := (ltR_tot hv).total (inF l x) (inF l y) h1 h2
  apply Fin.ext
  omega
theorem fin_lift {L : Nat} : ∀ {xs : List Int}, (∀ x ∈ xs, 0 ≤ x ∧ x < (L : Int)) → ∃ zs : List (Fin L), zs.map (fun i => (i.val : Int)) = xs
  | [], _ => ⟨[], rfl⟩
  | x :: xs, h => by
    obtain ⟨zs, hz⟩ := fin_lift (L := L) (xs := xs) fun y hy => h y (List.mem_cons_of_mem _ hy)
    have hx := h x (by simp)
    refine ⟨⟨x.toNat, by omega⟩ :: zs, ?_⟩
    rw [List.map_cons, hz]
    congr 1
    show ((x.toNat : Nat) : Int) = x
    omega
theorem ordZ_nodup {l : List ResultD} (hv : ResultsOk l) {m : Nat} (hm : m ≤ l.length) : (ordZ l m).Pairwise (· ≠ ·) := by
  have h := ordZ_sorted hv m hm
  refine List.Pairwise.imp_of_mem (fun {a b} ha hb hab e => ?_) h
  subst e
  exact absurd (((ltR_tot hv).asymm (ordZ_in hm a ha) (ordZ_in hm a hb) hab).symm.trans hab) (by simp)
theorem sortF_word {l : List ResultD} (hv : ResultsOk l) {zs : List (Fin l.length)} (hz : zs.map (fun i => (i.val : Int)) = ixN (fun _ => true) l.length) : (zs.mergeSort fun x y => !(ltOf (cfF l)) y x).map (fun i => (i.val : Int)) = ordZ l l.length := by
  have hS := ltF_swo hv
  have hperm := List.mergeSort_perm zs (fun x y => !(ltOf (cfF l)) y x)
  have hpz : ((zs.mergeSort fun x y => !(ltOf (cfF l)) y x).map (fun i => (i.val : Int))).Perm (ixN (fun _ => true) l.length) := by rw [← hz]; exact hperm.map _
  have hsort := List.pairwise_mergeSort (le := fun x y : Fin l.length => !(ltOf (cfF l)) y x) (fun x y z h1 h2 => by
    simp only [Bool.not_eq_true'] at h1 h2 ⊢
    exact hS.ntrans z y x h2 h1) (fun x y => by
    cases h : ltOf (cfF l) y x with
    | false => simp
    | true =>
      cases h2 : ltOf (cfF l) x y with
      | false => simp
      | true => exact absurd ((hS.trans x y x h2 h).symm.trans (hS.irrefl x)) (by simp)) zs
  have hnd : ((zs.mergeSort fun x y => !(ltOf (cfF l)) y x).map (fun i => (i.val : Int))).Pairwise (· ≠ ·) :=
    (hpz.trans (ordZ_perm l l.length).symm).symm.pairwise (ordZ_nodup hv (Nat.le_refl _)) (fun h => Ne.symm h)
  refine ordZ_one hv hpz ?_
  rw [List.pairwise_map] at hnd ⊢
  refine List.Pairwise.imp (fun {a b} h => ?_) (hsort.and hnd)
  obtain ⟨h1, h2⟩ := h
  simp only [Bool.not_eq_true'] at h1
  cases h3 : ltR l (a.val : Int) (b.val : Int) with
  | true => rfl
  | false => exact absurd ((ltR_tot hv).total (inF l a) (inF l b) h3 h1) h2
set_option linter.unusedSimpArgs false in set_option linter.unusedVariables false in set_option maxHeartbeats 2000000 in set_option maxRecDepth 100000 in
theorem orderOf2_ok (l : List ResultD) (hv : ResultsOk l) (i k : Nat) (hi : i < l.length) (hk : k < l.length) :
    FnEq Try.prog 107 [.d (.int .i64 (i : Int)), .d (.int .i64 (k : Int)), .eptr [.lst 2 (l.map ResultD.dat)]] [.d (.int .i64 (cfR l (i : Int) (k : Int)))] := by
  refine fn_ok G_ok Try.func107 rfl rfl ?_; simp only [Try.ntmps107, List.length_cons, List.length_nil, Nat.reduceAdd, Nat.reduceSub, enm]
  have h40 := hv.1
  have hx := List.getElem?_eq_getElem hi
  have hz := List.getElem?_eq_getElem hk
  generalize l[i] = x at hx
  generalize l[k] = z at hz
  have hvx := hv.at_ hx
  have hvz := hv.at_ hz
  have hva := hvx.1
  have hvb := hvz.1
  have hle : x.scores.length = z.scores.length := by omega
  have hbd := cmpR_bd x z
  have e : cfR l (i : Int) (k : Int) = if cmpR x z = 0 then x.skater - z.skater else - cmpR x z := by unfold cfR; rw [resAt_of hx, resAt_of hz]
  have hk1 := hva.2.1
  have hk2 := hva.2.2.1
  have hk3 := hvb.2.1
  have hk4 := hvb.2.2.1
  have hlx : i < (l.map ResultD.dat).length := by simpa using hi
  have hlz : k < (l.map ResultD.dat).length := by simpa using hk
  repeat' (first | (with_reducible refine execL_step (fun K' hK' => ?_); (first | with_reducible refine s_none rfl ?_ | refine s_some2 rfl ?_); simp only [go_sem, Nat.reduceEqDiff, Nat.reduceLT, Nat.reduceAdd, Nat.reduceSub, Nat.reduceMul, Nat.reduceLeDiff, List.getElem?_map, hx, hz, Option.map_some, ResultD.dat, hi, hk]) | (with_reducible refine hK' _ ?_; clear hK' K') | (with_reducible refine quietL_step (fun K' hK' => ?_); (first | with_reducible refine s_none rfl ?_ | refine s_some2 rfl ?_); simp only [go_sem, Nat.reduceEqDiff, Nat.reduceLT, Nat.reduceAdd, Nat.reduceSub, Nat.reduceMul, Nat.reduceLeDiff, List.getElem?_map, hx, hz, Option.map_some, ResultD.dat, hi, hk]) | with_reducible refine quietL_nil ?_ | with_reducible refine execL_nil ?_ | (with_reducible refine hK _ ?_; clear hK K; try simp only [go_sem, Nat.reduceEqDiff, Nat.reduceLT, Nat.reduceAdd, Nat.reduceSub, Nat.reduceMul, Nat.reduceLeDiff, List.getElem?_map, hx, hz, Option.map_some, ResultD.dat, hi, hk]) | with_reducible refine pw_seq_opsK kl107 G_ok (fun K hK => ?_) | (with_reducible refine CallK.eq (compareResults_ok x z hva hvb hle) ?_ ?_; (focus (simp [RV.flat, D.sc, datI]; done)); try simp only [go_sem, Nat.reduceEqDiff, Nat.reduceLT, Nat.reduceAdd, Nat.reduceSub, Nat.reduceMul, Nat.reduceLeDiff, List.getElem?_map, hx, hz, Option.map_some, ResultD.dat, hi, hk]) | ((first | with_reducible refine CallQ.eq (compareResults_ok x z hva hvb hle) ?_ ?_ | with_reducible refine CallQ.eq2 (compareResults_ok x z hva hvb hle) ?_ ?_ | with_reducible refine CallQ.eq3 (compareResults_ok x z hva hvb hle) ?_ ?_ | with_reducible refine CallQ.eq4 (compareResults_ok x z hva hvb hle) ?_ ?_); (focus (simp [D.sc]; done)); try simp only [go_sem, Nat.reduceEqDiff, Nat.reduceLT, Nat.reduceAdd, Nat.reduceSub, Nat.reduceMul, Nat.reduceLeDiff, List.getElem?_map, hx, hz, Option.map_some, ResultD.dat, hi, hk]) | with_reducible refine pw_seq (x := .seq _ _) ?_ | with_reducible refine thenA_normal ?_ | with_reducible refine thenA_exit ?_ | with_reducible refine thenA_ret ?_ | with_reducible refine inBlockA_same ?_ | with_reducible refine inBlockA_ret ?_ | with_reducible refine inBlockA_normal ?_ | refine inBlockA_other (by decide) ?_ | with_reducible refine pw_seq (pw_block ?_) | with_reducible refine pw_seq (pw_skip (thenA_normal ?_)) | with_reducible refine pw_skip ?_ | with_reducible refine pw_exit ?_ | with_reducible refine pw_ret ?_ | with_reducible refine pw_ops G_ok (fun K hK => ?_) | (with_reducible refine pw_seq_drawK kl107 G_ok mixed (by kernel_rfl) (fun K hK => ?_)) | (with_reducible refine pw_draw G_ok mixed (by kernel_rfl) ?_) | with_reducible refine pw_block ?_ | (with_reducible refine pK_mk (fun hc => ?_) (fun hc => ?_) <;> (try simp only [go_sem, Nat.reduceEqDiff, Nat.reduceLT, Nat.reduceAdd, Nat.reduceSub, Nat.reduceMul, Nat.reduceLeDiff, List.getElem?_map, hx, hz, Option.map_some, ResultD.dat, hi, hk]) <;> (try simp at hc) <;> (try (exfalso; omega))) | (refine pw_seq (pw_cond rfl (fun hc => ?_) (fun hc => ?_)) <;> (try simp at hc) <;> (try (exfalso; omega))) | (refine pw_cond rfl (fun hc => ?_) (fun hc => ?_) <;> (try simp at hc) <;> (try (exfalso; omega))) | with_reducible refine And.intro (by first | omega | (unfold inI; omega)) ?_)
  all_goals first
    | (refine retQ_ret rfl rfl (by simp [rowsOf, lk]) ?_; rw [e, if_pos (by assumption)])
    | (refine retQ_ret rfl rfl (by simp [rowsOf, lk]) ?_; rw [e, if_neg (by assumption), Int.zero_sub])
set_option linter.unusedSimpArgs false in set_option linter.unusedVariables false in set_option maxHeartbeats 2000000 in set_option maxRecDepth 100000 in
theorem orderOf1_ok (i : Nat) : FnEq Try.prog 105 [.d (.int .i64 (i : Int))] [.d (.bool true)] := by
  refine fn_ok G_ok Try.func105 rfl rfl ?_; simp only [Try.ntmps105, List.length_cons, List.length_nil, Nat.reduceAdd, Nat.reduceSub, enm]
  repeat' (first | (with_reducible refine execL_step (fun K' hK' => ?_); (first | with_reducible refine s_none rfl ?_ | refine s_some2 rfl ?_); simp only [go_sem, Nat.reduceEqDiff, Nat.reduceLT, Nat.reduceAdd, Nat.reduceSub, Nat.reduceMul, Nat.reduceLeDiff]) | (with_reducible refine hK' _ ?_; clear hK' K') | with_reducible refine execL_nil ?_ | (with_reducible refine hK _ ?_; clear hK K; try simp only [go_sem, Nat.reduceEqDiff, Nat.reduceLT, Nat.reduceAdd, Nat.reduceSub, Nat.reduceMul, Nat.reduceLeDiff]) | with_reducible refine pw_seq_opsK kl105 G_ok (fun K hK => ?_) | with_reducible refine pw_seq (x := .seq _ _) ?_ | with_reducible refine thenA_normal ?_ | with_reducible refine thenA_exit ?_ | with_reducible refine thenA_ret ?_ | with_reducible refine inBlockA_same ?_ | with_reducible refine inBlockA_ret ?_ | with_reducible refine inBlockA_normal ?_ | refine inBlockA_other (by decide) ?_ | with_reducible refine pw_seq (pw_block ?_) | with_reducible refine pw_seq (pw_skip (thenA_normal ?_)) | with_reducible refine pw_skip ?_ | with_reducible refine pw_exit ?_ | with_reducible refine pw_ret ?_ | with_reducible refine pw_ops G_ok (fun K hK => ?_) | with_reducible refine pw_block ?_ | (with_reducible refine pK_mk (fun hc => ?_) (fun hc => ?_) <;> (try simp only [go_sem, Nat.reduceEqDiff, Nat.reduceLT, Nat.reduceAdd, Nat.reduceSub, Nat.reduceMul, Nat.reduceLeDiff]) <;> (try simp at hc) <;> (try (exfalso; omega))) | (refine pw_seq (pw_cond rfl (fun hc => ?_) (fun hc => ?_)) <;> (try simp at hc) <;> (try (exfalso; omega))) | (refine pw_cond rfl (fun hc => ?_) (fun hc => ?_) <;> (try simp at hc) <;> (try (exfalso; omega))) | with_reducible refine And.intro (by first | omega | (unfold inI; omega)) ?_)
  refine retQ_ret rfl rfl (by simp [rowsOf, lk]) ?_; rfl
theorem sortR_calls (l : List ResultD) (hv : ResultsOk l) (w : World) (g c : Nat) (cb : Value) (how : OwnS encI 1 3 w g (.slice (some ⟨g, 0, none⟩) l.length c) (ixN (fun _ => true) l.length)) (hcb : R (fun _ => none) (fun k => k = g) w (.eptr [.lst 2 (l.map ResultD.dat)]) cb) :
    Calls Try.prog 106 #[.slice (some ⟨g, 0, none⟩) l.length c, .func (.func 107) #[] #[cb]] w fun e w' => e = .returned (.tuple #[]) ∧ OwnS encI 1 3 w' g (.slice (some ⟨g, 0, none⟩) l.length c) (ordZ l l.length) ∧ w.grownBy w' (some g) ∧ w.drawn ≤ w'.drawn := by
  by_cases h0 : 0 < l.length
  · obtain ⟨zs, hz⟩ := fin_lift (L := l.length) (xs := ixN (fun _ => true) l.length) fun x hx => mem_ixN.1 hx
    have hzl : zs.length = l.length := by have := congrArg List.length hz; rwa [List.length_map, ixN_all_len] at this
    have key := sortf_calls h0 (cfF l) (ltF_swo hv) (ltF_one hv) 107 (.lst 2 (l.map ResultD.dat)) (fun x y => orderOf2_ok l hv x.val y.val x.isLt y.isLt) zs (by have := hv.1; omega) w g c cb (by rw [hz, hzl]; exact how) hcb
    rw [hzl, sortF_word hv hz] at key
    exact key
  · have e : l = [] := List.eq_nil_of_length_eq_zero (by omega)
    subst e
    refine (sortf_none _ _ _ w).mono fun e w' ⟨he, hw⟩ => ?_
    subst hw
    exact ⟨he, how, ⟨rfl, rfl, rfl, Nat.le_refl _, fun _ _ _ => rfl⟩, Nat.le_refl _⟩
set_option linter.unusedSimpArgs false in set_option linter.unusedVariables false in set_option maxHeartbeats 2000000 in set_option maxRecDepth 100000 in
theorem orderOf_ok (l : List ResultD) (hv : ResultsOk l) : FnEq Try.prog 88 [.d (.lst 2 (l.map ResultD.dat))] [.row 3 1 ((ordZ l l.length).map datI)] := by
  refine fn_ok G_ok Try.func88 rfl rfl ?_; simp only [Try.ntmps88, List.length_cons, List.length_nil, Nat.reduceAdd, Nat.reduceSub, enm]
  have h40 := hv.1
  have hil := ixN_all_len l.length
  have hol := ordZ_len l l.length
  repeat' (first | (with_reducible refine execL_step (fun K' hK' => ?_); (first | with_reducible refine s_none rfl ?_ | refine s_some2 rfl ?_); simp only [go_sem, Nat.reduceEqDiff, Nat.reduceLT, Nat.reduceAdd, Nat.reduceSub, Nat.reduceMul, Nat.reduceLeDiff, hil]) | (with_reducible refine hK' _ ?_; clear hK' K') | with_reducible refine execL_nil ?_ | (with_reducible refine hK _ ?_; clear hK K; try simp only [go_sem, Nat.reduceEqDiff, Nat.reduceLT, Nat.reduceAdd, Nat.reduceSub, Nat.reduceMul, Nat.reduceLeDiff, hil]) | with_reducible refine pw_seq_opsK kl88 G_ok (fun K hK => ?_) | (with_reducible refine CallK.eq (indicesOf_ok l.length _ _ (fun _ => true) (by omega) noCap (fun i _ => orderOf1_ok i)) ?_ ?_; (focus (simp [RV.flat, D.sc, datI]; done)); try simp only [go_sem, Nat.reduceEqDiff, Nat.reduceLT, Nat.reduceAdd, Nat.reduceSub, Nat.reduceMul, Nat.reduceLeDiff, hil]) | with_reducible refine pw_seq (x := .seq _ _) ?_ | with_reducible refine thenA_normal ?_ | with_reducible refine thenA_exit ?_ | with_reducible refine thenA_ret ?_ | with_reducible refine inBlockA_same ?_ | with_reducible refine inBlockA_ret ?_ | with_reducible refine inBlockA_normal ?_ | refine inBlockA_other (by decide) ?_ | with_reducible refine pw_seq (pw_block ?_) | with_reducible refine pw_seq (pw_skip (thenA_normal ?_)) | with_reducible refine pw_skip ?_ | with_reducible refine pw_exit ?_ | with_reducible refine pw_ret ?_ | with_reducible refine pw_ops G_ok (fun K hK => ?_) | with_reducible refine pw_block ?_ | (with_reducible refine pK_mk (fun hc => ?_) (fun hc => ?_) <;> (try simp only [go_sem, Nat.reduceEqDiff, Nat.reduceLT, Nat.reduceAdd, Nat.reduceSub, Nat.reduceMul, Nat.reduceLeDiff, hil]) <;> (try simp at hc) <;> (try (exfalso; omega))) | (refine pw_seq (pw_cond rfl (fun hc => ?_) (fun hc => ?_)) <;> (try simp at hc) <;> (try (exfalso; omega))) | (refine pw_cond rfl (fun hc => ?_) (fun hc => ?_) <;> (try simp at hc) <;> (try (exfalso; omega))) | with_reducible refine And.intro (by first | omega | (unfold inI; omega)) ?_)
  refine CallK.po (po_rewriteF rfl rfl rfl rfl rfl rfl hil.symm ⟨_, Try.func106, rfl, rfl⟩ (hol.trans hil.symm) (fun w g c cb h1 h2 => sortR_calls l hv w g c cb h1 h2) (fun w fv => sortf_none _ _ _ w) ?_)
  repeat' (first | (with_reducible refine execL_step (fun K' hK' => ?_); (first | with_reducible refine s_none rfl ?_ | refine s_some2 rfl ?_); simp only [go_sem, Nat.reduceEqDiff, Nat.reduceLT, Nat.reduceAdd, Nat.reduceSub, Nat.reduceMul, Nat.reduceLeDiff, hol]) | (with_reducible refine hK' _ ?_; clear hK' K') | with_reducible refine execL_nil ?_ | (with_reducible refine hK _ ?_; clear hK K; try simp only [go_sem, Nat.reduceEqDiff, Nat.reduceLT, Nat.reduceAdd, Nat.reduceSub, Nat.reduceMul, Nat.reduceLeDiff, hol]) | with_reducible refine pw_seq_opsK kl88 G_ok (fun K hK => ?_) | with_reducible refine pw_seq (x := .seq _ _) ?_ | with_reducible refine thenA_normal ?_ | with_reducible refine thenA_exit ?_ | with_reducible refine thenA_ret ?_ | with_reducible refine inBlockA_same ?_ | with_reducible refine inBlockA_ret ?_ | with_reducible refine inBlockA_normal ?_ | refine inBlockA_other (by decide) ?_ | with_reducible refine pw_seq (pw_block ?_) | with_reducible refine pw_seq (pw_skip (thenA_normal ?_)) | with_reducible refine pw_skip ?_ | with_reducible refine pw_exit ?_ | with_reducible refine pw_ret ?_ | with_reducible refine pw_ops G_ok (fun K hK => ?_) | with_reducible refine pw_block ?_ | (with_reducible refine pK_mk (fun hc => ?_) (fun hc => ?_) <;> (try simp only [go_sem, Nat.reduceEqDiff, Nat.reduceLT, Nat.reduceAdd, Nat.reduceSub, Nat.reduceMul, Nat.reduceLeDiff, hol]) <;> (try simp at hc) <;> (try (exfalso; omega))) | (refine pw_seq (pw_cond rfl (fun hc => ?_) (fun hc => ?_)) <;> (try simp at hc) <;> (try (exfalso; omega))) | (refine pw_cond rfl (fun hc => ?_) (fun hc => ?_) <;> (try simp at hc) <;> (try (exfalso; omega))) | with_reducible refine And.intro (by first | omega | (unfold inI; omega)) ?_)
  refine retQ_ret rfl (by simp only [hol, retL, ret1, hget, lk, List.length_map, List.length_nil, List.length_append, List.length_take, if_true, if_false, Nat.reduceEqDiff, Nat.reduceBEq, Bool.false_eq_true, Option.some.injEq]; rfl) (by simp [rowsOf, lk]) ?_; rfl
end Go.Proofs.Ytnjmnehnpjldpaa
