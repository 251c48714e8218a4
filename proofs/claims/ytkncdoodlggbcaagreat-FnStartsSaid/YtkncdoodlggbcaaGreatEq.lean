/-
  Groups of entrants by rank: the reference's soGroups, in the abstract machine.
-/
import Derived.Test.YtkncdoodlggbcaaGreatEr
import Derived.Test.YtkncdoodlggbcaaGreatEs
import Derived.Test.YtkncdoodlggbcaaGreatIi
set_option linter.unusedSimpArgs false
set_option linter.unusedVariables false
set_option maxHeartbeats 2000000
set_option maxRecDepth 100000
namespace Go.Proofs.YtkncdoodlggbcaaGreat
open Go.RowKit

/-- what is left of the entrants in order -/
def vwE (id n off k : Nat) : PV := if k = 0 then .row id n else .view id 2 off (n - off)
theorem vwE_zero (id n off : Nat) : vwE id n off 0 = .row id n := rfl
theorem vwE_z {id n off k : Nat} (h : k = 0) : vwE id n off k = .row id n := by unfold vwE; rw [if_pos h]
theorem vwE_succ (id n off k : Nat) : vwE id n off (k + 1) = .view id 2 off (n - off) := by unfold vwE; rw [if_neg (by omega)]
theorem vwE_pos {id n off k : Nat} (h : 0 < k) : vwE id n off k = .view id 2 off (n - off) := by unfold vwE; rw [if_neg (by omega)]
theorem ordE_ne {l : List EntrantD} (hv : EntsOk l) : ((ordE l).map EntrantD.skater).Pairwise (· ≠ ·) := by
  have h1 := ordE_aux hv l.length (Nat.le_refl _)
  rw [List.take_length] at h1
  have h2 : (l.map EntrantD.skater).Pairwise (· ≠ ·) := by
    rw [List.pairwise_iff_getElem]
    intro i j hi hj hij
    rw [List.length_map] at hi hj
    simp only [List.getElem_map]
    exact (hv.apart (List.getElem?_eq_getElem hi) (List.getElem?_eq_getElem hj) (by omega)).1
  exact (h1.1.map EntrantD.skater).symm.pairwise h2 (fun h => Ne.symm h)
theorem soGroups_ok (l : List EntrantD) (s : Nat) (h0 : 0 < l.length) (hv : EntsOk l) (hs : 1 ≤ s) (hs8 : s ≤ 8) (hm : many l s ≤ 8) : FnEq Tryz.prog 32 [.d (.lst 2 (l.map EntrantD.dat)), .d (.int .i64 (s : Int))] [.deep 24 1 ((grpE l (many l s)).map datG), .d (.bool true)] := by
  refine fn_ok G_ok Tryz.func32 rfl rfl ?_; simp only [Tryz.ntmps32, List.length_cons, List.length_nil, Nat.reduceAdd, Nat.reduceSub, enm]
  have h40 := hv.1
  have hs0 : ¬ (s : Int) = 0 := by omega
  have hq : ((l.length : Int) + (s : Int) - 1).tdiv (s : Int) = (many l s : Int) := by
    rw [show (l.length : Int) + (s : Int) - 1 = ((l.length + s - 1 : Nat) : Int) by omega]
    rfl
  have hg0 : 0 < many l s := Nat.div_pos (by omega) (by omega)
  have hal := offZ_all (n := l.length) hg0
  have hol := ordE_len hv (Nat.le_refl l.length)
  rw [List.take_length] at hol
  have hne := ordE_ne hv
  have hsz := szsZ_len l.length (many l s) (many l s)
  have hnn := szsZ_nn (n := l.length) (g := many l s) (k := many l s)
  have hev := dwSizes_ok l.length (many l s) (by omega) hg0 (by omega)
  have hso := soSorted_ok l hv
  have hgr : (cutZ (szsZ l.length (many l s) (many l s)) ((ordE l).map EntrantD.skater) (many l s)).map sortUp = grpE l (many l s) := rfl
  generalize ordE l = o at hol hne hso hgr
  generalize szsZ l.length (many l s) (many l s) = ss at hal hsz hnn hev hgr
  generalize many l s = g at *
  have hgl : (g : Int) ≤ 8 := by omega
  have hg0' : ¬ (g : Int) = 0 := by omega
  repeat' (first | (with_reducible refine execL_step (fun K' hK' => ?_); (first | with_reducible refine s_none rfl ?_ | refine s_some2 rfl ?_); simp only [go_sem, hq, hs0, hg0', hol, hsz, List.length_map]) | (with_reducible refine hK' _ ?_; clear hK' K') | with_reducible refine execL_nil ?_ | (with_reducible refine hK _ ?_; clear hK K; try simp only [go_sem, hq, hs0, hg0', hol, hsz, List.length_map]) | with_reducible refine pw_seq_opsK kl32 G_ok (fun K hK => ?_) | (with_reducible refine CallK.eq (hso) ?_ ?_; (focus (simp [RV.flat, D.sc, datI]; done)); try simp only [go_sem, hq, hs0, hg0', hol, hsz, List.length_map]) | (with_reducible refine CallK.eq (hev) ?_ ?_; (focus (simp [RV.flat, D.sc, datI]; done)); try simp only [go_sem, hq, hs0, hg0', hol, hsz, List.length_map]) | with_reducible (first | refine pw_seq (x := .seq _ _) ?_ | refine thenA_normal ?_ | refine thenA_exit ?_ | refine thenA_ret ?_ | refine inBlockA_same ?_ | refine inBlockA_ret ?_ | refine inBlockA_normal ?_) | refine inBlockA_other (by decide) ?_ | with_reducible (first | refine pw_seq (pw_block ?_) | refine pw_seq (pw_skip (thenA_normal ?_)) | refine pw_skip ?_ | refine pw_exit ?_ | refine pw_ret ?_ | refine pw_ops G_ok (fun K hK => ?_)) | with_reducible refine pw_block ?_ | (with_reducible refine pK_mk (fun hc => ?_) (fun hc => ?_) <;> (try simp only [go_sem, hq, hs0, hg0', hol, hsz, List.length_map]) <;> (try simp at hc) <;> (try (exfalso; omega))) | ((first | refine pw_seq (pw_cond rfl (fun hc => ?_) (fun hc => ?_)) | refine pw_cond rfl (fun hc => ?_) (fun hc => ?_)) <;> (try simp at hc) <;> (try (exfalso; omega))) | with_reducible refine And.intro (by first | omega | (unfold inI; omega) | exact andI_inI _) ?_)
  all_goals first
    | (exfalso; omega)
    | skip
  refine pw_loop_over [4, 5, 7, 8, 10, 11, 13, 32, 33, 34, 35, 36, 37, 38, 39, 40, 41, 42, 43, 44, 45, 46, 47, 48, 49, 50, 51, 52, 53, 54, 55, 56] (fun k : Nat => [(32, .d (.int .i64 (k : Int))), (8, .row 2 k), (7, vwE 1 l.length (offZ ss k) k), (30, .row 3 g)]) (fun k : Nat => [(3, .row 3 1 (ss.map datI)), (2, ownG ((cutZ ss (o.map EntrantD.skater) k).map sortUp) k), (1, .row 60 2 (o.map EntrantD.dat))]) 4 (fun k : Nat => k ≤ g) (fun k : Nat => g - k) 0 (Nat.zero_le _) (fits_mk [] (by simp [renL_d, bdL_d, sg, over, wipe, wl, memN, ins, rm, lk, fitFr, fit1, ren, renL, bd, bdL, app, fitHp, hget, renB, bdB, ownG_zero, vwE_zero] <;> omega)) ?_
  intro k hk
  have hcl := cutZ_len ss (o.map EntrantD.skater) k
  have hof := offZ_le ss k
  have hof1 := offZ_le ss (k + 1)
  rw [hsz, hal] at hof hof1
  simp only [over, wipe, wl, memN, ins, rm, if_true, if_false, Nat.reduceEqDiff, Bool.false_eq_true, reduceCtorEq]
  by_cases hlt : k < g
  · have hzx : ∃ z, ss[k]? = some z := ⟨_, List.getElem?_eq_getElem (by omega)⟩
    obtain ⟨z, hz⟩ := hzx
    have hz0 := hnn z (List.mem_of_getElem? hz)
    obtain ⟨zn, rfl⟩ : ∃ zn : Nat, z = (zn : Int) := ⟨z.toNat, by omega⟩
    have hoS := offZ_succ hz
    simp only [Int.toNat_natCast] at hoS
    have hcs := cutZ_succ (xs := o.map EntrantD.skater) hz
    simp only [Int.toNat_natCast] at hcs
    have hcs2 : (cutZ ss (o.map EntrantD.skater) (k + 1)).map sortUp = (cutZ ss (o.map EntrantD.skater) k).map sortUp ++ [sortUp (((o.map EntrantD.skater).drop (offZ ss k)).take zn)] := by rw [hcs, List.map_append]; rfl
    have hdne : ((o.map EntrantD.skater).drop (offZ ss k)).Pairwise (· ≠ ·) := hne.sublist (List.drop_sublist _ _)
    have hskl : ((o.map EntrantD.skater).drop (offZ ss k)).length = l.length - offZ ss k := by rw [List.length_drop, List.length_map, hol]
    have hgt : ∀ j, j < zn → ∃ x, o[offZ ss k + j]? = some x ∧ ((o.map EntrantD.skater).drop (offZ ss k))[j]? = some x.skater := fun j hj => by
      have h1 := List.getElem?_eq_getElem (show offZ ss k + j < o.length by omega)
      exact ⟨_, h1, by rw [List.getElem?_drop, List.getElem?_map, h1]; rfl⟩
    have hpl : ((cutZ ss (o.map EntrantD.skater) k).map sortUp).length = k := by simp [hcl]
    generalize hsd : (o.map EntrantD.skater).drop (offZ ss k) = sd at hcs2 hdne hskl hgt
    have hins : insAll (sd.take zn) = sortUp (sd.take zn) := (sortUp_ins (hdne.sublist (List.take_sublist _ _))).symm
    have hsul : (sortUp (sd.take zn)).length ≤ 40 := by rw [sortUp_len, List.length_take]; omega
    have hdt : datG (sortUp (sd.take zn)) = [.lst 1 ((sortUp (sd.take zn)).map datI)] := rfl
    generalize hpre : (cutZ ss (o.map EntrantD.skater) k).map sortUp = pre at hcs2 hpl
    by_cases hk0 : k = 0
    · have ho0 : offZ ss k = 0 := by rw [hk0]; rfl
      have hp0 : pre = [] := List.eq_nil_of_length_eq_zero (by omega)
      rw [ownG_z hk0, vwE_z hk0]
      rw [ho0] at hoS hgt hskl
      rw [hp0, List.nil_append] at hcs2
      simp only [Nat.zero_add, Nat.sub_zero] at hoS hgt hskl
      have hv1 : zn = offZ ss (k + 1) := hoS.symm
      have hv2 : l.length - zn = l.length - offZ ss (k + 1) := by omega
      have hzl : zn ≤ l.length := by omega
      have hzl2 : (zn : Int) ≤ ((l.length : Nat) : Int) := by omega
      repeat' (first | (with_reducible refine execL_step (fun K' hK' => ?_); (first | with_reducible refine s_none rfl ?_ | refine s_some2 rfl ?_); simp only [go_sem, hsz, hlt, List.getElem?_map, hz, Option.map_some, datI, Int.toNat_natCast, Int.toNat_zero, Nat.sub_zero, Nat.add_zero, hzl2]) | (with_reducible refine hK' _ ?_; clear hK' K') | with_reducible refine execL_nil ?_ | (with_reducible refine hK _ ?_; clear hK K; try simp only [go_sem, hsz, hlt, List.getElem?_map, hz, Option.map_some, datI, Int.toNat_natCast, Int.toNat_zero, Nat.sub_zero, Nat.add_zero, hzl2]) | with_reducible refine pw_seq_opsK kl32 G_ok (fun K hK => ?_) | with_reducible (first | refine pw_seq (x := .seq _ _) ?_ | refine thenA_normal ?_ | refine thenA_exit ?_ | refine thenA_ret ?_ | refine inBlockA_same ?_ | refine inBlockA_ret ?_ | refine inBlockA_normal ?_) | refine inBlockA_other (by decide) ?_ | with_reducible (first | refine pw_seq (pw_block ?_) | refine pw_seq (pw_skip (thenA_normal ?_)) | refine pw_skip ?_ | refine pw_exit ?_ | refine pw_ret ?_ | refine pw_ops G_ok (fun K hK => ?_)) | with_reducible refine pw_block ?_ | (with_reducible refine pK_mk (fun hc => ?_) (fun hc => ?_) <;> (try simp only [go_sem, hsz, hlt, List.getElem?_map, hz, Option.map_some, datI, Int.toNat_natCast, Int.toNat_zero, Nat.sub_zero, Nat.add_zero, hzl2]) <;> (try simp at hc) <;> (try (exfalso; omega))) | ((first | refine pw_seq (pw_cond rfl (fun hc => ?_) (fun hc => ?_)) | refine pw_cond rfl (fun hc => ?_) (fun hc => ?_)) <;> (try simp at hc) <;> (try (exfalso; omega))) | with_reducible refine And.intro (by first | omega | (unfold inI; omega) | exact andI_inI _) ?_)
      refine pw_loop_over [4, 5, 11, 13, 40, 41, 42, 43, 44, 45, 46, 47, 48] (fun j : Nat => [(40, .d (.int .i64 (j : Int))), (11, .row 4 (insAll (sd.take j)).length), (38, .view 1 2 0 zn)]) (fun j => [(4, .row 3 1 ((insAll (sd.take j)).map datI)), (3, .row 3 1 (ss.map datI)), (2, .row 24 1 []), (1, .row 60 2 (o.map EntrantD.dat))]) 5 (fun j => j ≤ zn) (fun j => zn - j) 0 (by omega) (fits_mk [] (by simp [renL_d, bdL_d, sg, over, wipe, wl, memN, ins, rm, lk, fitFr, fit1, ren, renL, bd, bdL, app, fitHp, hget, renB, bdB, insAll, List.take_zero, List.foldl_nil] <;> omega)) ?_
      intro j hj
      have hw1 : (sd.take j).Pairwise (· ≠ ·) := hdne.sublist (List.take_sublist _ _)
      have hw2 := insAll_sorted hw1
      have hw3 := insAll_perm hw1
      have hw4 : (sd.take j).length ≤ 40 := by rw [List.length_take]; omega
      have hw5 := hw3.length_eq
      simp only [over, wipe, wl, memN, ins, rm, if_true, if_false, Nat.reduceEqDiff, Bool.false_eq_true, reduceCtorEq]
      by_cases hlj : j < zn
      · obtain ⟨x, hx, hsx⟩ := hgt j hlj
        have e0 := take_snoc hsx
        have e1 : insAll (sd.take (j + 1)) = insO ltI x.skater (insAll (sd.take j)) := by rw [e0, insAll_snoc]
        have hw6 : (sd.take (j + 1)).Pairwise (· ≠ ·) := hdne.sublist (List.take_sublist _ _)
        rw [e0] at hw6
        have hni : x.skater ∉ insAll (sd.take j) := fun hm => (List.pairwise_append.1 hw6).2.2 _ (hw3.mem_iff.1 hm) _ (by simp) rfl
        generalize insAll (sd.take j) = acc at hw2 hw3 hw5 hni e1
        repeat' (first | (with_reducible refine execL_step (fun K' hK' => ?_); (first | with_reducible refine s_none rfl ?_ | refine s_some2 rfl ?_); simp only [go_sem, hlj, Nat.zero_add, List.length_map, List.getElem?_map, hx, Option.map_some, datI, EntrantD.dat]) | (with_reducible refine hK' _ ?_; clear hK' K') | with_reducible refine execL_nil ?_ | (with_reducible refine hK _ ?_; clear hK K; try simp only [go_sem, hlj, Nat.zero_add, List.length_map, List.getElem?_map, hx, Option.map_some, datI, EntrantD.dat]) | with_reducible refine pw_seq_opsK kl32 G_ok (fun K hK => ?_) | (with_reducible refine CallK.eq (l1Put_ok acc x.skater (by omega) hw2 hni) ?_ ?_; (focus (simp [RV.flat, D.sc, datI]; done)); try simp only [go_sem, hlj, Nat.zero_add, List.length_map, List.getElem?_map, hx, Option.map_some, datI, EntrantD.dat]) | with_reducible (first | refine pw_seq (x := .seq _ _) ?_ | refine thenA_normal ?_ | refine thenA_exit ?_ | refine thenA_ret ?_ | refine inBlockA_same ?_ | refine inBlockA_ret ?_ | refine inBlockA_normal ?_) | refine inBlockA_other (by decide) ?_ | with_reducible (first | refine pw_seq (pw_block ?_) | refine pw_seq (pw_skip (thenA_normal ?_)) | refine pw_skip ?_ | refine pw_exit ?_ | refine pw_ret ?_ | refine pw_ops G_ok (fun K hK => ?_)) | with_reducible refine pw_block ?_ | (with_reducible refine pK_mk (fun hc => ?_) (fun hc => ?_) <;> (try simp only [go_sem, hlj, Nat.zero_add, List.length_map, List.getElem?_map, hx, Option.map_some, datI, EntrantD.dat]) <;> (try simp at hc) <;> (try (exfalso; omega))) | ((first | refine pw_seq (pw_cond rfl (fun hc => ?_) (fun hc => ?_)) | refine pw_cond rfl (fun hc => ?_) (fun hc => ?_)) <;> (try simp at hc) <;> (try (exfalso; omega))) | with_reducible refine And.intro (by first | omega | (unfold inI; omega) | exact andI_inI _) ?_)
        all_goals first
          | (exfalso; omega)
          | exact ⟨j + 1, by omega, by omega, (fits_mk [] (by simp [renL_d, bdL_d, sg, over, wipe, wl, memN, ins, rm, lk, fitFr, fit1, ren, renL, bd, bdL, app, fitHp, hget, renB, bdB, e1, List.length_map] <;> omega))⟩
      · obtain rfl : j = zn := by omega
        rw [hins] at hw5 ⊢
        repeat' (first | (with_reducible refine execL_step (fun K' hK' => ?_); (first | with_reducible refine s_none rfl ?_ | refine s_some2 rfl ?_); simp only [go_sem, Int.toNat_natCast]) | (with_reducible refine hK' _ ?_; clear hK' K') | with_reducible refine execL_nil ?_ | (with_reducible refine hK _ ?_; clear hK K; try simp only [go_sem, Int.toNat_natCast]) | with_reducible refine pw_seq_opsK kl32 G_ok (fun K hK => ?_) | with_reducible (first | refine pw_seq (x := .seq _ _) ?_ | refine thenA_normal ?_ | refine thenA_exit ?_ | refine thenA_ret ?_ | refine inBlockA_same ?_ | refine inBlockA_ret ?_ | refine inBlockA_normal ?_) | refine inBlockA_other (by decide) ?_ | with_reducible (first | refine pw_seq (pw_block ?_) | refine pw_seq (pw_skip (thenA_normal ?_)) | refine pw_skip ?_ | refine pw_exit ?_ | refine pw_ret ?_ | refine pw_ops G_ok (fun K hK => ?_)) | with_reducible refine pw_block ?_ | (with_reducible refine pK_mk (fun hc => ?_) (fun hc => ?_) <;> (try simp only [go_sem, Int.toNat_natCast]) <;> (try simp at hc) <;> (try (exfalso; omega))) | ((first | refine pw_seq (pw_cond rfl (fun hc => ?_) (fun hc => ?_)) | refine pw_cond rfl (fun hc => ?_) (fun hc => ?_)) <;> (try simp at hc) <;> (try (exfalso; omega))) | with_reducible refine And.intro (by first | omega | (unfold inI; omega) | exact andI_inI _) ?_)
        refine po_buildSlice_deep (cs := [.row 4 (sortUp (sd.take j)).length]) (ds := datG (sortUp (sd.take j))) rfl (G_ok _ _ G30) (by decide) rfl (by rw [hdt]; simp [ownL, ownC, hget, D.scB]) (by simp [rowIds]) (by simp only [flatL, flatC, Go.Proofs.YtkncdoodlggbcaaGreat.hget, if_true, if_false, Nat.reduceEqDiff]; exact ⟨flatE_datI _, trivial⟩) ?_
        repeat' (first | (with_reducible refine execL_step (fun K' hK' => ?_); (first | with_reducible refine s_none rfl ?_ | refine s_some2 rfl ?_); simp only [go_sem, hdt]) | (with_reducible refine hK' _ ?_; clear hK' K') | with_reducible refine execL_nil ?_ | (with_reducible refine hK _ ?_; clear hK K; try simp only [go_sem, hdt]) | with_reducible refine pw_seq_opsK kl32 G_ok (fun K hK => ?_) | with_reducible (first | refine pw_seq (x := .seq _ _) ?_ | refine thenA_normal ?_ | refine thenA_exit ?_ | refine thenA_ret ?_ | refine inBlockA_same ?_ | refine inBlockA_ret ?_ | refine inBlockA_normal ?_) | refine inBlockA_other (by decide) ?_ | with_reducible (first | refine pw_seq (pw_block ?_) | refine pw_seq (pw_skip (thenA_normal ?_)) | refine pw_skip ?_ | refine pw_exit ?_ | refine pw_ret ?_ | refine pw_ops G_ok (fun K hK => ?_)) | with_reducible refine pw_block ?_ | (with_reducible refine pK_mk (fun hc => ?_) (fun hc => ?_) <;> (try simp only [go_sem, hdt]) <;> (try simp at hc) <;> (try (exfalso; omega))) | ((first | refine pw_seq (pw_cond rfl (fun hc => ?_) (fun hc => ?_)) | refine pw_cond rfl (fun hc => ?_) (fun hc => ?_)) <;> (try simp at hc) <;> (try (exfalso; omega))) | with_reducible refine And.intro (by first | omega | (unfold inI; omega) | exact andI_inI _) ?_)
        refine po_append_deep (es := []) (fs := [datG (sortUp (sd.take j))]) (n := k) (n2 := 1) rfl (G_ok _ _ G30) rfl rfl rfl rfl (by decide) (by simp; omega) rfl (by intro e he; simp at he) (by exact True.intro) (by simp <;> omega) ?_
        repeat' (first | (with_reducible refine execL_step (fun K' hK' => ?_); (first | with_reducible refine s_none rfl ?_ | refine s_some2 rfl ?_); simp only [go_sem, hdt, Int.toNat_natCast, hzl2, hzl, List.length_map]) | (with_reducible refine hK' _ ?_; clear hK' K') | with_reducible refine execL_nil ?_ | (with_reducible refine hK _ ?_; clear hK K; try simp only [go_sem, hdt, Int.toNat_natCast, hzl2, hzl, List.length_map]) | with_reducible refine pw_seq_opsK kl32 G_ok (fun K hK => ?_) | with_reducible (first | refine pw_seq (x := .seq _ _) ?_ | refine thenA_normal ?_ | refine thenA_exit ?_ | refine thenA_ret ?_ | refine inBlockA_same ?_ | refine inBlockA_ret ?_ | refine inBlockA_normal ?_) | refine inBlockA_other (by decide) ?_ | with_reducible (first | refine pw_seq (pw_block ?_) | refine pw_seq (pw_skip (thenA_normal ?_)) | refine pw_skip ?_ | refine pw_exit ?_ | refine pw_ret ?_ | refine pw_ops G_ok (fun K hK => ?_)) | with_reducible refine pw_block ?_ | (with_reducible refine pK_mk (fun hc => ?_) (fun hc => ?_) <;> (try simp only [go_sem, hdt, Int.toNat_natCast, hzl2, hzl, List.length_map]) <;> (try simp at hc) <;> (try (exfalso; omega))) | ((first | refine pw_seq (pw_cond rfl (fun hc => ?_) (fun hc => ?_)) | refine pw_cond rfl (fun hc => ?_) (fun hc => ?_)) <;> (try simp at hc) <;> (try (exfalso; omega))) | with_reducible refine And.intro (by first | omega | (unfold inI; omega) | exact andI_inI _) ?_)
        all_goals first
          | (exfalso; omega)
          | exact ⟨k + 1, by omega, by omega, (fits_mk [] (by simp [renL_d, bdL_d, sg, over, wipe, wl, memN, ins, rm, lk, fitFr, fit1, ren, renL, bd, bdL, app, fitHp, hget, renB, bdB, hcs2, datG, hv1, hv2, vwE_succ, ownG_pos (Nat.succ_pos k)] <;> omega))⟩
    · have hkp : 0 < k := by omega
      rw [ownG_pos hkp, vwE_pos hkp]
      have hv1 : offZ ss k + zn = offZ ss (k + 1) := hoS.symm
      have hv2 : l.length - offZ ss k - zn = l.length - offZ ss (k + 1) := by omega
      have hzl : zn ≤ l.length - offZ ss k := by omega
      have hzl2 : (zn : Int) ≤ ((l.length - offZ ss k : Nat) : Int) := by omega
      repeat' (first | (with_reducible refine execL_step (fun K' hK' => ?_); (first | with_reducible refine s_none rfl ?_ | refine s_some2 rfl ?_); simp only [go_sem, hsz, hlt, List.getElem?_map, hz, Option.map_some, datI, Int.toNat_natCast, Int.toNat_zero, Nat.sub_zero, Nat.add_zero, hzl2]) | (with_reducible refine hK' _ ?_; clear hK' K') | with_reducible refine execL_nil ?_ | (with_reducible refine hK _ ?_; clear hK K; try simp only [go_sem, hsz, hlt, List.getElem?_map, hz, Option.map_some, datI, Int.toNat_natCast, Int.toNat_zero, Nat.sub_zero, Nat.add_zero, hzl2]) | with_reducible refine pw_seq_opsK kl32 G_ok (fun K hK => ?_) | with_reducible (first | refine pw_seq (x := .seq _ _) ?_ | refine thenA_normal ?_ | refine thenA_exit ?_ | refine thenA_ret ?_ | refine inBlockA_same ?_ | refine inBlockA_ret ?_ | refine inBlockA_normal ?_) | refine inBlockA_other (by decide) ?_ | with_reducible (first | refine pw_seq (pw_block ?_) | refine pw_seq (pw_skip (thenA_normal ?_)) | refine pw_skip ?_ | refine pw_exit ?_ | refine pw_ret ?_ | refine pw_ops G_ok (fun K hK => ?_)) | with_reducible refine pw_block ?_ | (with_reducible refine pK_mk (fun hc => ?_) (fun hc => ?_) <;> (try simp only [go_sem, hsz, hlt, List.getElem?_map, hz, Option.map_some, datI, Int.toNat_natCast, Int.toNat_zero, Nat.sub_zero, Nat.add_zero, hzl2]) <;> (try simp at hc) <;> (try (exfalso; omega))) | ((first | refine pw_seq (pw_cond rfl (fun hc => ?_) (fun hc => ?_)) | refine pw_cond rfl (fun hc => ?_) (fun hc => ?_)) <;> (try simp at hc) <;> (try (exfalso; omega))) | with_reducible refine And.intro (by first | omega | (unfold inI; omega) | exact andI_inI _) ?_)
      refine pw_loop_over [4, 5, 11, 13, 40, 41, 42, 43, 44, 45, 46, 47, 48] (fun j : Nat => [(40, .d (.int .i64 (j : Int))), (11, .row 4 (insAll (sd.take j)).length), (38, .view 1 2 (offZ ss k) zn)]) (fun j => [(4, .row 3 1 ((insAll (sd.take j)).map datI)), (3, .row 3 1 (ss.map datI)), (2, .deep 0 24 1 (pre.map datG)), (1, .row 60 2 (o.map EntrantD.dat))]) 5 (fun j => j ≤ zn) (fun j => zn - j) 0 (by omega) (fits_mk [] (by simp [renL_d, bdL_d, sg, over, wipe, wl, memN, ins, rm, lk, fitFr, fit1, ren, renL, bd, bdL, app, fitHp, hget, renB, bdB, insAll, List.take_zero, List.foldl_nil] <;> omega)) ?_
      intro j hj
      have hw1 : (sd.take j).Pairwise (· ≠ ·) := hdne.sublist (List.take_sublist _ _)
      have hw2 := insAll_sorted hw1
      have hw3 := insAll_perm hw1
      have hw4 : (sd.take j).length ≤ 40 := by rw [List.length_take]; omega
      have hw5 := hw3.length_eq
      simp only [over, wipe, wl, memN, ins, rm, if_true, if_false, Nat.reduceEqDiff, Bool.false_eq_true, reduceCtorEq]
      by_cases hlj : j < zn
      · obtain ⟨x, hx, hsx⟩ := hgt j hlj
        have e0 := take_snoc hsx
        have e1 : insAll (sd.take (j + 1)) = insO ltI x.skater (insAll (sd.take j)) := by rw [e0, insAll_snoc]
        have hw6 : (sd.take (j + 1)).Pairwise (· ≠ ·) := hdne.sublist (List.take_sublist _ _)
        rw [e0] at hw6
        have hni : x.skater ∉ insAll (sd.take j) := fun hm => (List.pairwise_append.1 hw6).2.2 _ (hw3.mem_iff.1 hm) _ (by simp) rfl
        generalize insAll (sd.take j) = acc at hw2 hw3 hw5 hni e1
        repeat' (first | (with_reducible refine execL_step (fun K' hK' => ?_); (first | with_reducible refine s_none rfl ?_ | refine s_some2 rfl ?_); simp only [go_sem, hlj, Nat.zero_add, List.length_map, List.getElem?_map, hx, Option.map_some, datI, EntrantD.dat]) | (with_reducible refine hK' _ ?_; clear hK' K') | with_reducible refine execL_nil ?_ | (with_reducible refine hK _ ?_; clear hK K; try simp only [go_sem, hlj, Nat.zero_add, List.length_map, List.getElem?_map, hx, Option.map_some, datI, EntrantD.dat]) | with_reducible refine pw_seq_opsK kl32 G_ok (fun K hK => ?_) | (with_reducible refine CallK.eq (l1Put_ok acc x.skater (by omega) hw2 hni) ?_ ?_; (focus (simp [RV.flat, D.sc, datI]; done)); try simp only [go_sem, hlj, Nat.zero_add, List.length_map, List.getElem?_map, hx, Option.map_some, datI, EntrantD.dat]) | with_reducible (first | refine pw_seq (x := .seq _ _) ?_ | refine thenA_normal ?_ | refine thenA_exit ?_ | refine thenA_ret ?_ | refine inBlockA_same ?_ | refine inBlockA_ret ?_ | refine inBlockA_normal ?_) | refine inBlockA_other (by decide) ?_ | with_reducible (first | refine pw_seq (pw_block ?_) | refine pw_seq (pw_skip (thenA_normal ?_)) | refine pw_skip ?_ | refine pw_exit ?_ | refine pw_ret ?_ | refine pw_ops G_ok (fun K hK => ?_)) | with_reducible refine pw_block ?_ | (with_reducible refine pK_mk (fun hc => ?_) (fun hc => ?_) <;> (try simp only [go_sem, hlj, Nat.zero_add, List.length_map, List.getElem?_map, hx, Option.map_some, datI, EntrantD.dat]) <;> (try simp at hc) <;> (try (exfalso; omega))) | ((first | refine pw_seq (pw_cond rfl (fun hc => ?_) (fun hc => ?_)) | refine pw_cond rfl (fun hc => ?_) (fun hc => ?_)) <;> (try simp at hc) <;> (try (exfalso; omega))) | with_reducible refine And.intro (by first | omega | (unfold inI; omega) | exact andI_inI _) ?_)
        all_goals first
          | (exfalso; omega)
          | exact ⟨j + 1, by omega, by omega, (fits_mk [] (by simp [renL_d, bdL_d, sg, over, wipe, wl, memN, ins, rm, lk, fitFr, fit1, ren, renL, bd, bdL, app, fitHp, hget, renB, bdB, e1, List.length_map] <;> omega))⟩
      · obtain rfl : j = zn := by omega
        rw [hins] at hw5 ⊢
        repeat' (first | (with_reducible refine execL_step (fun K' hK' => ?_); (first | with_reducible refine s_none rfl ?_ | refine s_some2 rfl ?_); simp only [go_sem, Int.toNat_natCast]) | (with_reducible refine hK' _ ?_; clear hK' K') | with_reducible refine execL_nil ?_ | (with_reducible refine hK _ ?_; clear hK K; try simp only [go_sem, Int.toNat_natCast]) | with_reducible refine pw_seq_opsK kl32 G_ok (fun K hK => ?_) | with_reducible (first | refine pw_seq (x := .seq _ _) ?_ | refine thenA_normal ?_ | refine thenA_exit ?_ | refine thenA_ret ?_ | refine inBlockA_same ?_ | refine inBlockA_ret ?_ | refine inBlockA_normal ?_) | refine inBlockA_other (by decide) ?_ | with_reducible (first | refine pw_seq (pw_block ?_) | refine pw_seq (pw_skip (thenA_normal ?_)) | refine pw_skip ?_ | refine pw_exit ?_ | refine pw_ret ?_ | refine pw_ops G_ok (fun K hK => ?_)) | with_reducible refine pw_block ?_ | (with_reducible refine pK_mk (fun hc => ?_) (fun hc => ?_) <;> (try simp only [go_sem, Int.toNat_natCast]) <;> (try simp at hc) <;> (try (exfalso; omega))) | ((first | refine pw_seq (pw_cond rfl (fun hc => ?_) (fun hc => ?_)) | refine pw_cond rfl (fun hc => ?_) (fun hc => ?_)) <;> (try simp at hc) <;> (try (exfalso; omega))) | with_reducible refine And.intro (by first | omega | (unfold inI; omega) | exact andI_inI _) ?_)
        refine po_buildSlice_deep (cs := [.row 4 (sortUp (sd.take j)).length]) (ds := datG (sortUp (sd.take j))) rfl (G_ok _ _ G30) (by decide) rfl (by rw [hdt]; simp [ownL, ownC, hget, D.scB]) (by simp [rowIds]) (by simp only [flatL, flatC, Go.Proofs.YtkncdoodlggbcaaGreat.hget, if_true, if_false, Nat.reduceEqDiff]; exact ⟨flatE_datI _, trivial⟩) ?_
        repeat' (first | (with_reducible refine execL_step (fun K' hK' => ?_); (first | with_reducible refine s_none rfl ?_ | refine s_some2 rfl ?_); simp only [go_sem, hdt]) | (with_reducible refine hK' _ ?_; clear hK' K') | with_reducible refine execL_nil ?_ | (with_reducible refine hK _ ?_; clear hK K; try simp only [go_sem, hdt]) | with_reducible refine pw_seq_opsK kl32 G_ok (fun K hK => ?_) | with_reducible (first | refine pw_seq (x := .seq _ _) ?_ | refine thenA_normal ?_ | refine thenA_exit ?_ | refine thenA_ret ?_ | refine inBlockA_same ?_ | refine inBlockA_ret ?_ | refine inBlockA_normal ?_) | refine inBlockA_other (by decide) ?_ | with_reducible (first | refine pw_seq (pw_block ?_) | refine pw_seq (pw_skip (thenA_normal ?_)) | refine pw_skip ?_ | refine pw_exit ?_ | refine pw_ret ?_ | refine pw_ops G_ok (fun K hK => ?_)) | with_reducible refine pw_block ?_ | (with_reducible refine pK_mk (fun hc => ?_) (fun hc => ?_) <;> (try simp only [go_sem, hdt]) <;> (try simp at hc) <;> (try (exfalso; omega))) | ((first | refine pw_seq (pw_cond rfl (fun hc => ?_) (fun hc => ?_)) | refine pw_cond rfl (fun hc => ?_) (fun hc => ?_)) <;> (try simp at hc) <;> (try (exfalso; omega))) | with_reducible refine And.intro (by first | omega | (unfold inI; omega) | exact andI_inI _) ?_)
        refine po_append_deep (es := pre.map datG) (fs := [datG (sortUp (sd.take j))]) (n := k) (n2 := 1) rfl (G_ok _ _ G30) rfl rfl rfl rfl (by decide) (by simp; omega) rfl (by exact True.intro) (by exact True.intro) (by simp <;> omega) ?_
        repeat' (first | (with_reducible refine execL_step (fun K' hK' => ?_); (first | with_reducible refine s_none rfl ?_ | refine s_some2 rfl ?_); simp only [go_sem, hdt, Int.toNat_natCast, hzl2, hzl, List.length_map]) | (with_reducible refine hK' _ ?_; clear hK' K') | with_reducible refine execL_nil ?_ | (with_reducible refine hK _ ?_; clear hK K; try simp only [go_sem, hdt, Int.toNat_natCast, hzl2, hzl, List.length_map]) | with_reducible refine pw_seq_opsK kl32 G_ok (fun K hK => ?_) | with_reducible (first | refine pw_seq (x := .seq _ _) ?_ | refine thenA_normal ?_ | refine thenA_exit ?_ | refine thenA_ret ?_ | refine inBlockA_same ?_ | refine inBlockA_ret ?_ | refine inBlockA_normal ?_) | refine inBlockA_other (by decide) ?_ | with_reducible (first | refine pw_seq (pw_block ?_) | refine pw_seq (pw_skip (thenA_normal ?_)) | refine pw_skip ?_ | refine pw_exit ?_ | refine pw_ret ?_ | refine pw_ops G_ok (fun K hK => ?_)) | with_reducible refine pw_block ?_ | (with_reducible refine pK_mk (fun hc => ?_) (fun hc => ?_) <;> (try simp only [go_sem, hdt, Int.toNat_natCast, hzl2, hzl, List.length_map]) <;> (try simp at hc) <;> (try (exfalso; omega))) | ((first | refine pw_seq (pw_cond rfl (fun hc => ?_) (fun hc => ?_)) | refine pw_cond rfl (fun hc => ?_) (fun hc => ?_)) <;> (try simp at hc) <;> (try (exfalso; omega))) | with_reducible refine And.intro (by first | omega | (unfold inI; omega) | exact andI_inI _) ?_)
        all_goals first
          | (exfalso; omega)
          | exact ⟨k + 1, by omega, by omega, (fits_mk [] (by simp [renL_d, bdL_d, sg, over, wipe, wl, memN, ins, rm, lk, fitFr, fit1, ren, renL, bd, bdL, app, fitHp, hget, renB, bdB, hcs2, hdt, hv1, hv2, vwE_succ, ownG_pos (Nat.succ_pos k)] <;> omega))⟩
  · obtain rfl : k = g := by omega
    rw [ownG_pos hg0, hgr, vwE_pos hg0]
    have hrl : ((grpE l k).map datG).length = k := by rw [← hgr]; simp [hcl]
    repeat' (first | (with_reducible refine execL_step (fun K' hK' => ?_); (first | with_reducible refine s_none rfl ?_ | refine s_some2 rfl ?_); simp only [go_sem, hsz]) | (with_reducible refine hK' _ ?_; clear hK' K') | with_reducible refine execL_nil ?_ | (with_reducible refine hK _ ?_; clear hK K; try simp only [go_sem, hsz]) | with_reducible refine pw_seq_opsK kl32 G_ok (fun K hK => ?_) | with_reducible (first | refine pw_seq (x := .seq _ _) ?_ | refine thenA_normal ?_ | refine thenA_exit ?_ | refine thenA_ret ?_ | refine inBlockA_same ?_ | refine inBlockA_ret ?_ | refine inBlockA_normal ?_) | refine inBlockA_other (by decide) ?_ | with_reducible (first | refine pw_seq (pw_block ?_) | refine pw_seq (pw_skip (thenA_normal ?_)) | refine pw_skip ?_ | refine pw_exit ?_ | refine pw_ret ?_ | refine pw_ops G_ok (fun K hK => ?_)) | with_reducible refine pw_block ?_ | (with_reducible refine pK_mk (fun hc => ?_) (fun hc => ?_) <;> (try simp only [go_sem, hsz]) <;> (try simp at hc) <;> (try (exfalso; omega))) | ((first | refine pw_seq (pw_cond rfl (fun hc => ?_) (fun hc => ?_)) | refine pw_cond rfl (fun hc => ?_) (fun hc => ?_)) <;> (try simp at hc) <;> (try (exfalso; omega))) | with_reducible refine And.intro (by first | omega | (unfold inI; omega) | exact andI_inI _) ?_)
    refine retQ_ret rfl (by simp only [hrl, retL, ret1, hget, lk, List.length_map, List.length_nil, List.length_append, List.length_take, if_true, if_false, Nat.reduceEqDiff, Nat.reduceBEq, Bool.false_eq_true, Option.some.injEq]; rfl) (by simp [rowsOf, lk]) ?_; rfl
end Go.Proofs.YtkncdoodlggbcaaGreat
