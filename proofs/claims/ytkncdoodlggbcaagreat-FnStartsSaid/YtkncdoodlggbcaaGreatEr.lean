/-
  Groups of entrants by rank: plain words; the program's rankGroups, in the abstract machine.
-/
import Derived.Test.YtkncdoodlggbcaaGreatSk
import Derived.Test.YtkncdoodlggbcaaGreatSm
import Derived.Test.YtkncdoodlggbcaaGreatEc
import Derived.Test.YtkncdoodlggbcaaGreatEg
set_option linter.unusedSimpArgs false
set_option linter.unusedVariables false
set_option maxHeartbeats 2000000
set_option maxRecDepth 100000
namespace Go.Proofs.YtkncdoodlggbcaaGreat
open Go.RowKit Go.Sort

def cfG (l : List EntrantD) (x y : Fin l.length) : Int := cfE l[x] l[y]
theorem ltG_eq (l : List EntrantD) (x y : Fin l.length) : ltOf (cfG l) x y = ltE l[x] l[y] := rfl
theorem fin_mem (l : List EntrantD) (x : Fin l.length) : l[x] ∈ l := List.getElem_mem _
theorem ltG_swo {l : List EntrantD} (hv : EntsOk l) : SWO (ltOf (cfG l)) := by
  have hT := ltE_tot hv
  refine ⟨fun x => ?_, fun x y z h1 h2 => hT.trans (fin_mem l x) (fin_mem l y) (fin_mem l z) h1 h2, fun x y z h1 h2 => ?_⟩
  · cases h : ltOf (cfG l) x x with
    | false => rfl
    | true => exact absurd ((hT.asymm (fin_mem l x) (fin_mem l x) h).symm.trans h) (by simp)
  · rw [ltG_eq] at h1 h2 ⊢
    cases h3 : ltE l[x] l[z] with
    | false => rfl
    | true =>
      cases h4 : ltE l[y] l[x] with
      | true => rw [hT.trans (fin_mem l y) (fin_mem l x) (fin_mem l z) h4 h3] at h2; cases h2
      | false => rw [hT.total (fin_mem l x) (fin_mem l y) h1 h4, h2] at h3; cases h3
theorem ltG_one {l : List EntrantD} (hv : EntsOk l) (x y : Fin l.length) (h1 : ltOf (cfG l) x y = false) (h2 : ltOf (cfG l) y x = false) : x = y := by
  have e := (ltE_tot hv).total (fin_mem l x) (fin_mem l y) h1 h2
  apply Fin.ext
  by_cases h : x.val = y.val
  · exact h
  · have hx : l[x.val]? = some l[x] := List.getElem?_eq_getElem x.isLt
    have hy : l[y.val]? = some l[y] := List.getElem?_eq_getElem y.isLt
    exact absurd (congrArg EntrantD.skater e) (hv.apart hx hy h).1
theorem fin_all (l : List EntrantD) : (List.finRange l.length).map (fun i => l[i]) = l := by
  apply List.ext_getElem
  · simp
  · intro i h1 h2
    simp
theorem sortG_word {l : List EntrantD} (hv : EntsOk l) : ((List.finRange l.length).mergeSort fun x y => !(ltOf (cfG l)) y x).map (fun i => l[i]) = ordE l := by
  have hS := ltG_swo hv
  have hperm := List.mergeSort_perm (List.finRange l.length) (fun x y => !(ltOf (cfG l)) y x)
  have hpz : (((List.finRange l.length).mergeSort fun x y => !(ltOf (cfG l)) y x).map (fun i => l[i])).Perm l := by
    have := hperm.map (fun i => l[i])
    rwa [fin_all] at this
  have hsort := List.pairwise_mergeSort (le := fun x y : Fin l.length => !(ltOf (cfG l)) y x) (fun x y z h1 h2 => by
    simp only [Bool.not_eq_true'] at h1 h2 ⊢
    exact hS.ntrans z y x h2 h1) (fun x y => by
    cases h : ltOf (cfG l) y x with
    | false => simp
    | true =>
      cases h2 : ltOf (cfG l) x y with
      | false => simp
      | true => exact absurd ((hS.trans x y x h2 h).symm.trans (hS.irrefl x)) (by simp)) (List.finRange l.length)
  have hnd : ((List.finRange l.length).mergeSort fun x y => !(ltOf (cfG l)) y x).Pairwise (· ≠ ·) := hperm.symm.pairwise (List.nodup_finRange _) (fun h => Ne.symm h)
  refine ordE_one hv hpz ?_
  rw [List.pairwise_map]
  refine List.Pairwise.imp (fun {a b} h => ?_) (hsort.and hnd)
  obtain ⟨h1, h2⟩ := h
  simp only [Bool.not_eq_true'] at h1
  cases h3 : ltE l[a] l[b] with
  | true => rfl
  | false => exact absurd (ltG_one hv a b h3 h1) h2
/-- sizes add up -/
theorem offZ_szs (n g : Nat) : ∀ k, k ≤ g → offZ (szsZ n g g) k = k * (n / g) + min k (n % g)
  | 0, _ => by simp [offZ]
  | k + 1, hk => by
    have hg : (szsZ n g g)[k]? = some (szZ n g k : Int) := by unfold szsZ; rw [List.getElem?_map, List.getElem?_range (by omega)]; rfl
    rw [offZ_succ hg, offZ_szs n g k (by omega)]
    simp only [Int.toNat_natCast]
    unfold szZ
    rw [Nat.add_mul, Nat.one_mul]
    split <;> omega
theorem offZ_all {n g : Nat} (h0 : 0 < g) : offZ (szsZ n g g) g = n := by
  rw [offZ_szs n g g (Nat.le_refl _)]
  have h1 := Nat.mod_lt n h0
  have h2 := Nat.div_add_mod n g
  rw [Nat.min_eq_right (by omega)]
  omega
def many (l : List EntrantD) (s : Nat) : Nat := (l.length + s - 1) / s
def chE (l : List EntrantD) (g : Nat) : List (List Int) := cutZ (szsZ l.length g g) ((ordE l).map EntrantD.skater) g
def grpE (l : List EntrantD) (g : Nat) : List (List Int) := (chE l g).map sortUp
theorem chE_len (l : List EntrantD) (g : Nat) : (chE l g).length = g := cutZ_len _ _ _
/-- the first k groups sorted -/
def gsTo (cs : List (List Int)) (k : Nat) : List (List Int) := (cs.take k).map sortUp ++ cs.drop k
theorem gsTo_zero (cs : List (List Int)) : gsTo cs 0 = cs := rfl
theorem gsTo_end (cs : List (List Int)) : gsTo cs cs.length = cs.map sortUp := by unfold gsTo; rw [List.take_length, List.drop_length, List.append_nil]
theorem gsTo_len {cs : List (List Int)} {k : Nat} (hk : k ≤ cs.length) : (gsTo cs k).length = cs.length := by unfold gsTo; rw [List.length_append, List.length_map, List.length_take, List.length_drop]; omega
theorem gsTo_get {cs : List (List Int)} {k : Nat} {c : List Int} (hx : cs[k]? = some c) : (gsTo cs k)[k]? = some c := by
  have hk := (List.getElem?_eq_some_iff.1 hx).1
  unfold gsTo
  rw [List.getElem?_append_right (by rw [List.length_map, List.length_take]; omega), List.length_map, List.length_take, Nat.min_eq_left (by omega), Nat.sub_self, List.getElem?_drop]
  exact hx
theorem gsTo_set {cs : List (List Int)} {k : Nat} {c : List Int} (hx : cs[k]? = some c) : (gsTo cs k).set k (sortUp c) = gsTo cs (k + 1) := by
  have hk := (List.getElem?_eq_some_iff.1 hx).1
  unfold gsTo
  rw [List.set_append_right _ _ (by rw [List.length_map, List.length_take]; omega), List.length_map, List.length_take, Nat.min_eq_left (by omega), Nat.sub_self, List.drop_eq_getElem_cons hk, take_snoc hx, List.map_append, List.append_assoc]
  rfl
theorem szsZ_nn {n g k : Nat} : ∀ s ∈ szsZ n g k, 0 ≤ s := by
  intro s hs
  obtain ⟨i, _, rfl⟩ := List.mem_map.1 hs
  omega
theorem chE_bd {l : List EntrantD} (hv : EntsOk l) (g : Nat) : ∀ c ∈ chE l g, c.length ≤ 40 := by
  intro c hc
  unfold chE cutZ at hc
  obtain ⟨i, _, rfl⟩ := List.mem_map.1 hc
  have h1 := ordE_len hv (Nat.le_refl l.length)
  rw [List.take_length] at h1
  rw [List.length_take, List.length_drop, List.length_map, h1]
  have := hv.1
  omega
theorem rankGroups_ok (l : List EntrantD) (s : Nat) (h0 : 0 < l.length) (hv : EntsOk l) (hs : 1 ≤ s) (hs8 : s ≤ 8) (hm : many l s ≤ 8) : FnEq Tryz.prog 36 [.d (.lst 2 (l.map EntrantD.dat)), .d (.int .i64 (s : Int))] [.deep 24 1 ((grpE l (many l s)).map datG), .d (.bool true)] := by
  refine fn_ok G_ok Tryz.func36 rfl rfl ?_; simp only [Tryz.ntmps36, List.length_cons, List.length_nil, Nat.reduceAdd, Nat.reduceSub, enm]
  have h40 := hv.1
  have hs0 : ¬ (s : Int) = 0 := by omega
  have hq : ((l.length : Int) + (s : Int) - 1).tdiv (s : Int) = (many l s : Int) := by
    rw [show (l.length : Int) + (s : Int) - 1 = ((l.length + s - 1 : Nat) : Int) by omega]
    rfl
  have hg0 : 0 < many l s := Nat.div_pos (by omega) (by omega)
  have hal := offZ_all (n := l.length) hg0
  have hol := ordE_len hv (Nat.le_refl l.length)
  rw [List.take_length] at hol
  have hcl := chE_len l (many l s)
  have hcb := chE_bd hv (many l s)
  have hsz := szsZ_len l.length (many l s) (many l s)
  have hcut := cutInto_ok ((ordE l).map EntrantD.skater) (szsZ l.length (many l s) (many l s)) (by omega) (by simp; omega) (by omega) szsZ_nn (by rw [hsz, hal, List.length_map]; omega)
  rw [hsz] at hcut
  have hev := evenSizes_ok l.length (many l s) (by omega) hg0 (by omega)
  have hgr : (chE l (many l s)).map sortUp = grpE l (many l s) := rfl
  change FnEq Tryz.prog _ _ [.deep 24 1 ((chE l (many l s)).map datG)] at hcut
  generalize chE l (many l s) = cs at hcl hcb hcut hgr
  generalize many l s = g at *
  have hgl : (g : Int) ≤ 8 := by omega
  repeat' (first | (with_reducible refine execL_step (fun K' hK' => ?_); (first | with_reducible refine s_none rfl ?_ | refine s_some2 rfl ?_); simp only [go_sem, hq, hs0, List.nil_append]) | (with_reducible refine hK' _ ?_; clear hK' K') | with_reducible refine execL_nil ?_ | (with_reducible refine hK _ ?_; clear hK K; try simp only [go_sem, hq, hs0, List.nil_append]) | with_reducible refine pw_seq_opsK kl36 G_ok (fun K hK => ?_) | with_reducible (first | refine pw_seq (x := .seq _ _) ?_ | refine thenA_normal ?_ | refine thenA_exit ?_ | refine thenA_ret ?_ | refine inBlockA_same ?_ | refine inBlockA_ret ?_ | refine inBlockA_normal ?_) | refine inBlockA_other (by decide) ?_ | with_reducible (first | refine pw_seq (pw_block ?_) | refine pw_seq (pw_skip (thenA_normal ?_)) | refine pw_skip ?_ | refine pw_exit ?_ | refine pw_ret ?_ | refine pw_ops G_ok (fun K hK => ?_)) | with_reducible refine pw_block ?_ | (with_reducible refine pK_mk (fun hc => ?_) (fun hc => ?_) <;> (try simp only [go_sem, hq, hs0, List.nil_append]) <;> (try simp at hc) <;> (try (exfalso; omega))) | ((first | refine pw_seq (pw_cond rfl (fun hc => ?_) (fun hc => ?_)) | refine pw_cond rfl (fun hc => ?_) (fun hc => ?_)) <;> (try simp at hc) <;> (try (exfalso; omega))) | with_reducible refine And.intro (by first | omega | (unfold inI; omega) | exact andI_inI _) ?_)
  all_goals first
    | (exfalso; omega)
    | skip
  refine CallK.po (po_rewriteK (es' := (ordE l).map EntrantD.dat) rfl rfl rfl rfl rfl (by simp) ⟨_, Tryz.func61, rfl, rfl⟩ (by simp [hol]) (fun w X b c arr hh hok => ?_) (fun w fv => sortE_none _ _ _ w) ?_)
  · have hfa := fin_all l
    have hz : (List.finRange l.length).length = l.length := by simp
    have hok' : (Blk.row 60 2 (((List.finRange l.length).map fun i => l[i]).map EntrantD.dat)).cellsOk (fun _ => none) X w arr c := by rw [hfa]; exact hok
    have key := sortE_calls h0 (cfG l) (ltG_swo hv) (ltG_one hv) 62 (fun x y => compareBehind_ok l[x] l[y] (hv.rng (fin_mem l x)) (hv.rng (fin_mem l y))) (List.finRange l.length) (by simp; omega) w X b c arr hh hok'
    rw [sortG_word hv, hz] at key
    exact key
  repeat' (first | (with_reducible refine execL_step (fun K' hK' => ?_); (first | with_reducible refine s_none rfl ?_ | refine s_some2 rfl ?_); simp only [go_sem, hol, List.length_map]) | (with_reducible refine hK' _ ?_; clear hK' K') | with_reducible refine execL_nil ?_ | (with_reducible refine hK _ ?_; clear hK K; try simp only [go_sem, hol, List.length_map]) | with_reducible refine pw_seq_opsK kl36 G_ok (fun K hK => ?_) | with_reducible (first | refine pw_seq (x := .seq _ _) ?_ | refine thenA_normal ?_ | refine thenA_exit ?_ | refine thenA_ret ?_ | refine inBlockA_same ?_ | refine inBlockA_ret ?_ | refine inBlockA_normal ?_) | refine inBlockA_other (by decide) ?_ | with_reducible (first | refine pw_seq (pw_block ?_) | refine pw_seq (pw_skip (thenA_normal ?_)) | refine pw_skip ?_ | refine pw_exit ?_ | refine pw_ret ?_ | refine pw_ops G_ok (fun K hK => ?_)) | with_reducible refine pw_block ?_ | (with_reducible refine pK_mk (fun hc => ?_) (fun hc => ?_) <;> (try simp only [go_sem, hol, List.length_map]) <;> (try simp at hc) <;> (try (exfalso; omega))) | ((first | refine pw_seq (pw_cond rfl (fun hc => ?_) (fun hc => ?_)) | refine pw_cond rfl (fun hc => ?_) (fun hc => ?_)) <;> (try simp at hc) <;> (try (exfalso; omega))) | with_reducible refine And.intro (by first | omega | (unfold inI; omega) | exact andI_inI _) ?_)
  refine pw_loop_over [4, 5, 8, 10, 31, 32, 33, 34, 35, 36, 37, 38, 39, 40] (fun k : Nat => [(31, .d (.int .i64 (k : Int))), (8, .row 1 k), (29, .row 0 l.length), (7, .row 0 l.length)]) (fun k : Nat => [(0, .row 60 2 ((ordE l).map EntrantD.dat)), (1, .row 3 1 ((((ordE l).take k).map EntrantD.skater).map datI))]) 2 (fun k : Nat => k ≤ l.length) (fun k : Nat => l.length - k) 0 (Nat.zero_le _) (fits_mk [] (by simp [renL_d, bdL_d, sg, over, wipe, wl, memN, ins, rm, lk, fitFr, fit1, ren, renL, bd, bdL, app, fitHp, hget, renB, bdB] <;> omega)) ?_
  intro k hk
  have hT : ((ordE l).take k).length = k := by simp; omega
  simp only [over, wipe, wl, memN, ins, rm, if_true, if_false, Nat.reduceEqDiff, Bool.false_eq_true, reduceCtorEq]
  by_cases hlt : k < l.length
  · obtain ⟨x, hx⟩ : ∃ x, (ordE l)[k]? = some x := ⟨_, List.getElem?_eq_getElem (by omega)⟩
    have e1 := map_snoc (f := EntrantD.skater) hx
    repeat' (first | (with_reducible refine execL_step (fun K' hK' => ?_); (first | with_reducible refine s_none rfl ?_ | refine s_some2 rfl ?_); simp only [go_sem, hol, hlt, hT, List.length_map, List.getElem?_map, hx, Option.map_some, EntrantD.dat]) | (with_reducible refine hK' _ ?_; clear hK' K') | with_reducible refine execL_nil ?_ | (with_reducible refine hK _ ?_; clear hK K; try simp only [go_sem, hol, hlt, hT, List.length_map, List.getElem?_map, hx, Option.map_some, EntrantD.dat]) | with_reducible refine pw_seq_opsK kl36 G_ok (fun K hK => ?_) | with_reducible (first | refine pw_seq (x := .seq _ _) ?_ | refine thenA_normal ?_ | refine thenA_exit ?_ | refine thenA_ret ?_ | refine inBlockA_same ?_ | refine inBlockA_ret ?_ | refine inBlockA_normal ?_) | refine inBlockA_other (by decide) ?_ | with_reducible (first | refine pw_seq (pw_block ?_) | refine pw_seq (pw_skip (thenA_normal ?_)) | refine pw_skip ?_ | refine pw_exit ?_ | refine pw_ret ?_ | refine pw_ops G_ok (fun K hK => ?_)) | with_reducible refine pw_block ?_ | (with_reducible refine pK_mk (fun hc => ?_) (fun hc => ?_) <;> (try simp only [go_sem, hol, hlt, hT, List.length_map, List.getElem?_map, hx, Option.map_some, EntrantD.dat]) <;> (try simp at hc) <;> (try (exfalso; omega))) | ((first | refine pw_seq (pw_cond rfl (fun hc => ?_) (fun hc => ?_)) | refine pw_cond rfl (fun hc => ?_) (fun hc => ?_)) <;> (try simp at hc) <;> (try (exfalso; omega))) | with_reducible refine And.intro (by first | omega | (unfold inI; omega) | exact andI_inI _) ?_)
    exact ⟨k + 1, by omega, by omega, (fits_mk [] (by simp [renL_d, bdL_d, sg, over, wipe, wl, memN, ins, rm, lk, fitFr, fit1, ren, renL, bd, bdL, app, fitHp, hget, renB, bdB, e1, datI, -List.map_take] <;> omega))⟩
  · obtain rfl : k = l.length := by omega
    rw [List.take_of_length_le (by omega)]
    repeat' (first | (with_reducible refine execL_step (fun K' hK' => ?_); (first | with_reducible refine s_none rfl ?_ | refine s_some2 rfl ?_); simp only [go_sem, hol, List.length_map]) | (with_reducible refine hK' _ ?_; clear hK' K') | with_reducible refine execL_nil ?_ | (with_reducible refine hK _ ?_; clear hK K; try simp only [go_sem, hol, List.length_map]) | with_reducible refine pw_seq_opsK kl36 G_ok (fun K hK => ?_) | (with_reducible refine CallK.eq (hev) ?_ ?_; (focus (simp [RV.flat, D.sc, datI]; done)); try simp only [go_sem, hol, List.length_map]) | (with_reducible refine CallK.eq (hcut) ?_ ?_; (focus (simp [RV.flat, D.sc, datI]; done)); try simp only [go_sem, hol, List.length_map]) | with_reducible (first | refine pw_seq (x := .seq _ _) ?_ | refine thenA_normal ?_ | refine thenA_exit ?_ | refine thenA_ret ?_ | refine inBlockA_same ?_ | refine inBlockA_ret ?_ | refine inBlockA_normal ?_) | refine inBlockA_other (by decide) ?_ | with_reducible (first | refine pw_seq (pw_block ?_) | refine pw_seq (pw_skip (thenA_normal ?_)) | refine pw_skip ?_ | refine pw_exit ?_ | refine pw_ret ?_ | refine pw_ops G_ok (fun K hK => ?_)) | with_reducible refine pw_block ?_ | (with_reducible refine pK_mk (fun hc => ?_) (fun hc => ?_) <;> (try simp only [go_sem, hol, List.length_map]) <;> (try simp at hc) <;> (try (exfalso; omega))) | ((first | refine pw_seq (pw_cond rfl (fun hc => ?_) (fun hc => ?_)) | refine pw_cond rfl (fun hc => ?_) (fun hc => ?_)) <;> (try simp at hc) <;> (try (exfalso; omega))) | with_reducible refine And.intro (by first | omega | (unfold inI; omega) | exact andI_inI _) ?_)
    refine pw_loop_over [4, 5, 13, 49, 50, 51, 52, 53, 54, 55] (fun k : Nat => [(49, .d (.int .i64 (k : Int))), (47, .row 3 g), (11, .row 3 g)]) (fun k : Nat => [(3, .deep 0 24 1 ((gsTo cs k).map datG)), (0, .row 60 2 ((ordE l).map EntrantD.dat)), (1, .row 3 1 (((ordE l).map EntrantD.skater).map datI))]) 4 (fun k : Nat => k ≤ g) (fun k : Nat => g - k) 0 (Nat.zero_le _) (fits_mk [] (by simp [renL_d, bdL_d, sg, over, wipe, wl, memN, ins, rm, lk, fitFr, fit1, ren, renL, bd, bdL, app, fitHp, hget, renB, bdB, gsTo_zero, hcl] <;> omega)) ?_
    intro k hk
    have hgl2 := gsTo_len (cs := cs) (k := k) (by omega)
    simp only [over, wipe, wl, memN, ins, rm, if_true, if_false, Nat.reduceEqDiff, Bool.false_eq_true, reduceCtorEq]
    by_cases hlt2 : k < g
    · obtain ⟨c, hc⟩ : ∃ c, cs[k]? = some c := ⟨_, List.getElem?_eq_getElem (by omega)⟩
      have hcl2 := hcb c (List.mem_of_getElem? hc)
      have hx2 := gsTo_get hc
      have hset : ((gsTo cs k).map datG).set k [.lst 1 ((sortUp c).map datI)] = (gsTo cs (k + 1)).map datG := by rw [← gsTo_set hc, List.map_set]; rfl
      repeat' (first | (with_reducible refine execL_step (fun K' hK' => ?_); (first | with_reducible refine s_none rfl ?_ | refine s_some2 rfl ?_); simp only [go_sem, hgl2, hcl, hlt2, List.length_map, List.getElem?_map, hx2, Option.map_some, datG]) | (with_reducible refine hK' _ ?_; clear hK' K') | with_reducible refine execL_nil ?_ | (with_reducible refine hK _ ?_; clear hK K; try simp only [go_sem, hgl2, hcl, hlt2, List.length_map, List.getElem?_map, hx2, Option.map_some, datG]) | with_reducible refine pw_seq_opsK kl36 G_ok (fun K hK => ?_) | with_reducible (first | refine pw_seq (x := .seq _ _) ?_ | refine thenA_normal ?_ | refine thenA_exit ?_ | refine thenA_ret ?_ | refine inBlockA_same ?_ | refine inBlockA_ret ?_ | refine inBlockA_normal ?_) | refine inBlockA_other (by decide) ?_ | with_reducible (first | refine pw_seq (pw_block ?_) | refine pw_seq (pw_skip (thenA_normal ?_)) | refine pw_skip ?_ | refine pw_exit ?_ | refine pw_ret ?_ | refine pw_ops G_ok (fun K hK => ?_)) | with_reducible refine pw_block ?_ | (with_reducible refine pK_mk (fun hc => ?_) (fun hc => ?_) <;> (try simp only [go_sem, hgl2, hcl, hlt2, List.length_map, List.getElem?_map, hx2, Option.map_some, datG]) <;> (try simp at hc) <;> (try (exfalso; omega))) | ((first | refine pw_seq (pw_cond rfl (fun hc => ?_) (fun hc => ?_)) | refine pw_cond rfl (fun hc => ?_) (fun hc => ?_)) <;> (try simp at hc) <;> (try (exfalso; omega))) | with_reducible refine And.intro (by first | omega | (unfold inI; omega) | exact andI_inI _) ?_)
      refine CallK.po (po_callMa (ei := c.map datI) rfl rfl rfl rfl rfl (by simp) (by simp) rfl rfl (by simp [alC, hx2, datG]) (by simp) (by simp [sortUp_len]) (sortM_ok c (by omega)) ?_)
      repeat' (first | (with_reducible refine execL_step (fun K' hK' => ?_); (first | with_reducible refine s_none rfl ?_ | refine s_some2 rfl ?_); simp only [go_sem, setC, List.getElem?_map, hx2, Option.map_some, datG, List.set_cons_zero, hset]) | (with_reducible refine hK' _ ?_; clear hK' K') | with_reducible refine execL_nil ?_ | (with_reducible refine hK _ ?_; clear hK K; try simp only [go_sem, setC, List.getElem?_map, hx2, Option.map_some, datG, List.set_cons_zero, hset]) | with_reducible refine pw_seq_opsK kl36 G_ok (fun K hK => ?_) | with_reducible (first | refine pw_seq (x := .seq _ _) ?_ | refine thenA_normal ?_ | refine thenA_exit ?_ | refine thenA_ret ?_ | refine inBlockA_same ?_ | refine inBlockA_ret ?_ | refine inBlockA_normal ?_) | refine inBlockA_other (by decide) ?_ | with_reducible (first | refine pw_seq (pw_block ?_) | refine pw_seq (pw_skip (thenA_normal ?_)) | refine pw_skip ?_ | refine pw_exit ?_ | refine pw_ret ?_ | refine pw_ops G_ok (fun K hK => ?_)) | with_reducible refine pw_block ?_ | (with_reducible refine pK_mk (fun hc => ?_) (fun hc => ?_) <;> (try simp only [go_sem, setC, List.getElem?_map, hx2, Option.map_some, datG, List.set_cons_zero, hset]) <;> (try simp at hc) <;> (try (exfalso; omega))) | ((first | refine pw_seq (pw_cond rfl (fun hc => ?_) (fun hc => ?_)) | refine pw_cond rfl (fun hc => ?_) (fun hc => ?_)) <;> (try simp at hc) <;> (try (exfalso; omega))) | with_reducible refine And.intro (by first | omega | (unfold inI; omega) | exact andI_inI _) ?_)
      exact ⟨k + 1, by omega, by omega, (fits_mk [] (by simp [renL_d, bdL_d, sg, over, wipe, wl, memN, ins, rm, lk, fitFr, fit1, ren, renL, bd, bdL, app, fitHp, hget, renB, bdB, hset] <;> omega))⟩
    · obtain rfl : k = g := by omega
      have hge := gsTo_end cs
      rw [hcl, hgr] at hge
      rw [hge]
      have hrl : ((grpE l k).map datG).length = k := by rw [← hgr]; simp [hcl]
      repeat' (first | (with_reducible refine execL_step (fun K' hK' => ?_); (first | with_reducible refine s_none rfl ?_ | refine s_some2 rfl ?_); simp only [go_sem, hcl]) | (with_reducible refine hK' _ ?_; clear hK' K') | with_reducible refine execL_nil ?_ | (with_reducible refine hK _ ?_; clear hK K; try simp only [go_sem, hcl]) | with_reducible refine pw_seq_opsK kl36 G_ok (fun K hK => ?_) | with_reducible (first | refine pw_seq (x := .seq _ _) ?_ | refine thenA_normal ?_ | refine thenA_exit ?_ | refine thenA_ret ?_ | refine inBlockA_same ?_ | refine inBlockA_ret ?_ | refine inBlockA_normal ?_) | refine inBlockA_other (by decide) ?_ | with_reducible (first | refine pw_seq (pw_block ?_) | refine pw_seq (pw_skip (thenA_normal ?_)) | refine pw_skip ?_ | refine pw_exit ?_ | refine pw_ret ?_ | refine pw_ops G_ok (fun K hK => ?_)) | with_reducible refine pw_block ?_ | (with_reducible refine pK_mk (fun hc => ?_) (fun hc => ?_) <;> (try simp only [go_sem, hcl]) <;> (try simp at hc) <;> (try (exfalso; omega))) | ((first | refine pw_seq (pw_cond rfl (fun hc => ?_) (fun hc => ?_)) | refine pw_cond rfl (fun hc => ?_) (fun hc => ?_)) <;> (try simp at hc) <;> (try (exfalso; omega))) | with_reducible refine And.intro (by first | omega | (unfold inI; omega) | exact andI_inI _) ?_)
      refine retQ_ret rfl (by simp only [hrl, retL, ret1, hget, lk, List.length_map, List.length_nil, List.length_append, List.length_take, if_true, if_false, Nat.reduceEqDiff, Nat.reduceBEq, Bool.false_eq_true, Option.some.injEq]; rfl) (by simp [rowsOf, lk]) ?_; rfl
end Go.Proofs.YtkncdoodlggbcaaGreat
