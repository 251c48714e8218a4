/-
  Numbers put one by one into ascending order: plain words; the reference's l1Put, in the abstract machine.
-/
import Derived.Test.YthocihmhljmgdaaGreatDoorZTk
import Derived.Test.YthocihmhljmgdaaGreatDoorZEo
import Derived.Test.YthocihmhljmgdaaGreatDoorZEr
import Derived.Test.YthocihmhljmgdaaGreatDoorZEs
set_option linter.unusedSimpArgs false
set_option linter.unusedVariables false
set_option maxHeartbeats 2000000
set_option maxRecDepth 100000
namespace Go.Proofs.YthocihmhljmgdaaGreatDoor
open Go.RowKit

def ltI (a b : Int) : Bool := decide (a < b)
theorem ltI_tot : TotOn ltI (fun _ => True) := ⟨fun _ _ h => by simp [ltI] at h ⊢; omega, fun _ _ _ h1 h2 => by simp [ltI] at h1 h2 ⊢; omega, fun _ _ h1 h2 => by simp [ltI] at h1 h2; omega⟩
def insAll (xs : List Int) : List Int := xs.foldl (fun acc x => insO ltI x acc) []
theorem insAll_snoc (xs : List Int) (x : Int) : insAll (xs ++ [x]) = insO ltI x (insAll xs) := by unfold insAll; rw [List.foldl_append]; rfl
theorem insAll_aux : ∀ (xs acc : List Int), acc.Pairwise (fun a b => ltI a b = true) → (∀ x ∈ xs, x ∉ acc) → xs.Pairwise (· ≠ ·) → (xs.foldl (fun acc x => insO ltI x acc) acc).Pairwise (fun a b => ltI a b = true) ∧ (xs.foldl (fun acc x => insO ltI x acc) acc).Perm (acc ++ xs)
  | [], acc, h, _, _ => ⟨h, by simp⟩
  | x :: xs, acc, h, hd, hp => by
    have hp1 := List.pairwise_cons.1 hp
    have h1 := insO_sorted ltI_tot (x := x) trivial (l := acc) (fun _ _ => trivial) (fun y hy e => hd x (by simp) (e ▸ hy)) h
    have hm : ∀ y, y ∈ insO ltI x acc ↔ y = x ∨ y ∈ acc := fun y => by rw [(insO_perm ltI x acc).mem_iff, List.mem_cons]
    obtain ⟨h2, h3⟩ := insAll_aux xs (insO ltI x acc) h1 (fun y hy hy2 => by
      rcases (hm y).1 hy2 with e | e
      · exact hp1.1 y hy e.symm
      · exact hd y (List.mem_cons_of_mem _ hy) e) hp1.2
    refine ⟨h2, h3.trans ?_⟩
    have h4 : (insO ltI x acc ++ xs).Perm ((x :: acc) ++ xs) := (insO_perm ltI x acc).append_right xs
    exact h4.trans (by simpa using (List.perm_middle (a := x) (l₁ := acc) (l₂ := xs)).symm)
theorem insAll_sorted {xs : List Int} (h : xs.Pairwise (· ≠ ·)) : (insAll xs).Pairwise (fun a b => ltI a b = true) := (insAll_aux xs [] List.Pairwise.nil (by simp) h).1
theorem insAll_perm {xs : List Int} (h : xs.Pairwise (· ≠ ·)) : (insAll xs).Perm xs := by have h1 := (insAll_aux xs [] List.Pairwise.nil (by simp) h).2; rwa [List.nil_append] at h1
theorem sortUp_ins {xs : List Int} (h : xs.Pairwise (· ≠ ·)) : sortUp xs = insAll xs := by
  have hp := insAll_perm h
  refine List.Perm.eq_of_pairwise (le := fun a b : Int => a ≤ b) (fun a b _ _ h1 h2 => by omega) (sortUp_sorted xs) ((insAll_sorted h).imp fun h => by simp [ltI] at h; omega) ((sortUp_perm xs).trans hp.symm)
theorem l1Put_ok (xs : List Int) (n : Int) (hxs : xs.length ≤ 1048576) (hs : xs.Pairwise (fun a b => ltI a b = true)) (hne : n ∉ xs) : FnEq Tryz.prog 56 [.d (.lst 1 (xs.map datI)), .d (.int .i64 n)] [.row 3 1 ((insO ltI n xs).map datI)] := by
  refine fn_ok G_ok Tryz.func56 rfl rfl ?_; simp only [Tryz.ntmps56, List.length_cons, List.length_nil, Nat.reduceAdd, Nat.reduceSub, enm]
  repeat' (first | ((with_reducible first | (refine hK _ ?_; clear hK K) | refine stq fun K' hK' => ?_ | refine stc ?_); try simp only [go_sem]) | (with_reducible first | refine stp ?_ | (refine hK' _ ?_; clear hK' K') | refine kN kl56 fun K hK => ?_ | refine kO fun K hK => ?_) | (refine xS rfl fun K' hK' => ?_; simp only [go_sem]) | refine iB ?_ | (with_reducible refine pK_mk ?_ ?_ <;> (intro hc; (try simp only [go_sem]); (try simp at hc); try (exfalso; omega))) | with_reducible refine And.intro (by first | omega | (unfold inI; omega)) ?_)
  refine (fun (key : ∀ (i : Nat), i ≤ xs.length → (∀ j y, j < i → xs[j]? = some y → y < n) → (∀ y, xs[i]? = some y → n < y) → insO ltI n xs = xs.take i ++ n :: xs.drop i) => ?main) ?key
  case key =>
    intro i hi h1 h2
    refine insO_at ltI_tot trivial xs i (fun _ _ => trivial) hs hi (fun j y hj hy => ?_) (fun y h0 hy => by simp [ltI]; exact h1 _ y (by omega) hy)
    have hil : i < xs.length := by have := (List.getElem?_eq_some_iff.1 hy).1; omega
    have hz := List.getElem?_eq_getElem hil
    have h3 := h2 _ hz
    rcases Nat.eq_or_lt_of_le hj with e | e
    · subst e
      rw [hz] at hy
      cases hy
      simp [ltI]
      omega
    · have h4 := List.pairwise_iff_getElem.1 hs i j hil (List.getElem?_eq_some_iff.1 hy).1 e
      rw [(List.getElem?_eq_some_iff.1 hy).2] at h4
      simp [ltI] at h4 ⊢
      omega
  case main =>
    refine pw_loop_over [4, 5, 7, 8, 9, 10, 11, 12, 13, 14, 15, 16, 17, 18, 19, 20] (fun i : Nat => [(5, .d (.int .i64 (i : Int)))]) (fun _ => []) 0 (fun i => i ≤ xs.length ∧ ∀ j y, j < i → xs[j]? = some y → y < n) (fun i => xs.length - i) 0 ⟨by omega, fun j y h => absurd h (by omega)⟩ (fits_mk [] (by simp [renL_d, bdL_d, sg, over, wipe, wl, memN, ins, rm, lk, fitFr, fit1, ren, renL, bd, bdL, app, fitHp, hget, renB, bdB] <;> omega)) ?_
    rintro i ⟨hi, hJ⟩
    simp only [over, wipe, wl, memN, ins, rm, if_true, if_false, Nat.reduceEqDiff, Bool.false_eq_true, reduceCtorEq]
    by_cases hlt : i < xs.length
    · have hx := List.getElem?_eq_getElem hlt
      generalize xs[i] = y at hx
      have hny : y ≠ n := fun e => hne (e ▸ List.mem_of_getElem? hx)
      by_cases hyn : y < n
      · have hlt' : (i : Int) < (xs.length : Int) := by omega
        repeat' (first | ((with_reducible first | (refine hK _ ?_; clear hK K) | refine stq fun K' hK' => ?_ | refine stc ?_); try simp only [go_sem, List.getElem?_map, hx, Option.map_some, datI, hlt, hlt', hyn]) | (with_reducible first | refine stp ?_ | (refine hK' _ ?_; clear hK' K') | refine kN kl56 fun K hK => ?_ | refine kO fun K hK => ?_) | (refine xS rfl fun K' hK' => ?_; simp only [go_sem, List.getElem?_map, hx, Option.map_some, datI, hlt, hlt', hyn]) | refine iB ?_ | (with_reducible refine pK_mk ?_ ?_ <;> (intro hc; (try simp only [go_sem, List.getElem?_map, hx, Option.map_some, datI, hlt, hlt', hyn]); (try simp at hc); try (exfalso; omega))) | with_reducible refine And.intro (by first | omega | (unfold inI; omega)) ?_)
        all_goals exact ⟨i + 1, ⟨by omega, fun j z hj hz => by
          by_cases e : j = i
          · subst e; rw [hx] at hz; cases hz; exact hyn
          · exact hJ j z (by omega) hz⟩, by omega, (fits_mk [] (by simp [renL_d, bdL_d, sg, over, wipe, wl, memN, ins, rm, lk, fitFr, fit1, ren, renL, bd, bdL, app, fitHp, hget, renB, bdB] <;> omega))⟩
      · have hins := key i hi hJ fun z hz => by rw [hx] at hz; cases hz; omega
        have hlt' : (i : Int) < (xs.length : Int) := by omega
        have hin : i ≤ xs.length := hi
        have htl : (List.take i (List.map datI xs)).length = i := by simp; omega
        have htx : List.take xs.length (List.map datI xs) = List.map datI xs := List.take_of_length_le (by simp)
        have hdl : (List.drop i (List.map datI xs)).length = xs.length - i := by simp
        have hcont : List.take i (List.map datI xs) ++ [[D.int .i64 n]] ++ List.drop i (List.map datI xs) = (insO ltI n xs).map datI := by rw [hins]; simp [datI]
        have hcont2 : List.take i (List.map datI xs) ++ ([D.int .i64 n] :: List.drop i (List.map datI xs)) = (insO ltI n xs).map datI := by rw [hins]; simp [datI]
        have hil : (insO ltI n xs).length = i + 1 + (xs.length - i) := by rw [(insO_perm ltI n xs).length_eq, List.length_cons]; omega
        repeat' (first | ((with_reducible first | (refine hK _ ?_; clear hK K) | refine stq fun K' hK' => ?_ | refine stc ?_); try simp only [go_sem, List.getElem?_map, hx, Option.map_some, datI, hlt, hlt', hyn, hny, hin, htl, htx, hdl, List.length_append, List.length_cons, List.length_nil, Nat.zero_add]) | (with_reducible first | refine stp ?_ | (refine hK' _ ?_; clear hK' K') | refine kN kl56 fun K hK => ?_ | refine kO fun K hK => ?_) | (refine xS rfl fun K' hK' => ?_; simp only [go_sem, List.getElem?_map, hx, Option.map_some, datI, hlt, hlt', hyn, hny, hin, htl, htx, hdl, List.length_append, List.length_cons, List.length_nil, Nat.zero_add]) | refine iB ?_ | (with_reducible refine pK_mk ?_ ?_ <;> (intro hc; (try simp only [go_sem, List.getElem?_map, hx, Option.map_some, datI, hlt, hlt', hyn, hny, hin, htl, htx, hdl, List.length_append, List.length_cons, List.length_nil, Nat.zero_add]); (try simp at hc); try (exfalso; omega))) | with_reducible refine And.intro (by first | omega | (unfold inI; omega)) ?_)
        all_goals first
          | (exfalso; omega)
          | (refine retQ_ret rfl (by simp only [hcont, hcont2, hil, retL, ret1, hget, lk, List.length_map, List.length_nil, List.length_append, List.length_take, if_true, if_false, Nat.reduceEqDiff, Nat.reduceBEq, Bool.false_eq_true, Option.some.injEq]; rfl) (by simp [rowsOf, lk]) ?_; rfl)
          | skip
    · have hins := key i hi hJ fun z hz => by rw [List.getElem?_eq_none (by omega)] at hz; cases hz
      have hlt' : ¬ (i : Int) < (xs.length : Int) := by omega
      have hin : i ≤ xs.length := hi
      have htl : (List.take i (List.map datI xs)).length = i := by simp; omega
      have htx : List.take xs.length (List.map datI xs) = List.map datI xs := List.take_of_length_le (by simp)
      have hdl : (List.drop i (List.map datI xs)).length = xs.length - i := by simp
      have hcont : List.take i (List.map datI xs) ++ [[D.int .i64 n]] ++ List.drop i (List.map datI xs) = (insO ltI n xs).map datI := by rw [hins]; simp [datI]
      have hcont2 : List.take i (List.map datI xs) ++ ([D.int .i64 n] :: List.drop i (List.map datI xs)) = (insO ltI n xs).map datI := by rw [hins]; simp [datI]
      have hil : (insO ltI n xs).length = i + 1 + (xs.length - i) := by rw [(insO_perm ltI n xs).length_eq, List.length_cons]; omega
      repeat' (first | ((with_reducible first | (refine hK _ ?_; clear hK K) | refine stq fun K' hK' => ?_ | refine stc ?_); try simp only [go_sem, hlt, hlt', hin, htl, htx, hdl, List.length_append, List.length_cons, List.length_nil, Nat.zero_add]) | (with_reducible first | refine stp ?_ | (refine hK' _ ?_; clear hK' K') | refine kN kl56 fun K hK => ?_ | refine kO fun K hK => ?_) | (refine xS rfl fun K' hK' => ?_; simp only [go_sem, hlt, hlt', hin, htl, htx, hdl, List.length_append, List.length_cons, List.length_nil, Nat.zero_add]) | refine iB ?_ | (with_reducible refine pK_mk ?_ ?_ <;> (intro hc; (try simp only [go_sem, hlt, hlt', hin, htl, htx, hdl, List.length_append, List.length_cons, List.length_nil, Nat.zero_add]); (try simp at hc); try (exfalso; omega))) | with_reducible refine And.intro (by first | omega | (unfold inI; omega)) ?_)
      all_goals first
        | (exfalso; omega)
        | (refine retQ_ret rfl (by simp only [hcont, hcont2, hil, retL, ret1, hget, lk, List.length_map, List.length_nil, List.length_append, List.length_take, if_true, if_false, Nat.reduceEqDiff, Nat.reduceBEq, Bool.false_eq_true, Option.some.injEq]; rfl) (by simp [rowsOf, lk]) ?_; rfl)
        | skip
end Go.Proofs.YthocihmhljmgdaaGreatDoor

/-
  Groups of entrants by rank: the reference's soGroups, in the abstract machine.
-/
set_option linter.unusedSimpArgs false
set_option linter.unusedVariables false
set_option maxHeartbeats 2000000
set_option maxRecDepth 100000
namespace Go.Proofs.YthocihmhljmgdaaGreatDoor
open Go.RowKit

/-- what is left of the entrants in order -/
def vwE (id n off k : Nat) : PV := if k = 0 then .row id n else .view id 2 off (n - off)
theorem vwE_zero (id n off : Nat) : vwE id n off 0 = .row id n := rfl
theorem vwE_z {id n off k : Nat} (h : k = 0) : vwE id n off k = .row id n := by unfold vwE; rw [if_pos h]
theorem vwE_succ (id n off k : Nat) : vwE id n off (k + 1) = .view id 2 off (n - off) := by unfold vwE; rw [if_neg (by omega)]
theorem vwE_pos {id n off k : Nat} (h : 0 < k) : vwE id n off k = .view id 2 off (n - off) := by unfold vwE; rw [if_neg (by omega)]
theorem ordE_ne {l : List EntrantD} (hv : EntsOk l) : ((ordE l).map EntrantD.skater).Pairwise (· ≠ ·) := by
  have h1 := ordE_aux hv l.length (Nat.le_refl _)
  rw [List.take_length] at h1
  have h2 : (l.map EntrantD.skater).Pairwise (· ≠ ·) := by
    rw [List.pairwise_iff_getElem]
    intro i j hi hj hij
    rw [List.length_map] at hi hj
    simp only [List.getElem_map]
    exact (hv.apart (List.getElem?_eq_getElem hi) (List.getElem?_eq_getElem hj) (by omega)).1
  exact (h1.1.map EntrantD.skater).symm.pairwise h2 (fun h => Ne.symm h)
theorem soGroups_ok (l : List EntrantD) (s : Nat) (h0 : 0 < l.length) (hv : EntsOk l) (hs : 1 ≤ s) (hs8 : s ≤ 8) (hm : many l s ≤ 8) : FnEq Tryz.prog 135 [.d (.lst 2 (l.map EntrantD.dat)), .d (.int .i64 (s : Int))] [.deep 31 1 ((grpE l (many l s)).map datG), .d (.bool true)] := by
  refine fn_ok G_ok Tryz.func135 rfl rfl ?_; simp only [Tryz.ntmps135, List.length_cons, List.length_nil, Nat.reduceAdd, Nat.reduceSub, enm]
  have h40 := hv.1
  have hs0 : ¬ (s : Int) = 0 := by omega
  have hq : ((l.length : Int) + (s : Int) - 1).tdiv (s : Int) = (many l s : Int) := by
    rw [show (l.length : Int) + (s : Int) - 1 = ((l.length + s - 1 : Nat) : Int) by omega]
    rfl
  have hg0 : 0 < many l s := Nat.div_pos (by omega) (by omega)
  have hal := offZ_all (n := l.length) hg0
  have hol := ordE_len hv (Nat.le_refl l.length)
  rw [List.take_length] at hol
  have hne := ordE_ne hv
  have hsz := szsZ_len l.length (many l s) (many l s)
  have hnn := szsZ_nn (n := l.length) (g := many l s) (k := many l s)
  have hev := dwSizes_ok l.length (many l s) (by omega) hg0 (by omega)
  have hso := soSorted_ok l hv
  have hgr : (cutZ (szsZ l.length (many l s) (many l s)) ((ordE l).map EntrantD.skater) (many l s)).map sortUp = grpE l (many l s) := rfl
  generalize ordE l = o at hol hne hso hgr
  generalize szsZ l.length (many l s) (many l s) = ss at hal hsz hnn hev hgr
  generalize many l s = g at *
  have hgl : (g : Int) ≤ 8 := by omega
  have hg0' : ¬ (g : Int) = 0 := by omega
  repeat' (first | ((with_reducible first | (refine hK _ ?_; clear hK K) | refine stq fun K' hK' => ?_ | refine stc ?_); try simp only [go_sem, hq, hs0, hg0', hol, hsz, List.length_map]) | (with_reducible first | refine stp ?_ | (refine hK' _ ?_; clear hK' K') | refine kN kl135 fun K hK => ?_ | refine kO fun K hK => ?_) | ((with_reducible apply CallK.eq); (· with_reducible first | exact hso | exact hev); (· simp [RV.flat, D.sc, datI]); try simp only [go_sem, hq, hs0, hg0', hol, hsz, List.length_map]) | refine iB ?_ | (with_reducible refine pK_mk ?_ ?_ <;> (intro hc; (try simp only [go_sem, hq, hs0, hg0', hol, hsz, List.length_map]); (try simp at hc); try (exfalso; omega))) | with_reducible refine And.intro (by first | omega | (unfold inI; omega)) ?_)
  all_goals first
    | (exfalso; omega)
    | skip
  refine pw_loop_over [4, 5, 7, 8, 10, 11, 13, 32, 33, 34, 35, 36, 37, 38, 39, 40, 41, 42, 43, 44, 45, 46, 47, 48, 49, 50, 51, 52, 53, 54, 55, 56] (fun k : Nat => [(32, .d (.int .i64 (k : Int))), (8, .row 2 k), (7, vwE 1 l.length (offZ ss k) k), (30, .row 3 g)]) (fun k : Nat => [(3, .row 3 1 (ss.map datI)), (2, ownG ((cutZ ss (o.map EntrantD.skater) k).map sortUp) k), (1, .row 53 2 (o.map EntrantD.dat))]) 4 (fun k : Nat => k ≤ g) (fun k : Nat => g - k) 0 (Nat.zero_le _) (fits_mk [] (by simp [renL_d, bdL_d, sg, over, wipe, wl, memN, ins, rm, lk, fitFr, fit1, ren, renL, bd, bdL, app, fitHp, hget, renB, bdB, ownG_zero, vwE_zero] <;> omega)) ?_
  intro k hk
  have hcl := cutZ_len ss (o.map EntrantD.skater) k
  have hof := offZ_le ss k
  have hof1 := offZ_le ss (k + 1)
  rw [hsz, hal] at hof hof1
  simp only [over, wipe, wl, memN, ins, rm, if_true, if_false, Nat.reduceEqDiff, Bool.false_eq_true, reduceCtorEq]
  by_cases hlt : k < g
  · have hzx : ∃ z, ss[k]? = some z := ⟨_, List.getElem?_eq_getElem (by omega)⟩
    obtain ⟨z, hz⟩ := hzx
    have hz0 := hnn z (List.mem_of_getElem? hz)
    obtain ⟨zn, rfl⟩ : ∃ zn : Nat, z = (zn : Int) := ⟨z.toNat, by omega⟩
    have hoS := offZ_succ hz
    simp only [Int.toNat_natCast] at hoS
    have hcs := cutZ_succ (xs := o.map EntrantD.skater) hz
    simp only [Int.toNat_natCast] at hcs
    have hcs2 : (cutZ ss (o.map EntrantD.skater) (k + 1)).map sortUp = (cutZ ss (o.map EntrantD.skater) k).map sortUp ++ [sortUp (((o.map EntrantD.skater).drop (offZ ss k)).take zn)] := by rw [hcs, List.map_append]; rfl
    have hdne : ((o.map EntrantD.skater).drop (offZ ss k)).Pairwise (· ≠ ·) := hne.sublist (List.drop_sublist _ _)
    have hskl : ((o.map EntrantD.skater).drop (offZ ss k)).length = l.length - offZ ss k := by rw [List.length_drop, List.length_map, hol]
    have hgt : ∀ j, j < zn → ∃ x, o[offZ ss k + j]? = some x ∧ ((o.map EntrantD.skater).drop (offZ ss k))[j]? = some x.skater := fun j hj => by
      have h1 := List.getElem?_eq_getElem (show offZ ss k + j < o.length by omega)
      exact ⟨_, h1, by rw [List.getElem?_drop, List.getElem?_map, h1]; rfl⟩
    have hpl : ((cutZ ss (o.map EntrantD.skater) k).map sortUp).length = k := by simp [hcl]
    generalize hsd : (o.map EntrantD.skater).drop (offZ ss k) = sd at hcs2 hdne hskl hgt
    have hins : insAll (sd.take zn) = sortUp (sd.take zn) := (sortUp_ins (hdne.sublist (List.take_sublist _ _))).symm
    have hsul : (sortUp (sd.take zn)).length ≤ 40 := by rw [sortUp_len, List.length_take]; omega
    have hdt : datG (sortUp (sd.take zn)) = [.lst 1 ((sortUp (sd.take zn)).map datI)] := rfl
    generalize hpre : (cutZ ss (o.map EntrantD.skater) k).map sortUp = pre at hcs2 hpl
    by_cases hk0 : k = 0
    · have ho0 : offZ ss k = 0 := by rw [hk0]; rfl
      have hp0 : pre = [] := List.eq_nil_of_length_eq_zero (by omega)
      rw [ownG_z hk0, vwE_z hk0]
      rw [ho0] at hoS hgt hskl
      rw [hp0, List.nil_append] at hcs2
      simp only [Nat.zero_add, Nat.sub_zero] at hoS hgt hskl
      have hv1 : zn = offZ ss (k + 1) := hoS.symm
      have hv2 : l.length - zn = l.length - offZ ss (k + 1) := by omega
      have hzl : zn ≤ l.length := by omega
      have hzl2 : (zn : Int) ≤ ((l.length : Nat) : Int) := by omega
      repeat' (first | ((with_reducible first | (refine hK _ ?_; clear hK K) | refine stq fun K' hK' => ?_ | refine stc ?_); try simp only [go_sem, hsz, hlt, List.getElem?_map, hz, Option.map_some, datI, Int.toNat_natCast, Int.toNat_zero, Nat.sub_zero, Nat.add_zero, hzl2]) | (with_reducible first | refine stp ?_ | (refine hK' _ ?_; clear hK' K') | refine kN kl135 fun K hK => ?_ | refine kO fun K hK => ?_) | refine iB ?_ | (with_reducible refine pK_mk ?_ ?_ <;> (intro hc; (try simp only [go_sem, hsz, hlt, List.getElem?_map, hz, Option.map_some, datI, Int.toNat_natCast, Int.toNat_zero, Nat.sub_zero, Nat.add_zero, hzl2]); (try simp at hc); try (exfalso; omega))) | with_reducible refine And.intro (by first | omega | (unfold inI; omega)) ?_)
      refine pw_loop_over [4, 5, 11, 13, 40, 41, 42, 43, 44, 45, 46, 47, 48] (fun j : Nat => [(40, .d (.int .i64 (j : Int))), (11, .row 4 (insAll (sd.take j)).length), (38, .view 1 2 0 zn)]) (fun j => [(4, .row 3 1 ((insAll (sd.take j)).map datI)), (3, .row 3 1 (ss.map datI)), (2, .row 31 1 []), (1, .row 53 2 (o.map EntrantD.dat))]) 5 (fun j => j ≤ zn) (fun j => zn - j) 0 (by omega) (fits_mk [] (by simp [renL_d, bdL_d, sg, over, wipe, wl, memN, ins, rm, lk, fitFr, fit1, ren, renL, bd, bdL, app, fitHp, hget, renB, bdB, insAll, List.take_zero, List.foldl_nil] <;> omega)) ?_
      intro j hj
      have hw1 : (sd.take j).Pairwise (· ≠ ·) := hdne.sublist (List.take_sublist _ _)
      have hw2 := insAll_sorted hw1
      have hw3 := insAll_perm hw1
      have hw4 : (sd.take j).length ≤ 40 := by rw [List.length_take]; omega
      have hw5 := hw3.length_eq
      simp only [over, wipe, wl, memN, ins, rm, if_true, if_false, Nat.reduceEqDiff, Bool.false_eq_true, reduceCtorEq]
      by_cases hlj : j < zn
      · obtain ⟨x, hx, hsx⟩ := hgt j hlj
        have e0 := take_snoc hsx
        have e1 : insAll (sd.take (j + 1)) = insO ltI x.skater (insAll (sd.take j)) := by rw [e0, insAll_snoc]
        have hw6 : (sd.take (j + 1)).Pairwise (· ≠ ·) := hdne.sublist (List.take_sublist _ _)
        rw [e0] at hw6
        have hni : x.skater ∉ insAll (sd.take j) := fun hm => (List.pairwise_append.1 hw6).2.2 _ (hw3.mem_iff.1 hm) _ (by simp) rfl
        generalize insAll (sd.take j) = acc at hw2 hw3 hw5 hni e1
        repeat' (first | ((with_reducible first | (refine hK _ ?_; clear hK K) | refine stq fun K' hK' => ?_ | refine stc ?_); try simp only [go_sem, hlj, Nat.zero_add, List.length_map, List.getElem?_map, hx, Option.map_some, datI, EntrantD.dat]) | (with_reducible first | refine stp ?_ | (refine hK' _ ?_; clear hK' K') | refine kN kl135 fun K hK => ?_ | refine kO fun K hK => ?_) | ((with_reducible apply CallK.eq); (· with_reducible first | exact l1Put_ok acc x.skater (by omega) hw2 hni); (· simp [RV.flat, D.sc, datI]); try simp only [go_sem, hlj, Nat.zero_add, List.length_map, List.getElem?_map, hx, Option.map_some, datI, EntrantD.dat]) | refine iB ?_ | (with_reducible refine pK_mk ?_ ?_ <;> (intro hc; (try simp only [go_sem, hlj, Nat.zero_add, List.length_map, List.getElem?_map, hx, Option.map_some, datI, EntrantD.dat]); (try simp at hc); try (exfalso; omega))) | with_reducible refine And.intro (by first | omega | (unfold inI; omega)) ?_)
        all_goals first
          | (exfalso; omega)
          | exact ⟨j + 1, by omega, by omega, (fits_mk [] (by simp [renL_d, bdL_d, sg, over, wipe, wl, memN, ins, rm, lk, fitFr, fit1, ren, renL, bd, bdL, app, fitHp, hget, renB, bdB, e1, List.length_map] <;> omega))⟩
      · obtain rfl : j = zn := by omega
        rw [hins] at hw5 ⊢
        repeat' (first | ((with_reducible first | (refine hK _ ?_; clear hK K) | refine stq fun K' hK' => ?_ | refine stc ?_); try simp only [go_sem, Int.toNat_natCast]) | (with_reducible first | refine stp ?_ | (refine hK' _ ?_; clear hK' K') | refine kN kl135 fun K hK => ?_ | refine kO fun K hK => ?_) | refine iB ?_ | (with_reducible refine pK_mk ?_ ?_ <;> (intro hc; (try simp only [go_sem, Int.toNat_natCast]); (try simp at hc); try (exfalso; omega))) | with_reducible refine And.intro (by first | omega | (unfold inI; omega)) ?_)
        refine po_buildSlice_deep (cs := [.row 4 (sortUp (sd.take j)).length]) (ds := datG (sortUp (sd.take j))) rfl (G_ok _ _ G110) (by decide) rfl (by rw [hdt]; simp [ownL, ownC, hget, D.scB]) (by simp [rowIds]) (by simp only [flatL, flatC, Go.Proofs.YthocihmhljmgdaaGreatDoor.hget, if_true, if_false, Nat.reduceEqDiff]; exact ⟨flatE_datI _, trivial⟩) ?_
        repeat' (first | ((with_reducible first | (refine hK _ ?_; clear hK K) | refine stq fun K' hK' => ?_ | refine stc ?_); try simp only [go_sem, hdt]) | (with_reducible first | refine stp ?_ | (refine hK' _ ?_; clear hK' K') | refine kN kl135 fun K hK => ?_ | refine kO fun K hK => ?_) | refine iB ?_ | (with_reducible refine pK_mk ?_ ?_ <;> (intro hc; (try simp only [go_sem, hdt]); (try simp at hc); try (exfalso; omega))) | with_reducible refine And.intro (by first | omega | (unfold inI; omega)) ?_)
        refine po_append_deep (es := []) (fs := [datG (sortUp (sd.take j))]) (n := k) (n2 := 1) rfl (G_ok _ _ G110) rfl rfl rfl rfl (by decide) (by simp; omega) rfl (by intro e he; simp at he) (by exact True.intro) (by simp <;> omega) ?_
        repeat' (first | ((with_reducible first | (refine hK _ ?_; clear hK K) | refine stq fun K' hK' => ?_ | refine stc ?_); try simp only [go_sem, hdt, Int.toNat_natCast, hzl2, hzl, List.length_map]) | (with_reducible first | refine stp ?_ | (refine hK' _ ?_; clear hK' K') | refine kN kl135 fun K hK => ?_ | refine kO fun K hK => ?_) | refine iB ?_ | (with_reducible refine pK_mk ?_ ?_ <;> (intro hc; (try simp only [go_sem, hdt, Int.toNat_natCast, hzl2, hzl, List.length_map]); (try simp at hc); try (exfalso; omega))) | with_reducible refine And.intro (by first | omega | (unfold inI; omega)) ?_)
        all_goals first
          | (exfalso; omega)
          | exact ⟨k + 1, by omega, by omega, (fits_mk [] (by simp [renL_d, bdL_d, sg, over, wipe, wl, memN, ins, rm, lk, fitFr, fit1, ren, renL, bd, bdL, app, fitHp, hget, renB, bdB, hcs2, datG, hv1, hv2, vwE_succ, ownG_pos (Nat.succ_pos k)] <;> omega))⟩
    · have hkp : 0 < k := by omega
      rw [ownG_pos hkp, vwE_pos hkp]
      have hv1 : offZ ss k + zn = offZ ss (k + 1) := hoS.symm
      have hv2 : l.length - offZ ss k - zn = l.length - offZ ss (k + 1) := by omega
      have hzl : zn ≤ l.length - offZ ss k := by omega
      have hzl2 : (zn : Int) ≤ ((l.length - offZ ss k : Nat) : Int) := by omega
      repeat' (first | ((with_reducible first | (refine hK _ ?_; clear hK K) | refine stq fun K' hK' => ?_ | refine stc ?_); try simp only [go_sem, hsz, hlt, List.getElem?_map, hz, Option.map_some, datI, Int.toNat_natCast, Int.toNat_zero, Nat.sub_zero, Nat.add_zero, hzl2]) | (with_reducible first | refine stp ?_ | (refine hK' _ ?_; clear hK' K') | refine kN kl135 fun K hK => ?_ | refine kO fun K hK => ?_) | refine iB ?_ | (with_reducible refine pK_mk ?_ ?_ <;> (intro hc; (try simp only [go_sem, hsz, hlt, List.getElem?_map, hz, Option.map_some, datI, Int.toNat_natCast, Int.toNat_zero, Nat.sub_zero, Nat.add_zero, hzl2]); (try simp at hc); try (exfalso; omega))) | with_reducible refine And.intro (by first | omega | (unfold inI; omega)) ?_)
      refine pw_loop_over [4, 5, 11, 13, 40, 41, 42, 43, 44, 45, 46, 47, 48] (fun j : Nat => [(40, .d (.int .i64 (j : Int))), (11, .row 4 (insAll (sd.take j)).length), (38, .view 1 2 (offZ ss k) zn)]) (fun j => [(4, .row 3 1 ((insAll (sd.take j)).map datI)), (3, .row 3 1 (ss.map datI)), (2, .deep 0 31 1 (pre.map datG)), (1, .row 53 2 (o.map EntrantD.dat))]) 5 (fun j => j ≤ zn) (fun j => zn - j) 0 (by omega) (fits_mk [] (by simp [renL_d, bdL_d, sg, over, wipe, wl, memN, ins, rm, lk, fitFr, fit1, ren, renL, bd, bdL, app, fitHp, hget, renB, bdB, insAll, List.take_zero, List.foldl_nil] <;> omega)) ?_
      intro j hj
      have hw1 : (sd.take j).Pairwise (· ≠ ·) := hdne.sublist (List.take_sublist _ _)
      have hw2 := insAll_sorted hw1
      have hw3 := insAll_perm hw1
      have hw4 : (sd.take j).length ≤ 40 := by rw [List.length_take]; omega
      have hw5 := hw3.length_eq
      simp only [over, wipe, wl, memN, ins, rm, if_true, if_false, Nat.reduceEqDiff, Bool.false_eq_true, reduceCtorEq]
      by_cases hlj : j < zn
      · obtain ⟨x, hx, hsx⟩ := hgt j hlj
        have e0 := take_snoc hsx
        have e1 : insAll (sd.take (j + 1)) = insO ltI x.skater (insAll (sd.take j)) := by rw [e0, insAll_snoc]
        have hw6 : (sd.take (j + 1)).Pairwise (· ≠ ·) := hdne.sublist (List.take_sublist _ _)
        rw [e0] at hw6
        have hni : x.skater ∉ insAll (sd.take j) := fun hm => (List.pairwise_append.1 hw6).2.2 _ (hw3.mem_iff.1 hm) _ (by simp) rfl
        generalize insAll (sd.take j) = acc at hw2 hw3 hw5 hni e1
        repeat' (first | ((with_reducible first | (refine hK _ ?_; clear hK K) | refine stq fun K' hK' => ?_ | refine stc ?_); try simp only [go_sem, hlj, Nat.zero_add, List.length_map, List.getElem?_map, hx, Option.map_some, datI, EntrantD.dat]) | (with_reducible first | refine stp ?_ | (refine hK' _ ?_; clear hK' K') | refine kN kl135 fun K hK => ?_ | refine kO fun K hK => ?_) | ((with_reducible apply CallK.eq); (· with_reducible first | exact l1Put_ok acc x.skater (by omega) hw2 hni); (· simp [RV.flat, D.sc, datI]); try simp only [go_sem, hlj, Nat.zero_add, List.length_map, List.getElem?_map, hx, Option.map_some, datI, EntrantD.dat]) | refine iB ?_ | (with_reducible refine pK_mk ?_ ?_ <;> (intro hc; (try simp only [go_sem, hlj, Nat.zero_add, List.length_map, List.getElem?_map, hx, Option.map_some, datI, EntrantD.dat]); (try simp at hc); try (exfalso; omega))) | with_reducible refine And.intro (by first | omega | (unfold inI; omega)) ?_)
        all_goals first
          | (exfalso; omega)
          | exact ⟨j + 1, by omega, by omega, (fits_mk [] (by simp [renL_d, bdL_d, sg, over, wipe, wl, memN, ins, rm, lk, fitFr, fit1, ren, renL, bd, bdL, app, fitHp, hget, renB, bdB, e1, List.length_map] <;> omega))⟩
      · obtain rfl : j = zn := by omega
        rw [hins] at hw5 ⊢
        repeat' (first | ((with_reducible first | (refine hK _ ?_; clear hK K) | refine stq fun K' hK' => ?_ | refine stc ?_); try simp only [go_sem, Int.toNat_natCast]) | (with_reducible first | refine stp ?_ | (refine hK' _ ?_; clear hK' K') | refine kN kl135 fun K hK => ?_ | refine kO fun K hK => ?_) | refine iB ?_ | (with_reducible refine pK_mk ?_ ?_ <;> (intro hc; (try simp only [go_sem, Int.toNat_natCast]); (try simp at hc); try (exfalso; omega))) | with_reducible refine And.intro (by first | omega | (unfold inI; omega)) ?_)
        refine po_buildSlice_deep (cs := [.row 4 (sortUp (sd.take j)).length]) (ds := datG (sortUp (sd.take j))) rfl (G_ok _ _ G110) (by decide) rfl (by rw [hdt]; simp [ownL, ownC, hget, D.scB]) (by simp [rowIds]) (by simp only [flatL, flatC, Go.Proofs.YthocihmhljmgdaaGreatDoor.hget, if_true, if_false, Nat.reduceEqDiff]; exact ⟨flatE_datI _, trivial⟩) ?_
        repeat' (first | ((with_reducible first | (refine hK _ ?_; clear hK K) | refine stq fun K' hK' => ?_ | refine stc ?_); try simp only [go_sem, hdt]) | (with_reducible first | refine stp ?_ | (refine hK' _ ?_; clear hK' K') | refine kN kl135 fun K hK => ?_ | refine kO fun K hK => ?_) | refine iB ?_ | (with_reducible refine pK_mk ?_ ?_ <;> (intro hc; (try simp only [go_sem, hdt]); (try simp at hc); try (exfalso; omega))) | with_reducible refine And.intro (by first | omega | (unfold inI; omega)) ?_)
        refine po_append_deep (es := pre.map datG) (fs := [datG (sortUp (sd.take j))]) (n := k) (n2 := 1) rfl (G_ok _ _ G110) rfl rfl rfl rfl (by decide) (by simp; omega) rfl (by exact True.intro) (by exact True.intro) (by simp <;> omega) ?_
        repeat' (first | ((with_reducible first | (refine hK _ ?_; clear hK K) | refine stq fun K' hK' => ?_ | refine stc ?_); try simp only [go_sem, hdt, Int.toNat_natCast, hzl2, hzl, List.length_map]) | (with_reducible first | refine stp ?_ | (refine hK' _ ?_; clear hK' K') | refine kN kl135 fun K hK => ?_ | refine kO fun K hK => ?_) | refine iB ?_ | (with_reducible refine pK_mk ?_ ?_ <;> (intro hc; (try simp only [go_sem, hdt, Int.toNat_natCast, hzl2, hzl, List.length_map]); (try simp at hc); try (exfalso; omega))) | with_reducible refine And.intro (by first | omega | (unfold inI; omega)) ?_)
        all_goals first
          | (exfalso; omega)
          | exact ⟨k + 1, by omega, by omega, (fits_mk [] (by simp [renL_d, bdL_d, sg, over, wipe, wl, memN, ins, rm, lk, fitFr, fit1, ren, renL, bd, bdL, app, fitHp, hget, renB, bdB, hcs2, hdt, hv1, hv2, vwE_succ, ownG_pos (Nat.succ_pos k)] <;> omega))⟩
  · obtain rfl : k = g := by omega
    rw [ownG_pos hg0, hgr, vwE_pos hg0]
    have hrl : ((grpE l k).map datG).length = k := by rw [← hgr]; simp [hcl]
    repeat' (first | ((with_reducible first | (refine hK _ ?_; clear hK K) | refine stq fun K' hK' => ?_ | refine stc ?_); try simp only [go_sem, hsz]) | (with_reducible first | refine stp ?_ | (refine hK' _ ?_; clear hK' K') | refine kN kl135 fun K hK => ?_ | refine kO fun K hK => ?_) | refine iB ?_ | (with_reducible refine pK_mk ?_ ?_ <;> (intro hc; (try simp only [go_sem, hsz]); (try simp at hc); try (exfalso; omega))) | with_reducible refine And.intro (by first | omega | (unfold inI; omega)) ?_)
    refine retQ_ret rfl (by simp only [hrl, retL, ret1, hget, lk, List.length_map, List.length_nil, List.length_append, List.length_take, if_true, if_false, Nat.reduceEqDiff, Nat.reduceBEq, Bool.false_eq_true, Option.some.injEq]; rfl) (by simp [rowsOf, lk]) ?_; rfl
end Go.Proofs.YthocihmhljmgdaaGreatDoor

/-
  Lists of lists of numbers: what the laws' helpers give (eqIntSS, markIntSS, heldIntSS), in the abstract machine.
-/
set_option linter.unusedSimpArgs false
set_option linter.unusedVariables false
set_option maxHeartbeats 2000000
set_option maxRecDepth 100000
namespace Go.Proofs.YthocihmhljmgdaaGreatDoor
open Go.RowKit

def cntG (l : List (List Int)) : Nat := (l.map List.length).sum
end Go.Proofs.YthocihmhljmgdaaGreatDoor
namespace Go.Proofs.YthocihmhljmgdaaGreatDoor
open Go.RowKit Go.Sort

theorem perm_of_in : ∀ {s c : List Int}, s.Pairwise (· ≠ ·) → s.length = c.length → (∀ n ∈ s, n ∈ c) → s.Perm c
  | [], c, _, hl, _ => by rw [List.eq_nil_of_length_eq_zero (l := c) (by simpa using hl.symm)]
  | x :: s, c, hp, hl, hm => by
    have hx := hm x (by simp)
    have h1 := List.perm_cons_erase hx
    have hp1 := List.pairwise_cons.1 hp
    refine (List.Perm.cons x (perm_of_in hp1.2 ?_ fun n hn => ?_)).trans h1.symm
    · have h2 := h1.length_eq
      simp only [List.length_cons] at hl h2
      omega
    · exact (List.mem_erase_of_ne (fun e => hp1.1 n hn e.symm)).2 (hm n (List.mem_cons_of_mem _ hn))
theorem sort_same {s c : List Int} (hp : s.Pairwise (· ≠ ·)) (hl : s.length = c.length) (hc : c.Pairwise (· ≤ ·)) : bP (sortUp s = c) = bP (∀ n ∈ s, n ∈ c) := by
  by_cases h : ∀ n ∈ s, n ∈ c
  · rw [bP_true h, bP_true]
    exact List.Perm.eq_of_pairwise (le := fun a b : Int => a ≤ b) (fun a b _ _ h1 h2 => by omega) (sortUp_sorted s) hc ((sortUp_perm s).trans (perm_of_in hp hl h))
  · rw [bP_false h, bP_false]
    rintro rfl
    exact h fun n hn => (sortUp_perm s).mem_iff.2 hn
def offG (gs : List (List Int)) (k : Nat) : Nat := cntG (gs.take k)
def FitAt (gs : List (List Int)) (o : List Int) (j : Nat) (c : List Int) : Prop := c.length ≤ (o.drop (offG gs j)).length ∧ ∀ n ∈ (o.drop (offG gs j)).take c.length, n ∈ c
def FitOk (gs : List (List Int)) (o : List Int) : Prop := Upto (FitAt gs o) gs gs.length ∧ o.drop (offG gs gs.length) = []
theorem FitOk.not_at {gs : List (List Int)} {o : List Int} {k : Nat} {c : List Int} (hx : gs[k]? = some c) (hf : ¬ FitAt gs o k c) : ¬ FitOk gs o :=
  fun h => hf (h.1 k c (List.getElem?_eq_some_iff.1 hx).1 hx)
theorem sortedIntsD_ok (l : List Int) (hn : l.length ≤ 1048576) : FnEq Tryz.prog 89 [.d (.lst 1 (l.map datI))] [.row 3 1 ((sortUp l).map datI)] := by
  refine fn_ok G_ok Tryz.func89 rfl rfl ?_; simp only [Tryz.ntmps89, List.length_cons, List.length_nil, Nat.reduceAdd, Nat.reduceSub, enm]
  have hsl := sortUp_len l
  repeat' (first | ((with_reducible first | (refine hK _ ?_; clear hK K) | refine stq fun K' hK' => ?_ | refine stc ?_); try simp only [go_sem]) | (with_reducible first | refine stp ?_ | (refine hK' _ ?_; clear hK' K') | refine kN kl89 fun K hK => ?_ | refine kO fun K hK => ?_) | ((with_reducible apply CallK.eq); (· with_reducible first | exact copyInts_ok l hn); (· simp [RV.flat, D.sc, datI]); try simp only [go_sem]) | (with_reducible refine pK_mk ?_ ?_ <;> (intro hc; (try simp only [go_sem]); (try simp at hc); try (exfalso; omega))) | with_reducible refine And.intro (by first | omega | (unfold inI; omega)) ?_)
  refine CallK.po (po_callMr rfl rfl rfl rfl rfl (by simp [D.sc]) (by simp [D.sc]) rfl (by simp [hsl]) (flatE_datI _) (flatE_datI _) (sortM_ok l (by omega)) ?_)
  repeat' (first | ((with_reducible first | (refine hK _ ?_; clear hK K) | refine stq fun K' hK' => ?_ | refine stc ?_); try simp only [go_sem, List.length_map]) | (with_reducible first | refine stp ?_ | (refine hK' _ ?_; clear hK' K') | refine kN kl89 fun K hK => ?_ | refine kO fun K hK => ?_) | (with_reducible refine pK_mk ?_ ?_ <;> (intro hc; (try simp only [go_sem, List.length_map]); (try simp at hc); try (exfalso; omega))) | with_reducible refine And.intro (by first | omega | (unfold inI; omega)) ?_)
  refine retQ_ret rfl (by simp only [hsl, retL, ret1, hget, lk, List.length_map, List.length_nil, List.length_append, List.length_take, if_true, if_false, Nat.reduceEqDiff, Nat.reduceBEq, Bool.false_eq_true, Option.some.injEq]; rfl) (by simp [rowsOf, lk]) ?_; rfl
theorem equalD_ok (xs ys : List Int) (hn : xs.length ≤ 1048576) (hn' : ys.length ≤ 9223372036854775807) : FnEq Tryz.prog 88 [.d (.lst 1 (xs.map datI)), .d (.lst 1 (ys.map datI))] [.d (.bool (bP (xs = ys)))] := by
  refine fn_ok G_ok Tryz.func88 rfl rfl ?_; simp only [Tryz.ntmps88, List.length_cons, List.length_nil, Nat.reduceAdd, Nat.reduceSub, enm]
  repeat' (first | ((with_reducible first | (refine hK _ ?_; clear hK K) | refine stq fun K' hK' => ?_ | refine stc ?_); try simp only [go_sem]) | (with_reducible first | refine stp ?_ | (refine hK' _ ?_; clear hK' K') | refine kN kl88 fun K hK => ?_ | refine kO fun K hK => ?_) | refine iB ?_ | (with_reducible refine pw_seq_drawK kl88 G_ok mixed (by kernel_rfl) (fun K hK => ?_)) | (with_reducible refine pw_draw G_ok mixed (by kernel_rfl) ?_) | (with_reducible refine pK_mk ?_ ?_ <;> (intro hc; (try simp only [go_sem]); (try simp at hc); try (exfalso; omega))) | with_reducible refine And.intro (by first | omega | (unfold inI; omega)) ?_)
  · refine retQ_ret rfl rfl (by simp [rowsOf, lk]) ?_; rw [bP_false fun h => absurd (congrArg List.length h) (by omega)]
  · refine pw_loop_over [4, 5, 13, 14, 15, 16, 17, 18, 19, 20, 21, 22, 23, 24, 25] (fun k : Nat => [(13, .d (.int .i64 (k : Int)))]) (fun k : Nat => []) 0 (fun k : Nat => k ≤ xs.length ∧ xs.take k = ys.take k) (fun k : Nat => xs.length - k) 0 ⟨Nat.zero_le _, by simp⟩ (fits_mk [] (by simp [renL_d, bdL_d, sg, over, wipe, wl, memN, ins, rm, lk, fitFr, fit1, ren, renL, bd, bdL, app, fitHp, hget, renB, bdB] <;> omega)) ?_
    rintro k ⟨hk, hJ⟩
    simp only [over, wipe, wl, memN, ins, rm, if_true, if_false, Nat.reduceEqDiff, Bool.false_eq_true, reduceCtorEq]
    by_cases hlt : k < xs.length
    · have hx := List.getElem?_eq_getElem hlt
      generalize xs[k] = x at hx
      have hy := List.getElem?_eq_getElem (show k < ys.length by omega)
      generalize ys[k] = y at hy
      repeat' (first | ((with_reducible first | (refine hK _ ?_; clear hK K) | refine stq fun K' hK' => ?_ | refine stc ?_); try simp only [go_sem, List.getElem?_map, hx, hy, Option.map_some, datI]) | (with_reducible first | refine stp ?_ | (refine hK' _ ?_; clear hK' K') | refine kN kl88 fun K hK => ?_ | refine kO fun K hK => ?_) | refine iB ?_ | (with_reducible refine pw_seq_drawK kl88 G_ok mixed (by kernel_rfl) (fun K hK => ?_)) | (with_reducible refine pw_draw G_ok mixed (by kernel_rfl) ?_) | (with_reducible refine pK_mk ?_ ?_ <;> (intro hc; (try simp only [go_sem, List.getElem?_map, hx, hy, Option.map_some, datI]); (try simp at hc); try (exfalso; omega))) | with_reducible refine And.intro (by first | omega | (unfold inI; omega)) ?_)
      · refine retQ_ret rfl rfl (by simp [rowsOf, lk]) ?_; rw [bP_false fun h => by rw [h, hy] at hx; exact absurd (Option.some.inj hx).symm (by assumption)]
      · exact ⟨k + 1, ⟨by omega, by rw [take_snoc hx, take_snoc hy, hJ, hc]⟩, by omega, (fits_mk [] (by simp [renL_d, bdL_d, sg, over, wipe, wl, memN, ins, rm, lk, fitFr, fit1, ren, renL, bd, bdL, app, fitHp, hget, renB, bdB] <;> omega))⟩
    · repeat' (first | ((with_reducible first | (refine hK _ ?_; clear hK K) | refine stq fun K' hK' => ?_ | refine stc ?_); try simp only [go_sem]) | (with_reducible first | refine stp ?_ | (refine hK' _ ?_; clear hK' K') | refine kN kl88 fun K hK => ?_ | refine kO fun K hK => ?_) | refine iB ?_ | (with_reducible refine pw_seq_drawK kl88 G_ok mixed (by kernel_rfl) (fun K hK => ?_)) | (with_reducible refine pw_draw G_ok mixed (by kernel_rfl) ?_) | (with_reducible refine pK_mk ?_ ?_ <;> (intro hc; (try simp only [go_sem]); (try simp at hc); try (exfalso; omega))) | with_reducible refine And.intro (by first | omega | (unfold inI; omega)) ?_)
      refine retQ_ret rfl rfl (by simp [rowsOf, lk]) ?_; rw [bP_true (by rwa [List.take_of_length_le (by omega), List.take_of_length_le (by omega)] at hJ)]
end Go.Proofs.YthocihmhljmgdaaGreatDoor
