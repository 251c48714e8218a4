/-
  Entrants: the reference's test; comparisons, in the abstract machine.
-/
import Derived.Test.YthocihmhljmgdaaGreatDoorZEo
import Derived.Test.YthocihmhljmgdaaGreatDoorShelf
import Derived.Test.YthocihmhljmgdaaGreatDoorZOrd
import Derived.Lib.OwnBridge
import Derived.Sort.OwnSortedInts
import Derived.Test.YthocihmhljmgdaaGreatDoorZG
set_option linter.unusedSimpArgs false
set_option linter.unusedVariables false
set_option maxHeartbeats 2000000
set_option maxRecDepth 100000
namespace Go.Proofs.YthocihmhljmgdaaGreatDoor
open Go.RowKit

noncomputable def skE (l : List EntrantD) (n : Int) : Bool := bP (n ∈ l.map EntrantD.skater)
noncomputable def rkE (l : List EntrantD) (n : Int) : Bool := bP (n ∈ l.map EntrantD.rank)
theorem skE_iff {l : List EntrantD} {n : Int} : skE l n = true ↔ ∃ y ∈ l, y.skater = n := by unfold skE; rw [bP_iff, List.mem_map]
theorem rkE_iff {l : List EntrantD} {n : Int} : rkE l n = true ↔ ∃ y ∈ l, y.rank = n := by unfold rkE; rw [bP_iff, List.mem_map]
theorem skE_no {l : List EntrantD} {n : Int} (h : skE l n = false) : ∀ y ∈ l, y.skater ≠ n := fun y hy e => by rw [skE_iff.2 ⟨y, hy, e⟩] at h; cases h
theorem rkE_no {l : List EntrantD} {n : Int} (h : rkE l n = false) : ∀ y ∈ l, y.rank ≠ n := fun y hy e => by rw [rkE_iff.2 ⟨y, hy, e⟩] at h; cases h
theorem l1HasSkE_ok (l : List EntrantD) (n : Int) (hn : (l.map EntrantD.skater).length ≤ 16777216) : FnEq Tryz.prog 97 [.d (.lst 1 ((l.map EntrantD.skater).map datI)), .d (.int .i64 n)] [.d (.bool (skE l n))] := l1Has_ok _ n hn
theorem l1HasRkE_ok (l : List EntrantD) (n : Int) (hn : (l.map EntrantD.rank).length ≤ 16777216) : FnEq Tryz.prog 97 [.d (.lst 1 ((l.map EntrantD.rank).map datI)), .d (.int .i64 n)] [.d (.bool (rkE l n))] := l1Has_ok _ n hn
theorem soEntrants_ok (l : List EntrantD) (hn : l.length ≤ 1048576) : FnEq Tryz.prog 90 [.d (.lst 2 (l.map EntrantD.dat))] [.d (.bool (bP (EntsOk l)))] := by
  refine fn_ok G_ok Tryz.func90 rfl rfl ?_; simp only [Tryz.ntmps90, List.length_cons, List.length_nil, Nat.reduceAdd, Nat.reduceSub, enm]
  repeat' (first | ((with_reducible first | (refine hK _ ?_; clear hK K) | refine stq fun K' hK' => ?_ | refine stc ?_); try simp only [go_sem]) | (with_reducible first | refine stp ?_ | (refine hK' _ ?_; clear hK' K') | refine kN kl90 fun K hK => ?_ | refine kO fun K hK => ?_) | (refine xS rfl fun K' hK' => ?_; simp only [go_sem]) | refine iB ?_ | (with_reducible refine pK_mk ?_ ?_ <;> (intro hc; (try simp only [go_sem]); (try simp at hc); try (exfalso; omega))) | with_reducible refine And.intro (by first | omega | (unfold inI; omega)) ?_)
  refine pw_loop_over [2, 3, 4, 6, 9, 10, 11, 12, 13, 14, 15, 16, 17, 18, 19, 20, 21, 22, 23, 24, 25, 26, 27, 28, 29, 30, 31, 32, 33, 34, 35, 36, 37, 38, 39, 40, 41, 42, 43, 44, 45, 46, 47, 48, 49, 50] (fun k : Nat => [(9, .d (.int .i64 (k : Int))), (3, .row 0 k), (4, .row 1 k)]) (fun k : Nat => [(0, .row 3 1 (((l.take k).map EntrantD.skater).map datI)), (1, .row 3 1 (((l.take k).map EntrantD.rank).map datI))]) 2 (fun k : Nat => k ≤ l.length ∧ Upto (EntAt l) l k) (fun k : Nat => l.length - k) 0 ⟨Nat.zero_le _, Upto.zero _ _⟩ (fits_mk [] (by simp [renL_d, bdL_d, sg, over, wipe, wl, memN, ins, rm, lk, fitFr, fit1, ren, renL, bd, bdL, app, fitHp, hget, renB, bdB] <;> omega)) ?_
  rintro k ⟨hk, hJ⟩
  have hT : (l.take k).length = k := by simp; omega
  simp only [over, wipe, wl, memN, ins, rm, if_true, if_false, Nat.reduceEqDiff, Bool.false_eq_true, reduceCtorEq]
  by_cases hlt : k < l.length
  · have hx := List.getElem?_eq_getElem hlt
    generalize l[k] = x at hx
    repeat' (first | ((with_reducible first | (refine hK _ ?_; clear hK K) | refine stq fun K' hK' => ?_ | refine stc ?_); try simp only [go_sem, hT, List.length_map, List.getElem?_map, hx, Option.map_some, EntrantD.dat]) | (with_reducible first | refine stp ?_ | (refine hK' _ ?_; clear hK' K') | refine kN kl90 fun K hK => ?_ | refine kO fun K hK => ?_) | (refine xS rfl fun K' hK' => ?_; simp only [go_sem, hT, List.length_map, List.getElem?_map, hx, Option.map_some, EntrantD.dat]) | ((with_reducible apply CallK.eq); (· with_reducible first | exact l1In_ok _ _ _ | exact l1HasSkE_ok (l.take k) _ (by simp; omega) | exact l1HasRkE_ok (l.take k) _ (by simp; omega)); (· simp [RV.flat, D.sc, datI]); try simp only [go_sem, hT, List.length_map, List.getElem?_map, hx, Option.map_some, EntrantD.dat]) | refine iB ?_ | (with_reducible refine pK_mk ?_ ?_ <;> (intro hc; (try simp only [go_sem, hT, List.length_map, List.getElem?_map, hx, Option.map_some, EntrantD.dat]); (try simp at hc); try (exfalso; omega))) | with_reducible refine And.intro (by first | omega | (unfold inI; omega)) ?_)
    all_goals first
      | (exfalso; omega)
      | exact ⟨k + 1, ⟨by omega, hJ.succ hx ⟨by omega, fun y hy => ⟨skE_no (by assumption) y hy, fun h => by first | omega | exact rkE_no (by assumption) y hy h.1⟩⟩⟩, by omega, (fits_mk [] (by simp [renL_d, bdL_d, sg, over, wipe, wl, memN, ins, rm, lk, fitFr, fit1, ren, renL, bd, bdL, app, fitHp, hget, renB, bdB, hT, map_snoc hx, datI, List.length_map, -List.map_take] <;> omega))⟩
      | (refine retQ_ret rfl rfl (by simp [rowsOf, lk]) ?_; rw [bP_false (EntsOk.not_at hx fun h => by have := h.1; omega)])
      | (refine retQ_ret rfl rfl (by simp [rowsOf, lk]) ?_; rw [bP_false (EntsOk.not_at hx fun h => by
          obtain ⟨y, hy, he⟩ := skE_iff.1 (show skE (l.take k) x.skater = true by assumption)
          exact (h.2 y hy).1 he)])
      | (refine retQ_ret rfl rfl (by simp [rowsOf, lk]) ?_; rw [bP_false (EntsOk.not_at hx fun h => by
          obtain ⟨y, hy, he⟩ := rkE_iff.1 (show rkE (l.take k) x.rank = true by assumption)
          exact (h.2 y hy).2 ⟨he, by omega⟩)])
      | skip
  · repeat' (first | ((with_reducible first | (refine hK _ ?_; clear hK K) | refine stq fun K' hK' => ?_ | refine stc ?_); try simp only [go_sem]) | (with_reducible first | refine stp ?_ | (refine hK' _ ?_; clear hK' K') | refine kN kl90 fun K hK => ?_ | refine kO fun K hK => ?_) | (refine xS rfl fun K' hK' => ?_; simp only [go_sem]) | refine iB ?_ | (with_reducible refine pK_mk ?_ ?_ <;> (intro hc; (try simp only [go_sem]); (try simp at hc); try (exfalso; omega))) | with_reducible refine And.intro (by first | omega | (unfold inI; omega)) ?_)
    refine retQ_ret rfl rfl (by simp [rowsOf, lk]) ?_; rw [ents_end hJ (by omega)]
theorem soBehind_ok (x y : EntrantD) : FnEq Tryz.prog 168 [.agg [.d (.int .i64 x.skater), .d (.int .i64 x.rank)], .agg [.d (.int .i64 y.skater), .d (.int .i64 y.rank)]] [.d (.bool (ltE x y))] := by
  refine fn_ok G_ok Tryz.func168 rfl rfl ?_; simp only [Tryz.ntmps168, List.length_cons, List.length_nil, Nat.reduceAdd, Nat.reduceSub, enm]
  by_cases h1 : x.rank = 0
  · by_cases h2 : y.rank = 0
    · have e : ltE x y = decide (y.skater < x.skater) := by rw [Bool.eq_iff_iff, ltE_iff, decide_eq_true_eq]; omega
      repeat' (first | ((with_reducible first | (refine hK _ ?_; clear hK K) | refine stq fun K' hK' => ?_ | refine stc ?_); try simp only [go_sem, h1, h2]) | (with_reducible first | refine stp ?_ | (refine hK' _ ?_; clear hK' K') | refine kN kl168 fun K hK => ?_ | refine kO fun K hK => ?_) | (refine xS rfl fun K' hK' => ?_; simp only [go_sem, h1, h2]) | (with_reducible refine pK_mk ?_ ?_ <;> (intro hc; (try simp only [go_sem, h1, h2]); (try simp at hc); try (exfalso; omega))) | with_reducible refine And.intro (by first | omega | (unfold inI; omega)) ?_)
      all_goals (refine retQ_ret rfl rfl (by simp [rowsOf, lk]) ?_; rw [e])
    · have e : ltE x y = true := by rw [ltE_iff]; omega
      repeat' (first | ((with_reducible first | (refine hK _ ?_; clear hK K) | refine stq fun K' hK' => ?_ | refine stc ?_); try simp only [go_sem, h1, h2]) | (with_reducible first | refine stp ?_ | (refine hK' _ ?_; clear hK' K') | refine kN kl168 fun K hK => ?_ | refine kO fun K hK => ?_) | (refine xS rfl fun K' hK' => ?_; simp only [go_sem, h1, h2]) | (with_reducible refine pK_mk ?_ ?_ <;> (intro hc; (try simp only [go_sem, h1, h2]); (try simp at hc); try (exfalso; omega))) | with_reducible refine And.intro (by first | omega | (unfold inI; omega)) ?_)
      all_goals (refine retQ_ret rfl rfl (by simp [rowsOf, lk]) ?_; rw [e]; first | done | simp)
  · by_cases h2 : y.rank = 0
    · have e : ltE x y = false := by rw [Bool.eq_false_iff]; intro h; rw [ltE_iff] at h; omega
      repeat' (first | ((with_reducible first | (refine hK _ ?_; clear hK K) | refine stq fun K' hK' => ?_ | refine stc ?_); try simp only [go_sem, h1, h2]) | (with_reducible first | refine stp ?_ | (refine hK' _ ?_; clear hK' K') | refine kN kl168 fun K hK => ?_ | refine kO fun K hK => ?_) | (refine xS rfl fun K' hK' => ?_; simp only [go_sem, h1, h2]) | (with_reducible refine pK_mk ?_ ?_ <;> (intro hc; (try simp only [go_sem, h1, h2]); (try simp at hc); try (exfalso; omega))) | with_reducible refine And.intro (by first | omega | (unfold inI; omega)) ?_)
      all_goals (refine retQ_ret rfl rfl (by simp [rowsOf, lk]) ?_; rw [e]; first | done | simp [h1])
    · have e : ltE x y = decide (y.rank < x.rank) := by rw [Bool.eq_iff_iff, ltE_iff, decide_eq_true_eq]; omega
      repeat' (first | ((with_reducible first | (refine hK _ ?_; clear hK K) | refine stq fun K' hK' => ?_ | refine stc ?_); try simp only [go_sem, h1, h2]) | (with_reducible first | refine stp ?_ | (refine hK' _ ?_; clear hK' K') | refine kN kl168 fun K hK => ?_ | refine kO fun K hK => ?_) | (refine xS rfl fun K' hK' => ?_; simp only [go_sem, h1, h2]) | (with_reducible refine pK_mk ?_ ?_ <;> (intro hc; (try simp only [go_sem, h1, h2]); (try simp at hc); try (exfalso; omega))) | with_reducible refine And.intro (by first | omega | (unfold inI; omega)) ?_)
      all_goals (refine retQ_ret rfl rfl (by simp [rowsOf, lk]) ?_; rw [e])
end Go.Proofs.YthocihmhljmgdaaGreatDoor

/-
  The abstract machine: slices.Sort, as a function that changes the row given to it (an ordinary row, a deep one, or a list in a cell of one).
-/
namespace Go.Proofs.YthocihmhljmgdaaGreatDoor
open Go.RowKit Go.Sort

def sortUp (xs : List Int) : List Int := xs.mergeSort fun x y => decide (x ≤ y)
theorem sortUp_len (xs : List Int) : (sortUp xs).length = xs.length := List.length_mergeSort _
theorem sortUp_perm (xs : List Int) : (sortUp xs).Perm xs := List.mergeSort_perm _ _
theorem sortUp_sorted (xs : List Int) : (sortUp xs).Pairwise (· ≤ ·) := by
  have h := List.pairwise_mergeSort (le := fun x y : Int => decide (x ≤ y)) (by simp; omega) (by simp; omega) xs
  exact h.imp (by simp)
theorem sortM_ok (xs : List Int) (hl : xs.length ≤ 16777216) : FnM Tryz.prog 54 1 (xs.map datI) [] ((sortUp xs).map datI) [] := by
  refine ⟨⟨_, Tryz.func54, rfl, rfl⟩, fun w ty l F v hG hlv hlt hdp => ?_⟩
  cases l with
  | nil =>
    obtain ⟨rfl, hn⟩ := hlv
    have hx : xs = [] := by simpa using hdp.1
    subst hx
    refine (Tryz.slices_Sort_int_none none 0 w).mono fun e w' ⟨he, hw⟩ => ?_
    subst hw
    exact ⟨he, KeepB.refl _ _, F, fun x hx => absurd hx (hdp.2 x), by simp [sortUp], hdp.2⟩
  | blk b c =>
    obtain ⟨rfl, hnc⟩ := hlv
    obtain ⟨h1, arr, h2, h3, h4, h5, h6, Fp, h7, h8, h9⟩ := hdp
    simp only [List.length_map] at hnc h4
    have hb : b < w.heap.size := hlt b (.inr ⟨c, rfl⟩)
    have hcell : ∀ (k : Nat) (x : Int), xs[k]? = some x → arr[k]? = some (.int .i64 x) := by
      intro k x hx
      have hk : k < xs.length := (List.getElem?_eq_some_iff.1 hx).1
      have hk2 : k < arr.size := by rw [h3]; omega
      have hv := Array.getElem?_eq_getElem hk2
      have := h9 k [.int .i64 x] 0 (.int .i64 x) arr[k] (by rw [List.getElem?_map, hx]; rfl) rfl (by simp)
      rw [hv]
      generalize arr[k] = u at this
      cases this
      rfl
    have hH : Holds (Value.int .i64) w b 0 xs.toArray := by
      intro j hj
      have hj' : j < xs.length := by simpa using hj
      have hx := List.getElem?_eq_getElem hj'
      have h10 := hcell j xs[j] hx
      refine ⟨?_, by simp [World.frozen?, h2]⟩
      simp only [World.cell?, h2, Nat.zero_add]
      simp [h10, hj']
    have hsl := sortUp_len xs
    rw [List.length_map]
    refine (Tryz.slices_Sort_int b 0 c xs w hH hb (by omega)).mono fun e w' ⟨he, q, os, hw⟩ => ?_
    subst hw
    have hheap : (grow (putRow (Value.int .i64) (Sort.ahead w q) b 0 (sortUp xs).toArray) os).heap[b]? = some (.cells (putCells (Value.int .i64) 0 (sortUp xs).toArray arr) ty (0, 0)) := by
      rw [heap_grow_old _ _ (by simpa [putRow, mapBlock, Sort.ahead] using hb)]
      simp only [putRow, mapBlock, Sort.ahead, Array.getElem?_modify, h2, if_true, Option.map_some, onCells]
    refine ⟨he, ⟨rfl, rfl, rfl, by simp [grow, putRow, mapBlock, Sort.ahead], fun k hk hn => ?_, .of_le (Nat.le_add_right _ _)⟩, F, fun x hx => ⟨.inl hx, Nat.lt_of_lt_of_le (hlt x (.inl hx)) (by simp [grow, putRow, mapBlock, Sort.ahead])⟩, h1, _, hheap, by rw [← h3]; simp [putCells], by simp only [List.length_map]; omega, h5, fun e he => ?_, fun _ _ _ => False, fun _ _ _ h => h.elim, fun _ _ _ _ _ h => h.elim, fun k e j d v he hd hv => ?_⟩
    · rw [heap_grow_old _ _ (by simpa [putRow, mapBlock, Sort.ahead] using hk)]
      have : b ≠ k := fun e => hn (.inr ⟨c, by rw [e]⟩)
      simp [putRow, mapBlock, Sort.ahead, Array.getElem?_modify, this]
    · obtain ⟨x, _, rfl⟩ := List.mem_map.1 he; rfl
    · rw [List.getElem?_map] at he
      cases hi : (sortUp xs)[k]? with
      | none => rw [hi] at he; cases he
      | some x =>
        rw [hi] at he
        have he' : datI x = e := Option.some.inj he
        subst he'
        have hk : k < (sortUp xs).length := (List.getElem?_eq_some_iff.1 hi).1
        have hj : j = 0 := by
          have := (List.getElem?_eq_some_iff.1 hd).1
          simp [datI] at this
          exact this
        subst hj
        simp [datI] at hd
        subst hd
        have hk2 : k < arr.size := by rw [h3]; omega
        have h11 : (putCells (Value.int .i64) 0 (sortUp xs).toArray arr)[k]? = some (.int .i64 x) := by
          simp only [putCells, Array.getElem?_mapIdx, Array.getElem?_eq_getElem hk2, Option.map_some]
          rw [if_pos ⟨Nat.zero_le _, by simp; omega⟩]
          simp [hk, (List.getElem?_eq_some_iff.1 hi).2]
        simp only [Nat.mul_one, Nat.add_zero] at hv
        rw [h11] at hv
        cases hv
        exact .int _ _ _
end Go.Proofs.YthocihmhljmgdaaGreatDoor

/-
  Lists cut into parts: the program's cutInto, in the abstract machine.
-/
set_option linter.unusedSimpArgs false
set_option linter.unusedVariables false
set_option maxHeartbeats 2000000
set_option maxRecDepth 100000
namespace Go.Proofs.YthocihmhljmgdaaGreatDoor
open Go.RowKit

def offZ (ss : List Int) (k : Nat) : Nat := ((ss.take k).map Int.toNat).sum
theorem offZ_succ {ss : List Int} {k : Nat} {s : Int} (hs : ss[k]? = some s) : offZ ss (k + 1) = offZ ss k + s.toNat := by unfold offZ; rw [take_snoc hs]; simp
theorem offZ_le (ss : List Int) (k : Nat) : offZ ss k ≤ offZ ss ss.length := by
  unfold offZ
  have : ss = ss.take k ++ ss.drop k := (List.take_append_drop k ss).symm
  rw [List.take_length]
  conv => rhs; rw [this]
  rw [List.map_append, List.sum_append]
  omega
def cutZ (ss xs : List Int) (k : Nat) : List (List Int) := (List.range k).map fun i => (xs.drop (offZ ss i)).take (ss.getD i 0).toNat
theorem cutZ_len (ss xs : List Int) (k : Nat) : (cutZ ss xs k).length = k := by simp [cutZ]
theorem cutZ_succ {ss xs : List Int} {k : Nat} {s : Int} (hs : ss[k]? = some s) : cutZ ss xs (k + 1) = cutZ ss xs k ++ [(xs.drop (offZ ss k)).take s.toNat] := by
  unfold cutZ
  rw [List.range_succ, List.map_append]
  simp [List.getD_eq_getElem?_getD, hs]
/-- a list as the one cell of a row -/
def datG (c : List Int) : List D := [.lst 1 (c.map datI)]
def ownG (cs : List (List Int)) (k : Nat) : Blk := if k = 0 then .row 31 1 [] else .deep 0 31 1 (cs.map datG)
theorem ownG_zero (cs : List (List Int)) : ownG cs 0 = .row 31 1 [] := rfl
theorem ownG_pos {cs : List (List Int)} {k : Nat} (h : 0 < k) : ownG cs k = .deep 0 31 1 (cs.map datG) := by unfold ownG; rw [if_neg (by omega)]
theorem ownG_z {cs : List (List Int)} {k : Nat} (h : k = 0) : ownG cs k = .row 31 1 [] := by unfold ownG; rw [if_pos h]
theorem cutInto_ok (xs ss : List Int) (h0 : 0 < ss.length) (hn : xs.length ≤ 1048576) (hk : ss.length ≤ 1048576) (hs : ∀ s ∈ ss, 0 ≤ s) (hsum : offZ ss ss.length ≤ xs.length) :
    FnEq Tryz.prog 79 [.d (.lst 1 (xs.map datI)), .d (.lst 1 (ss.map datI))] [.deep 31 1 ((cutZ ss xs ss.length).map datG)] := by
  refine fn_ok G_ok Tryz.func79 rfl rfl ?_; simp only [Tryz.ntmps79, List.length_cons, List.length_nil, Nat.reduceAdd, Nat.reduceSub, enm]
  repeat' (first | ((with_reducible first | (refine hK _ ?_; clear hK K) | refine stq fun K' hK' => ?_ | refine stc ?_); try simp only [go_sem]) | (with_reducible first | refine stp ?_ | (refine hK' _ ?_; clear hK' K') | refine kN kl79 fun K hK => ?_ | refine kO fun K hK => ?_) | refine iB ?_ | (with_reducible refine pK_mk ?_ ?_ <;> (intro hc; (try simp only [go_sem]); (try simp at hc); try (exfalso; omega))) | with_reducible refine And.intro (by first | omega | (unfold inI; omega)) ?_)
  refine pw_loop_over [0, 4, 5, 7, 11, 12, 13, 14, 15, 16, 17, 18, 19, 20, 21, 22, 23, 24, 25] (fun k : Nat => [(11, .d (.int .i64 (k : Int))), (0, .d (.lst 1 ((xs.drop (offZ ss k)).map datI))), (5, .row 0 k)]) (fun k : Nat => [(0, ownG (cutZ ss xs k) k)]) 1 (fun k : Nat => k ≤ ss.length) (fun k : Nat => ss.length - k) 0 (Nat.zero_le _) (fits_mk [] (by simp [renL_d, bdL_d, sg, over, wipe, wl, memN, ins, rm, lk, fitFr, fit1, ren, renL, bd, bdL, app, fitHp, hget, renB, bdB, ownG_zero, offZ, List.take_zero, List.map_nil, List.sum_nil, List.drop_zero] <;> omega)) ?_
  intro k hkl
  have hcl := cutZ_len ss xs k
  have hof := offZ_le ss k
  have hof1 := offZ_le ss (k + 1)
  simp only [over, wipe, wl, memN, ins, rm, if_true, if_false, Nat.reduceEqDiff, Bool.false_eq_true, reduceCtorEq]
  by_cases hlt : k < ss.length
  · have hx := List.getElem?_eq_getElem hlt
    generalize ss[k] = s at hx
    have hs0 := hs s (List.mem_of_getElem? hx)
    have hoS := offZ_succ hx
    have hsl : s.toNat ≤ (xs.drop (offZ ss k)).length := by rw [List.length_drop]; omega
    have hsl2 : s ≤ ((xs.drop (offZ ss k)).length : Int) := by omega
    have hcs := cutZ_succ (xs := xs) hx
    have htk : List.take s.toNat ((xs.drop (offZ ss k)).map datI) = ((xs.drop (offZ ss k)).take s.toNat).map datI := by rw [List.map_take]
    have hdr : List.drop s.toNat ((xs.drop (offZ ss k)).map datI) = (xs.drop (offZ ss (k + 1))).map datI := by rw [← List.map_drop, List.drop_drop, hoS]
    generalize hch : (xs.drop (offZ ss k)).take s.toNat = ch at hcs htk
    have hchl : ch.length ≤ 1048576 := by rw [← hch, List.length_take, List.length_drop]; omega
    generalize hrest : xs.drop (offZ ss k) = rest at hsl hsl2 htk hdr
    have hrl : rest.length ≤ 1048576 := by rw [← hrest, List.length_drop]; omega
    have htx : List.take rest.length (List.map datI rest) = List.map datI rest := List.take_of_length_le (by simp)
    have hdt : datG ch = [.lst 1 (ch.map datI)] := rfl
    by_cases hk0 : k = 0
    · rw [ownG_z hk0]
      have hc0 : cutZ ss xs k = [] := by rw [hk0]; rfl
      rw [hc0] at hcs
      repeat' (first | ((with_reducible first | (refine hK _ ?_; clear hK K) | refine stq fun K' hK' => ?_ | refine stc ?_); try simp only [go_sem, hlt, List.getElem?_map, hx, Option.map_some, datI, List.length_map, hsl2, hs0, htk, hdr, List.drop_zero]) | (with_reducible first | refine stp ?_ | (refine hK' _ ?_; clear hK' K') | refine kN kl79 fun K hK => ?_ | refine kO fun K hK => ?_) | ((with_reducible apply CallK.eq); (· with_reducible first | exact copyInts_ok ch hchl); (· simp [RV.flat, D.sc, datI]); try simp only [go_sem, hlt, List.getElem?_map, hx, Option.map_some, datI, List.length_map, hsl2, hs0, htk, hdr, List.drop_zero]) | refine iB ?_ | (with_reducible refine pK_mk ?_ ?_ <;> (intro hc; (try simp only [go_sem, hlt, List.getElem?_map, hx, Option.map_some, datI, List.length_map, hsl2, hs0, htk, hdr, List.drop_zero]); (try simp at hc); try (exfalso; omega))) | with_reducible refine And.intro (by first | omega | (unfold inI; omega)) ?_)
      refine po_buildSlice_deep (cs := [.row 1 ch.length]) (ds := datG ch) rfl (G_ok _ _ G110) (by decide) rfl (by rw [hdt]; simp [ownL, ownC, hget, D.scB]) (by simp [rowIds]) (by simp only [flatL, flatC, hget, if_true, if_false, Nat.reduceEqDiff]; exact ⟨flatE_datI _, trivial⟩) ?_
      repeat' (first | ((with_reducible first | (refine hK _ ?_; clear hK K) | refine stq fun K' hK' => ?_ | refine stc ?_); try simp only [go_sem, hdt]) | (with_reducible first | refine stp ?_ | (refine hK' _ ?_; clear hK' K') | refine kN kl79 fun K hK => ?_ | refine kO fun K hK => ?_) | refine iB ?_ | (with_reducible refine pK_mk ?_ ?_ <;> (intro hc; (try simp only [go_sem, hdt]); (try simp at hc); try (exfalso; omega))) | with_reducible refine And.intro (by first | omega | (unfold inI; omega)) ?_)
      refine po_append_deep (es := []) (fs := [datG ch]) (n := k) (n2 := 1) rfl (G_ok _ _ G110) rfl rfl rfl rfl (by decide) (by simp; omega) rfl (by intro e he; simp at he) (by exact True.intro) (by simp <;> omega) ?_
      repeat' (first | ((with_reducible first | (refine hK _ ?_; clear hK K) | refine stq fun K' hK' => ?_ | refine stc ?_); try simp only [go_sem, hdt, hsl2, hs0, htk, htx, hdr, List.drop_zero, List.length_map]) | (with_reducible first | refine stp ?_ | (refine hK' _ ?_; clear hK' K') | refine kN kl79 fun K hK => ?_ | refine kO fun K hK => ?_) | refine iB ?_ | (with_reducible refine pK_mk ?_ ?_ <;> (intro hc; (try simp only [go_sem, hdt, hsl2, hs0, htk, htx, hdr, List.drop_zero, List.length_map]); (try simp at hc); try (exfalso; omega))) | with_reducible refine And.intro (by first | omega | (unfold inI; omega)) ?_)
      all_goals first
        | (exfalso; omega)
        | exact ⟨k + 1, by omega, by omega, (fits_mk [] (by simp [renL_d, bdL_d, sg, over, wipe, wl, memN, ins, rm, lk, fitFr, fit1, ren, renL, bd, bdL, app, fitHp, hget, renB, bdB, hcs, hdt, hdr, htx, ownG_pos (Nat.succ_pos k)] <;> omega))⟩
    · rw [ownG_pos (show 0 < k by omega)]
      repeat' (first | ((with_reducible first | (refine hK _ ?_; clear hK K) | refine stq fun K' hK' => ?_ | refine stc ?_); try simp only [go_sem, hlt, List.getElem?_map, hx, Option.map_some, datI, List.length_map, hsl2, hs0, htk, hdr, List.drop_zero]) | (with_reducible first | refine stp ?_ | (refine hK' _ ?_; clear hK' K') | refine kN kl79 fun K hK => ?_ | refine kO fun K hK => ?_) | ((with_reducible apply CallK.eq); (· with_reducible first | exact copyInts_ok ch hchl); (· simp [RV.flat, D.sc, datI]); try simp only [go_sem, hlt, List.getElem?_map, hx, Option.map_some, datI, List.length_map, hsl2, hs0, htk, hdr, List.drop_zero]) | refine iB ?_ | (with_reducible refine pK_mk ?_ ?_ <;> (intro hc; (try simp only [go_sem, hlt, List.getElem?_map, hx, Option.map_some, datI, List.length_map, hsl2, hs0, htk, hdr, List.drop_zero]); (try simp at hc); try (exfalso; omega))) | with_reducible refine And.intro (by first | omega | (unfold inI; omega)) ?_)
      refine po_buildSlice_deep (cs := [.row 1 ch.length]) (ds := datG ch) rfl (G_ok _ _ G110) (by decide) rfl (by rw [hdt]; simp [ownL, ownC, hget, D.scB]) (by simp [rowIds]) (by simp only [flatL, flatC, hget, if_true, if_false, Nat.reduceEqDiff]; exact ⟨flatE_datI _, trivial⟩) ?_
      repeat' (first | ((with_reducible first | (refine hK _ ?_; clear hK K) | refine stq fun K' hK' => ?_ | refine stc ?_); try simp only [go_sem, hdt]) | (with_reducible first | refine stp ?_ | (refine hK' _ ?_; clear hK' K') | refine kN kl79 fun K hK => ?_ | refine kO fun K hK => ?_) | refine iB ?_ | (with_reducible refine pK_mk ?_ ?_ <;> (intro hc; (try simp only [go_sem, hdt]); (try simp at hc); try (exfalso; omega))) | with_reducible refine And.intro (by first | omega | (unfold inI; omega)) ?_)
      refine po_append_deep (es := (cutZ ss xs k).map datG) (fs := [datG ch]) (n := k) (n2 := 1) rfl (G_ok _ _ G110) rfl rfl rfl rfl (by decide) (by simp; omega) rfl (by exact True.intro) (by exact True.intro) (by simp <;> omega) ?_
      repeat' (first | ((with_reducible first | (refine hK _ ?_; clear hK K) | refine stq fun K' hK' => ?_ | refine stc ?_); try simp only [go_sem, hdt, hsl2, hs0, htk, htx, hdr, List.drop_zero, List.length_map]) | (with_reducible first | refine stp ?_ | (refine hK' _ ?_; clear hK' K') | refine kN kl79 fun K hK => ?_ | refine kO fun K hK => ?_) | refine iB ?_ | (with_reducible refine pK_mk ?_ ?_ <;> (intro hc; (try simp only [go_sem, hdt, hsl2, hs0, htk, htx, hdr, List.drop_zero, List.length_map]); (try simp at hc); try (exfalso; omega))) | with_reducible refine And.intro (by first | omega | (unfold inI; omega)) ?_)
      all_goals first
        | (exfalso; omega)
        | exact ⟨k + 1, by omega, by omega, (fits_mk [] (by simp [renL_d, bdL_d, sg, over, wipe, wl, memN, ins, rm, lk, fitFr, fit1, ren, renL, bd, bdL, app, fitHp, hget, renB, bdB, hcs, hdt, hdr, htx, ownG_pos (Nat.succ_pos k)] <;> omega))⟩
  · obtain rfl : k = ss.length := by omega
    rw [ownG_pos h0]
    have hfl : ((cutZ ss xs ss.length).map datG).length = ss.length := by simp [hcl]
    repeat' (first | ((with_reducible first | (refine hK _ ?_; clear hK K) | refine stq fun K' hK' => ?_ | refine stc ?_); try simp only [go_sem]) | (with_reducible first | refine stp ?_ | (refine hK' _ ?_; clear hK' K') | refine kN kl79 fun K hK => ?_ | refine kO fun K hK => ?_) | refine iB ?_ | (with_reducible refine pK_mk ?_ ?_ <;> (intro hc; (try simp only [go_sem]); (try simp at hc); try (exfalso; omega))) | with_reducible refine And.intro (by first | omega | (unfold inI; omega)) ?_)
    refine retQ_ret rfl (by simp only [hfl, hcl, retL, ret1, hget, lk, List.length_map, List.length_nil, List.length_append, List.length_take, if_true, if_false, Nat.reduceEqDiff, Nat.reduceBEq, Bool.false_eq_true, Option.some.injEq]; rfl) (by simp [rowsOf, lk]) ?_; rfl
end Go.Proofs.YthocihmhljmgdaaGreatDoor

/-
  The abstract machine: a region that draws its order, by a table of all that may be done so far and the state then.
-/
set_option linter.unusedSimpArgs false
set_option linter.unusedVariables false
set_option maxHeartbeats 2000000
set_option maxRecDepth 100000
namespace Go.Proofs.YthocihmhljmgdaaGreatDoor
open Go.RowKit

/-- one row of the table: what is done, and for each operation that may come next what is done behind it -/
abbrev Node := List Bool × List (Nat × List Bool)
/-- operation r leads from s to what fits s2 -/
def StepTo (P : Program) (G : List (Nat × TI)) (l : List Oper) (r : Nat) (s s2 : AS) : Prop :=
  ∃ o, l[r]? = some o ∧ ∀ K' : AS → Prop, (∀ s', Fits s' s2 → K' s') → step1 false P G l.toArray o s K'
def EdgeOk (P : Program) (G : List (Nat × TI)) (l : List Oper) (S : List Bool → AS) (L : List Bool) : List (Nat × List Bool) → Prop
  | [] => True
  | (r, L2) :: es => StepTo P G l r (S L) (S L2) ∧ EdgeOk P G l S L es
/-- all steps of the table, each with the states before and behind -/
def StepsOk (P : Program) (G : List (Nat × TI)) (l : List Oper) (S : List Bool → AS) (K : AS → Prop) : List Node → Prop
  | [] => True
  | (L, []) :: t => (∀ s', Fits s' (S L) → K s') ∧ StepsOk P G l S K t
  | (L, e :: es) :: t => EdgeOk P G l S L (e :: es) ∧ StepsOk P G l S K t
/-- the state: a slot or a block of the region's own is there from the operation that makes it until all that read it are done -/
def nthB : List Bool → Nat → Bool
  | [], _ => false
  | b :: _, 0 => b
  | _ :: r, i + 1 => nthB r i
def lackB (L : List Bool) : List Nat → Bool
  | [] => false
  | i :: r => !nthB L i || lackB L r
def doneB (L : List Bool) : List Nat → Bool
  | [] => true
  | i :: r => nthB L i && doneB L r
/-- an entry is there when all of the first are done and not all of the second -/
def mkL {α : Type} (L : List Bool) : List (List Nat × List Nat × α) → List α
  | [] => []
  | (i, rd, x) :: r => if (doneB L i && lackB L rd) = true then x :: mkL L r else mkL L r
attribute [go_sem] StepsOk EdgeOk nthB lackB doneB mkL
end Go.Proofs.YthocihmhljmgdaaGreatDoor
namespace Go.Proofs.YthocihmhljmgdaaGreatDoor
open Go.RowKit

end Go.Proofs.YthocihmhljmgdaaGreatDoor

/-
  The abstract machine: in a region that draws its order a pure operation may be taken first.
-/
namespace Go.Proofs.YthocihmhljmgdaaGreatDoor
open Go.RowKit

/-- the walk stops here -/
def Stop (p : Prop) : Prop := p
theorem stop_seq {P : Program} {id : Nat} {l : Array Oper} {b : Bool} {y : Code} {Q : Exit → AS → Prop} {s : AS} (h : Stop (PW P (.seq (.region id l b) y) Q s)) : PW P (.seq (.region id l b) y) Q s := h
theorem stop_one {P : Program} {id : Nat} {l : Array Oper} {b : Bool} {Q : Exit → AS → Prop} {s : AS} (h : Stop (PW P (.region id l b) Q s)) : PW P (.region id l b) Q s := h

/-- a region in any order, where nothing panics: from s, with these operations done, it leads into K -/
def AnyN (P : Program) (ops : Array Oper) (K : AS → Prop) (fuel : Nat) (listed : Array Bool) (s : AS) : Prop :=
  ∀ (X0 : Nat → Prop) (w0 : Base) (m : Mp) (a : Act) (w : World) (Q' : Exit → Act → World → Prop), (∀ c a w, ¬ Q' (.panic c) a w) → (∀ m' s' a' w', K s' → Sim X0 w0 m' s' a' w' → Q' .normal a' w') → Sim X0 w0 m s a w → wpAny P .any ops Q' fuel listed a w
theorem anyN_done {P : Program} {ops : Array Oper} {K : AS → Prop} {fuel : Nat} {listed : Array Bool} {s : AS} (hR : Region.ready .any ops listed = []) (h : K s) : AnyN P ops K fuel listed s :=
  fun X0 w0 m a w Q' _ hQ hs => any_done hR h X0 w0 m a w Q' hQ hs
theorem anyN_take {P : Program} {ops : Array Oper} {K : AS → Prop} {fuel : Nat} {listed : Array Bool} {s : AS} (i : Nat) {o : Oper} {x : PV} {d : Tmp} (hi : ops[i]? = some o) (hg : o.guard = none) (hd : o.dst = some d) (hs : Region.noSelect ops = true) (hf : Region.free .any ops listed i = true) (hr : (Region.ready .any ops listed).contains i = true)
    (hp : PureAt P o s x) (h : AnyN P ops K fuel (listed.setIfInBounds i true) (s.put (some d) x)) : AnyN P ops K (fuel + 1) listed s := by
  rw [← hd] at h
  intro X0 w0 m a w Q' hN hQ hs'
  obtain ⟨v, h1, h2⟩ := hp m.loc _ w a hs'.get
  exact wpAny_take hi hs hf hr (fun c a w h => absurd h (hN c _ _)) (.inl ⟨by simp [Region.wanted, hg], h1⟩) (h X0 w0 m (a.put o.dst v) w Q' hN hQ (hs'.put h2 o.dst))
def AllN (P : Program) (G : List (Nat × TI)) (l : List Oper) (K : AS → Prop) (fuel : Nat) (listed : Array Bool) (s : AS) : List Nat → Prop
  | [] => True
  | i :: r => (∃ o, l[i]? = some o ∧ ∀ K' : AS → Prop, (∀ s', AnyN P l.toArray K fuel (listed.setIfInBounds i true) s' → K' s') → step1 false P G l.toArray o s K') ∧ AllN P G l K fuel listed s r
theorem anyN_step {P : Program} {G : List (Nat × TI)} (hG : GOK P G) (R : List Nat) {l : List Oper} {K : AS → Prop} {fuel : Nat} {listed : Array Bool} {s : AS} (hR : Region.ready .any l.toArray listed = R) (hne : R.isEmpty = false) (h : AllN P G l K fuel listed s R) : AnyN P l.toArray K (fuel + 1) listed s := by
  intro X0 w0 m a w Q' hN hQ hs
  refine ⟨fun h0 => (by rw [hR] at h0; subst h0; cases hne), fun i hi => ?_⟩
  rw [hR] at hi
  have key : ∀ R : List Nat, AllN P G l K fuel listed s R → ∀ i ∈ R, ∃ o, l[i]? = some o ∧ ∀ K' : AS → Prop, (∀ s', AnyN P l.toArray K fuel (listed.setIfInBounds i true) s' → K' s') → step1 false P G l.toArray o s K' := by
    intro R
    induction R with
    | nil => intro _ i hi; cases hi
    | cons j r ih =>
      rintro ⟨h1, h2⟩ i hi
      rcases List.mem_cons.1 hi with rfl | hi
      · exact h1
      · exact ih h2 i hi
  obtain ⟨o, ho, h1⟩ := key R h i hi
  have h2 : execL P G l.toArray [o] (AnyN P l.toArray K fuel (listed.setIfInBounds i true)) s := execL_step fun K' hK' => h1 K' fun s' hs' => hK' s' hs'
  exact any_op (by simpa using ho) (execL_sound hG _ _ _ h2) hs fun m' s' a' w' h3 h4 => h3 X0 w0 m' a' w' Q' hN hQ h4
theorem pw_anyN {P : Program} {Q : Exit → AS → Prop} {s : AS} {id : Nat} {l : List Oper} (hm : P.follows .mixedOrders = true) (h : AnyN P l.toArray (Q .normal) l.length (Array.replicate l.length false) s) : PW P (.region id l.toArray true) Q s := by
  intro X0 w0 m a w hs
  refine wp_mono (Q := fun e a' w' => (∀ c, e ≠ .panic c) ∧ ∃ m' s', Q e s' ∧ Sim X0 w0 m' s' a' w') ?_ fun _ _ _ h => h.2
  refine wp_region_any hm ?_
  have := h X0 w0 m a w.drew (fun e a' w' => (∀ c, e ≠ .panic c) ∧ ∃ m' s', Q e s' ∧ Sim X0 w0 m' s' a' w') (fun c a w h => h.1 c rfl) (fun m' s' a' w' h1 h2 => ⟨(fun c e => by cases e), m', s', h1, h2⟩) hs.drew
  simpa using this
theorem pw_seq_anyN {P : Program} (T : List (Nat × List Nat)) {Q : Exit → AS → Prop} {s : AS} {id : Nat} {l : List Oper} {y : Code} (hm : P.follows .mixedOrders = true)
    (h : AnyN P l.toArray (fun s' => PW P y Q (forget T id s')) l.length (Array.replicate l.length false) s) : PW P (.seq (.region id l.toArray true) y) Q s :=
  pw_seq_k fun _ hK => pw_anyN hm fun X0 w0 m a w Q' hN hQ hs => h X0 w0 m a w Q' hN (fun m' s' a' w' h3 h4 => hQ m' s' a' w' (hK s' (pw_forget T id h3)) h4) hs
section
variable {P : Program} {o : Oper} {s : AS}
theorem pure_move {x : Operand} (ho : o.op = .move x ∨ o.op = .assign x) : PureAt P o s (s.get x) := fun m X w a hq => ⟨a.eval x, fun u => by rcases ho with h | h <;> simp [execOp, h], hq x⟩
theorem pure_slice {t : TypeId} {x : Operand} {lo hi : Option Operand} {e : TypeId} {sz bytes n : Nat} {z : List D} {l h : Int} {y : PV} (ho : o.op = .slice t x lo hi none) (ht : tiB P t (.slc e sz bytes z) = true) (hn : lenP (s.get x) = some n)
    (hlo : bnd s 0 lo = some l) (hhi : bnd s n hi = some h) (h0 : 0 ≤ l) (h1 : l ≤ h) (h2 : h ≤ n) (hx : slP sz l.toNat h.toNat (s.get x) = some y) : PureAt P o s y := fun m X w a hq => by
    obtain ⟨A, c, h3, h4, h5⟩ := slP_R hx hn (by omega) (by omega) (hq x)
    obtain ⟨g1, ⟨inf, v, g2, g3, _⟩, _⟩ := tiB_slc ht
    refine ⟨_, fun u => ?_, h5⟩
    have key : (Instr.sliceBounds true n c (lo.map a.eval) (hi.map a.eval) none).run P u = .ok (l.toNat, h.toNat, c) u := by
      cases hi with
      | none =>
        cases hhi
        cases lo with
        | none => cases hlo; simp [Instr.sliceBounds]
        | some q =>
          obtain ⟨k, hk⟩ := bnd_run hq hlo
          simp [Instr.sliceBounds, hk, bound_run h0 h1]
      | some q' =>
        obtain ⟨k', hk'⟩ := bnd_run hq hhi
        have hb1 : (h : Int) ≤ (c : Int) := by omega
        have e1 : ((h.toNat : Nat) : Int) = h := Int.toNat_of_nonneg (by omega)
        cases lo with
        | none => cases hlo; simp [Instr.sliceBounds, hk', bound_run (show (0 : Int) ≤ h by omega) hb1]
        | some q =>
          obtain ⟨k, hk⟩ := bnd_run hq hlo
          simp [Instr.sliceBounds, hk, hk', bound_run (show (0 : Int) ≤ h by omega) hb1, bound_run (y := h.toNat) h0 (by omega)]
    simp [execOp, ho, h3, Instr.sliceAt, Instr.slice, run_underlying g1, key, run_size g2, g3]
end
end Go.Proofs.YthocihmhljmgdaaGreatDoor
