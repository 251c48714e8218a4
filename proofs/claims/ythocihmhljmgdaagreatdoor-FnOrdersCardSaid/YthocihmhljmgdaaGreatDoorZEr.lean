/-
  Groups of entrants: sizes, sorted entrants; plain words and the smaller functions, in the abstract machine.
-/
import Derived.Test.YthocihmhljmgdaaGreatDoorZTk
set_option linter.unusedSimpArgs false
set_option linter.unusedVariables false
set_option maxHeartbeats 2000000
set_option maxRecDepth 100000
namespace Go.Proofs.YthocihmhljmgdaaGreatDoor
open Go.RowKit

def szZ (n g i : Nat) : Nat := n / g + (if i < n % g then 1 else 0)
def szsZ (n g k : Nat) : List Int := (List.range k).map fun i => (szZ n g i : Int)
theorem szsZ_zero (n g : Nat) : szsZ n g 0 = [] := rfl
theorem szsZ_succ (n g k : Nat) : szsZ n g (k + 1) = szsZ n g k ++ [(szZ n g k : Int)] := by unfold szsZ; rw [List.range_succ]; simp
theorem szsZ_len (n g k : Nat) : (szsZ n g k).length = k := by simp [szsZ]
theorem dwSizes_ok (n g : Nat) (hn : n ≤ 1048576) (h0 : 0 < g) (hg : g ≤ 1048576) : FnEq Tryz.prog 153 [.d (.int .i64 (n : Int)), .d (.int .i64 (g : Int))] [.row 3 1 ((szsZ n g g).map datI)] := by
  refine fn_ok G_ok Tryz.func153 rfl rfl ?_; simp only [Tryz.ntmps153, List.length_cons, List.length_nil, Nat.reduceAdd, Nat.reduceSub, enm]
  have hq : (n : Int).tdiv (g : Int) = ((n / g : Nat) : Int) := rfl
  have hr : (n : Int).tmod (g : Int) = ((n % g : Nat) : Int) := rfl
  have hg0 : ¬ (g : Int) = 0 := by omega
  have hql := Nat.div_le_self n g
  repeat' (first | ((with_reducible first | (refine hK _ ?_; clear hK K) | refine stq fun K' hK' => ?_ | refine stc ?_); try simp only [go_sem, hq, hr, hg0]) | (with_reducible first | refine stp ?_ | (refine hK' _ ?_; clear hK' K') | refine kN kl153 fun K hK => ?_ | refine kO fun K hK => ?_) | refine iB ?_ | (with_reducible refine pK_mk ?_ ?_ <;> (intro hc; (try simp only [go_sem, hq, hr, hg0]); (try simp at hc); try (exfalso; omega))) | with_reducible refine And.intro (by first | omega | (unfold inI; omega)) ?_)
  refine pw_loop_over [4, 5, 6, 7, 8, 9, 10, 11, 12, 13, 14, 15, 16, 17, 18, 19, 20, 21, 22, 23, 24, 25, 26] (fun k : Nat => [(6, .d (.int .i64 (k : Int))), (5, .row 0 k)]) (fun k : Nat => [(0, .row 3 1 ((szsZ n g k).map datI))]) 1 (fun k : Nat => k ≤ g) (fun k : Nat => g - k) 0 (Nat.zero_le _) (fits_mk [] (by simp [renL_d, bdL_d, sg, over, wipe, wl, memN, ins, rm, lk, fitFr, fit1, ren, renL, bd, bdL, app, fitHp, hget, renB, bdB, szsZ_zero] <;> omega)) ?_
  intro k hk
  have hL := szsZ_len n g k
  simp only [over, wipe, wl, memN, ins, rm, if_true, if_false, Nat.reduceEqDiff, Bool.false_eq_true, reduceCtorEq]
  by_cases hlt : k < g
  · by_cases hm : k < n % g
    · have hm' : (k : Int) < ((n % g : Nat) : Int) := by omega
      have e : (szZ n g k : Int) = ((n / g : Nat) : Int) + 1 := by unfold szZ; rw [if_pos hm]; omega
      have e1 := szsZ_succ n g k
      rw [e] at e1
      repeat' (first | ((with_reducible first | (refine hK _ ?_; clear hK K) | refine stq fun K' hK' => ?_ | refine stc ?_); try simp only [go_sem, hq, hr, hg0, hlt, hm']) | (with_reducible first | refine stp ?_ | (refine hK' _ ?_; clear hK' K') | refine kN kl153 fun K hK => ?_ | refine kO fun K hK => ?_) | refine iB ?_ | (with_reducible refine pK_mk ?_ ?_ <;> (intro hc; (try simp only [go_sem, hq, hr, hg0, hlt, hm']); (try simp at hc); try (exfalso; omega))) | with_reducible refine And.intro (by first | omega | (unfold inI; omega)) ?_)
      all_goals first
        | (exfalso; omega)
        | exact ⟨k + 1, by omega, by omega, (fits_mk [] (by simp [renL_d, bdL_d, sg, over, wipe, wl, memN, ins, rm, lk, fitFr, fit1, ren, renL, bd, bdL, app, fitHp, hget, renB, bdB, e1, datI, hL] <;> omega))⟩
    · have hm' : ¬ (k : Int) < ((n % g : Nat) : Int) := by omega
      have e : (szZ n g k : Int) = ((n / g : Nat) : Int) := by unfold szZ; rw [if_neg hm]; omega
      have e1 := szsZ_succ n g k
      rw [e] at e1
      repeat' (first | ((with_reducible first | (refine hK _ ?_; clear hK K) | refine stq fun K' hK' => ?_ | refine stc ?_); try simp only [go_sem, hq, hr, hg0, hlt, hm']) | (with_reducible first | refine stp ?_ | (refine hK' _ ?_; clear hK' K') | refine kN kl153 fun K hK => ?_ | refine kO fun K hK => ?_) | refine iB ?_ | (with_reducible refine pK_mk ?_ ?_ <;> (intro hc; (try simp only [go_sem, hq, hr, hg0, hlt, hm']); (try simp at hc); try (exfalso; omega))) | with_reducible refine And.intro (by first | omega | (unfold inI; omega)) ?_)
      all_goals first
        | (exfalso; omega)
        | exact ⟨k + 1, by omega, by omega, (fits_mk [] (by simp [renL_d, bdL_d, sg, over, wipe, wl, memN, ins, rm, lk, fitFr, fit1, ren, renL, bd, bdL, app, fitHp, hget, renB, bdB, e1, datI, hL] <;> omega))⟩
  · obtain rfl : k = g := by omega
    repeat' (first | ((with_reducible first | (refine hK _ ?_; clear hK K) | refine stq fun K' hK' => ?_ | refine stc ?_); try simp only [go_sem]) | (with_reducible first | refine stp ?_ | (refine hK' _ ?_; clear hK' K') | refine kN kl153 fun K hK => ?_ | refine kO fun K hK => ?_) | refine iB ?_ | (with_reducible refine pK_mk ?_ ?_ <;> (intro hc; (try simp only [go_sem]); (try simp at hc); try (exfalso; omega))) | with_reducible refine And.intro (by first | omega | (unfold inI; omega)) ?_)
    refine retQ_ret rfl (by simp only [hL, retL, ret1, hget, lk, List.length_map, List.length_nil, List.length_append, List.length_take, if_true, if_false, Nat.reduceEqDiff, Nat.reduceBEq, Bool.false_eq_true, Option.some.injEq]; rfl) (by simp [rowsOf, lk]) ?_; rfl
/-- the entrants in order, those of the first k -/
def ordE (l : List EntrantD) : List EntrantD := l.foldl (fun acc x => insO ltE x acc) []
theorem ordE_snoc {l : List EntrantD} {k : Nat} {x : EntrantD} (hx : l[k]? = some x) : ordE (l.take (k + 1)) = insO ltE x (ordE (l.take k)) := by unfold ordE; rw [take_snoc hx, List.foldl_append]; rfl
theorem ordE_aux {l : List EntrantD} (hv : EntsOk l) : ∀ k, k ≤ l.length → (ordE (l.take k)).Perm (l.take k) ∧ (ordE (l.take k)).Pairwise (fun a b => ltE a b = true)
  | 0, _ => by simp [ordE]
  | k + 1, hk => by
    obtain ⟨h1, h2⟩ := ordE_aux hv k (by omega)
    have hx := List.getElem?_eq_getElem (show k < l.length by omega)
    rw [ordE_snoc hx]
    refine ⟨(insO_perm _ _ _).trans ?_, insO_sorted (ltE_tot hv) (List.mem_of_getElem? hx) (fun _ hy => List.mem_of_mem_take (h1.mem_iff.1 hy)) (fun y hy e => ?_) h2⟩
    · rw [take_snoc hx]
      exact (h1.cons _).trans (List.perm_append_singleton _ _).symm
    · have hm := h1.mem_iff.1 hy
      exact ((hv.2 k _ hx).2 y hm).1 (by rw [e])
theorem ordE_len {l : List EntrantD} (hv : EntsOk l) {k : Nat} (hk : k ≤ l.length) : (ordE (l.take k)).length = k := by rw [(ordE_aux hv k hk).1.length_eq]; simp; omega
theorem ordE_in {l : List EntrantD} (hv : EntsOk l) {k : Nat} (hk : k ≤ l.length) : ∀ y ∈ ordE (l.take k), y ∈ l := fun _ hy => List.mem_of_mem_take ((ordE_aux hv k hk).1.mem_iff.1 hy)
end Go.Proofs.YthocihmhljmgdaaGreatDoor

/-
  Groups of entrants by rank: plain words; the program's rankGroups, in the abstract machine.
-/
namespace Go.Proofs.YthocihmhljmgdaaGreatDoor
open Go.RowKit Go.Sort

/-- sizes add up -/
theorem offZ_szs (n g : Nat) : ∀ k, k ≤ g → offZ (szsZ n g g) k = k * (n / g) + min k (n % g)
  | 0, _ => by simp [offZ]
  | k + 1, hk => by
    have hg : (szsZ n g g)[k]? = some (szZ n g k : Int) := by unfold szsZ; rw [List.getElem?_map, List.getElem?_range (by omega)]; rfl
    rw [offZ_succ hg, offZ_szs n g k (by omega)]
    simp only [Int.toNat_natCast]
    unfold szZ
    rw [Nat.add_mul, Nat.one_mul]
    split <;> omega
theorem offZ_all {n g : Nat} (h0 : 0 < g) : offZ (szsZ n g g) g = n := by
  rw [offZ_szs n g g (Nat.le_refl _)]
  have h1 := Nat.mod_lt n h0
  have h2 := Nat.div_add_mod n g
  rw [Nat.min_eq_right (by omega)]
  omega
def many (l : List EntrantD) (s : Nat) : Nat := (l.length + s - 1) / s
def chE (l : List EntrantD) (g : Nat) : List (List Int) := cutZ (szsZ l.length g g) ((ordE l).map EntrantD.skater) g
def grpE (l : List EntrantD) (g : Nat) : List (List Int) := (chE l g).map sortUp
theorem chE_len (l : List EntrantD) (g : Nat) : (chE l g).length = g := cutZ_len _ _ _
theorem szsZ_nn {n g k : Nat} : ∀ s ∈ szsZ n g k, 0 ≤ s := by
  intro s hs
  obtain ⟨i, _, rfl⟩ := List.mem_map.1 hs
  omega
theorem chE_bd {l : List EntrantD} (hv : EntsOk l) (g : Nat) : ∀ c ∈ chE l g, c.length ≤ 40 := by
  intro c hc
  unfold chE cutZ at hc
  obtain ⟨i, _, rfl⟩ := List.mem_map.1 hc
  have h1 := ordE_len hv (Nat.le_refl l.length)
  rw [List.take_length] at h1
  rw [List.length_take, List.length_drop, List.length_map, h1]
  have := hv.1
  omega
end Go.Proofs.YthocihmhljmgdaaGreatDoor
