/-
  Keys mixed: the program's keyMix and keyBelow and the reference's, in the abstract machine.
-/
import Derived.Test.YthocihmhljmgdaaGreatDoorZOrd
import Derived.Test.YthocihmhljmgdaaGreatDoorZEo
import Derived.Test.YthocihmhljmgdaaGreatDoorZTk
set_option linter.unusedSimpArgs false
set_option linter.unusedVariables false
set_option maxHeartbeats 2000000
set_option maxRecDepth 100000
namespace Go.Proofs.YthocihmhljmgdaaGreatDoor
open Go.RowKit

def mixA (a x : Int) : Int := (29 * a + x + 13).tmod 1000003
def mixB (a : Int) : Int := (a * (a.tdiv 16 + 5)).tmod 1000003
def mixS (a x : Int) : Int := mixB (mixA a x)
theorem mixA_bd {a x : Int} (ha : 0 ≤ a ∧ a ≤ 1000003) (hx : 0 ≤ x ∧ x ≤ 1000000000) : 0 ≤ mixA a x ∧ mixA a x ≤ 1000003 := by
  unfold mixA
  have h1 := Int.tmod_nonneg (a := 29 * a + x + 13) 1000003 (by omega)
  have h2 := Int.tmod_lt_of_pos (29 * a + x + 13) (b := 1000003) (by omega)
  omega
theorem quo_bd {a : Int} (ha : 0 ≤ a ∧ a ≤ 1000003) : 0 ≤ a.tdiv 16 ∧ a.tdiv 16 ≤ 1000003 := by
  have h1 := Int.tdiv_nonneg (a := a) (b := 16) ha.1 (by omega)
  have h2 : a.tdiv 16 ≤ a := Int.tdiv_le_self _ ha.1
  omega
theorem mul_bd {a : Int} (ha : 0 ≤ a ∧ a ≤ 1000003) : 0 ≤ a * (a.tdiv 16 + 5) ∧ a * (a.tdiv 16 + 5) ≤ 1000011000024 := by
  have hq := quo_bd ha
  generalize a.tdiv 16 = q at hq
  constructor
  · exact Int.mul_nonneg ha.1 (by omega)
  · have := Int.mul_le_mul (a := a) (b := q + 5) (c := 1000003) (d := 1000008) ha.2 (by omega) (by omega) (by omega)
    omega
theorem mixB_bd {a : Int} (ha : 0 ≤ a ∧ a ≤ 1000003) : 0 ≤ mixB a ∧ mixB a ≤ 1000003 := by
  unfold mixB
  have hm := mul_bd ha
  have h1 := Int.tmod_nonneg (a := a * (a.tdiv 16 + 5)) 1000003 (by omega)
  have h2 := Int.tmod_lt_of_pos (a * (a.tdiv 16 + 5)) (b := 1000003) (by omega)
  omega
def KeyR (ks : List Int) : Prop := ∀ x ∈ ks, 0 ≤ x ∧ x ≤ 1000000000
theorem KeyR.app {ks ms : List Int} (h : KeyR ks) (h' : KeyR ms) : KeyR (ks ++ ms) := fun x hx => (List.mem_append.1 hx).elim (h x) (h' x)
theorem KeyR.one {n : Int} (h : 0 ≤ n) (h' : n ≤ 1000000000) : KeyR [n] := fun x hx => by rw [List.mem_singleton] at hx; subst hx; exact ⟨h, h'⟩
def mixF (xs : List Int) (a : Int) : Int := xs.foldl mixS a
theorem mixF_zero (a : Int) : mixF [] a = a := rfl
theorem mixF_snoc {xs : List Int} {k : Nat} {x : Int} (a : Int) (hx : xs[k]? = some x) : mixF (xs.take (k + 1)) a = mixB (mixA (mixF (xs.take k) a) x) := by unfold mixF; rw [take_snoc hx, List.foldl_append]; rfl
theorem mixF_bd : ∀ {xs : List Int} {a : Int}, 0 ≤ a ∧ a ≤ 1000003 → KeyR xs → 0 ≤ mixF xs a ∧ mixF xs a ≤ 1000003
  | [], _, h, _ => h
  | x :: xs, a, h, hk => by
    have h1 : 0 ≤ mixS a x ∧ mixS a x ≤ 1000003 := mixB_bd (mixA_bd h (hk x (by simp)))
    exact mixF_bd (xs := xs) h1 fun y hy => hk y (List.mem_cons_of_mem _ hy)
def mixZ (ks : List Int) : Int := mixF (ks ++ [4, 1]) (5231 + (ks.length : Int))
theorem keyR41 {ks : List Int} (h : KeyR ks) : KeyR (ks ++ [4, 1]) := h.app fun x hx => by
  rcases List.mem_cons.1 hx with rfl | hx
  · omega
  · rw [List.mem_singleton] at hx; omega
theorem mixZ_bd {ks : List Int} (hl : ks.length ≤ 1000) (h : KeyR ks) : 0 ≤ mixZ ks ∧ mixZ ks ≤ 1000003 := mixF_bd (by omega) (keyR41 h)
theorem keyMix_ok (ks : List Int) (hl : ks.length ≤ 1000) (hk : KeyR ks) : FnEq Tryz.prog 154 [.d (.lst 1 (ks.map datI))] [.d (.int .i64 (mixZ ks))] := by
  refine fn_ok G_ok Tryz.func154 rfl rfl ?_; simp only [Tryz.ntmps154, List.length_cons, List.length_nil, Nat.reduceAdd, Nat.reduceSub, enm]
  have hap : ks.map datI ++ [[.int .i64 4], [.int .i64 1]] = (ks ++ [4, 1]).map datI := by simp [datI]
  have hz : mixZ ks = mixF (ks ++ [4, 1]) (5231 + (ks.length : Int)) := rfl
  have hr := keyR41 hk
  have ha : 0 ≤ 5231 + (ks.length : Int) ∧ 5231 + (ks.length : Int) ≤ 1000003 := by omega
  have hxl : (ks ++ [4, 1]).length = ks.length + 2 := by simp
  rw [hz]
  repeat' (first | ((with_reducible first | (refine hK _ ?_; clear hK K) | refine stq fun K' hK' => ?_ | refine stc ?_); try simp only [go_sem, hap, List.length_map]) | (with_reducible first | refine stp ?_ | (refine hK' _ ?_; clear hK' K') | refine kN kl154 fun K hK => ?_ | refine kO fun K hK => ?_) | ((with_reducible apply CallK.eq); (· with_reducible first | exact copyInts_ok ks (by omega)); (· simp [RV.flat, D.sc, datI]); try simp only [go_sem, hap, List.length_map]) | refine iB ?_ | (with_reducible refine pK_mk ?_ ?_ <;> (intro hc; (try simp only [go_sem, hap, List.length_map]); (try simp at hc); try (exfalso; omega))) | with_reducible refine And.intro (by first | omega | (unfold inI; omega)) ?_)
  generalize ks ++ [4, 1] = xs at hap hr hxl
  generalize 5231 + (ks.length : Int) = a at ha
  refine pw_loop_over [2, 3, 5, 14, 15, 16, 17, 18, 19, 20, 21, 22, 23, 24, 25, 26, 27, 28, 29, 30] (fun k : Nat => [(14, .d (.int .i64 (k : Int))), (3, .d (.int .i64 (mixF (xs.take k) a))), (12, .row 0 xs.length)]) (fun k : Nat => [(0, .row 3 1 (xs.map datI))]) 1 (fun k : Nat => k ≤ xs.length) (fun k : Nat => xs.length - k) 0 (Nat.zero_le _) (fits_mk [] (by simp [renL_d, bdL_d, sg, over, wipe, wl, memN, ins, rm, lk, fitFr, fit1, ren, renL, bd, bdL, app, fitHp, hget, renB, bdB, mixF_zero, hxl] <;> omega)) ?_
  intro k hkl
  have hb := mixF_bd (xs := xs.take k) ha (fun x hx => hr x (List.mem_of_mem_take hx))
  simp only [over, wipe, wl, memN, ins, rm, if_true, if_false, Nat.reduceEqDiff, Bool.false_eq_true, reduceCtorEq]
  by_cases hlt : k < xs.length
  · have hx := List.getElem?_eq_getElem hlt
    generalize xs[k] = x at hx
    have hxr := hr x (List.mem_of_getElem? hx)
    have hs := mixF_snoc a hx
    have h1 := mixA_bd hb hxr
    have h2 := quo_bd h1
    have h3 := mul_bd h1
    generalize mixF (xs.take k) a = v at hb hs h1 h2 h3
    have hA : mixA v x = (29 * v + x + 13).tmod 1000003 := rfl
    have hB : mixB (mixA v x) = (mixA v x * ((mixA v x).tdiv 16 + 5)).tmod 1000003 := rfl
    repeat' (first | ((with_reducible first | (refine hK _ ?_; clear hK K) | refine stq fun K' hK' => ?_ | refine stc ?_); try simp only [go_sem, hlt, List.getElem?_map, hx, Option.map_some, datI, ← hA, ← hB]) | (with_reducible first | refine stp ?_ | (refine hK' _ ?_; clear hK' K') | refine kN kl154 fun K hK => ?_ | refine kO fun K hK => ?_) | refine iB ?_ | (with_reducible refine pK_mk ?_ ?_ <;> (intro hc; (try simp only [go_sem, hlt, List.getElem?_map, hx, Option.map_some, datI, ← hA, ← hB]); (try simp at hc); try (exfalso; omega))) | with_reducible refine And.intro (by first | omega | (unfold inI; omega)) ?_)
    all_goals first
      | (exfalso; omega)
      | exact ⟨k + 1, by omega, by omega, (fits_mk [] (by simp [renL_d, bdL_d, sg, over, wipe, wl, memN, ins, rm, lk, fitFr, fit1, ren, renL, bd, bdL, app, fitHp, hget, renB, bdB, hs] <;> omega))⟩
  · obtain rfl : k = xs.length := by omega
    rw [List.take_length]
    repeat' (first | ((with_reducible first | (refine hK _ ?_; clear hK K) | refine stq fun K' hK' => ?_ | refine stc ?_); try simp only [go_sem]) | (with_reducible first | refine stp ?_ | (refine hK' _ ?_; clear hK' K') | refine kN kl154 fun K hK => ?_ | refine kO fun K hK => ?_) | refine iB ?_ | (with_reducible refine pK_mk ?_ ?_ <;> (intro hc; (try simp only [go_sem]); (try simp at hc); try (exfalso; omega))) | with_reducible refine And.intro (by first | omega | (unfold inI; omega)) ?_)
    refine retQ_ret rfl rfl (by simp [rowsOf, lk]) ?_; rfl
theorem l1OwnM_ok (l : List Int) (hn : l.length ≤ 1048576) : FnEq Tryz.prog 86 [.d (.lst 1 (l.map datI))] [.row 3 1 (l.map datI)] := by
  refine fn_ok G_ok Tryz.func86 rfl rfl ?_; simp only [Tryz.ntmps86, List.length_cons, List.length_nil, Nat.reduceAdd, Nat.reduceSub, enm]
  repeat' (first | ((with_reducible first | (refine hK _ ?_; clear hK K) | refine stq fun K' hK' => ?_ | refine stc ?_); try simp only [go_sem, List.length_map]) | (with_reducible first | refine stp ?_ | (refine hK' _ ?_; clear hK' K') | refine kN kl86 fun K hK => ?_ | refine kO fun K hK => ?_) | (with_reducible refine pK_mk ?_ ?_ <;> (intro hc; (try simp only [go_sem, List.length_map]); (try simp at hc); try (exfalso; omega))) | with_reducible refine And.intro (by first | omega | (unfold inI; omega)) ?_)
  refine retQ_ret rfl (by simp only [retL, ret1, hget, lk, List.length_map, List.length_nil, List.length_append, List.length_take, if_true, if_false, Nat.reduceEqDiff, Nat.reduceBEq, Bool.false_eq_true, Option.some.injEq]; rfl) (by simp [rowsOf, lk]) ?_; rfl
theorem dwMix_ok (ks : List Int) (hl : ks.length ≤ 1000) (hk : KeyR ks) : FnEq Tryz.prog 155 [.d (.lst 1 (ks.map datI))] [.d (.int .i64 (mixZ ks))] := by
  refine fn_ok G_ok Tryz.func155 rfl rfl ?_; simp only [Tryz.ntmps155, List.length_cons, List.length_nil, Nat.reduceAdd, Nat.reduceSub, enm]
  have hap : ks.map datI ++ [[.int .i64 4], [.int .i64 1]] = (ks ++ [4, 1]).map datI := by simp [datI]
  have hz : mixZ ks = mixF (ks ++ [4, 1]) (5231 + (ks.length : Int)) := rfl
  have hr := keyR41 hk
  have ha : 0 ≤ 5231 + (ks.length : Int) ∧ 5231 + (ks.length : Int) ≤ 1000003 := by omega
  have hxl : (ks ++ [4, 1]).length = ks.length + 2 := by simp
  rw [hz]
  repeat' (first | ((with_reducible first | (refine hK _ ?_; clear hK K) | refine stq fun K' hK' => ?_ | refine stc ?_); try simp only [go_sem, hap, List.length_map]) | (with_reducible first | refine stp ?_ | (refine hK' _ ?_; clear hK' K') | refine kN kl155 fun K hK => ?_ | refine kO fun K hK => ?_) | ((with_reducible apply CallK.eq); (· with_reducible first | exact l1OwnM_ok ks (by omega)); (· simp [RV.flat, D.sc, datI]); try simp only [go_sem, hap, List.length_map]) | refine iB ?_ | (with_reducible refine pK_mk ?_ ?_ <;> (intro hc; (try simp only [go_sem, hap, List.length_map]); (try simp at hc); try (exfalso; omega))) | with_reducible refine And.intro (by first | omega | (unfold inI; omega)) ?_)
  generalize ks ++ [4, 1] = xs at hap hr hxl
  generalize 5231 + (ks.length : Int) = a at ha
  refine pw_loop_over [2, 3, 5, 14, 15, 16, 17, 18, 19, 20, 21, 22, 23, 24, 25, 26, 27, 28, 29, 30] (fun k : Nat => [(14, .d (.int .i64 (k : Int))), (3, .d (.int .i64 (mixF (xs.take k) a))), (12, .row 0 xs.length)]) (fun k : Nat => [(0, .row 3 1 (xs.map datI))]) 1 (fun k : Nat => k ≤ xs.length) (fun k : Nat => xs.length - k) 0 (Nat.zero_le _) (fits_mk [] (by simp [renL_d, bdL_d, sg, over, wipe, wl, memN, ins, rm, lk, fitFr, fit1, ren, renL, bd, bdL, app, fitHp, hget, renB, bdB, mixF_zero, hxl] <;> omega)) ?_
  intro k hkl
  have hb := mixF_bd (xs := xs.take k) ha (fun x hx => hr x (List.mem_of_mem_take hx))
  simp only [over, wipe, wl, memN, ins, rm, if_true, if_false, Nat.reduceEqDiff, Bool.false_eq_true, reduceCtorEq]
  by_cases hlt : k < xs.length
  · have hx := List.getElem?_eq_getElem hlt
    generalize xs[k] = x at hx
    have hxr := hr x (List.mem_of_getElem? hx)
    have hs := mixF_snoc a hx
    have h1 := mixA_bd hb hxr
    have h2 := quo_bd h1
    have h3 := mul_bd h1
    generalize mixF (xs.take k) a = v at hb hs h1 h2 h3
    have hA : mixA v x = (29 * v + x + 13).tmod 1000003 := rfl
    have hB : mixB (mixA v x) = (mixA v x * ((mixA v x).tdiv 16 + 5)).tmod 1000003 := rfl
    repeat' (first | ((with_reducible first | (refine hK _ ?_; clear hK K) | refine stq fun K' hK' => ?_ | refine stc ?_); try simp only [go_sem, hlt, List.getElem?_map, hx, Option.map_some, datI, ← hA, ← hB]) | (with_reducible first | refine stp ?_ | (refine hK' _ ?_; clear hK' K') | refine kN kl155 fun K hK => ?_ | refine kO fun K hK => ?_) | refine iB ?_ | (with_reducible refine pK_mk ?_ ?_ <;> (intro hc; (try simp only [go_sem, hlt, List.getElem?_map, hx, Option.map_some, datI, ← hA, ← hB]); (try simp at hc); try (exfalso; omega))) | with_reducible refine And.intro (by first | omega | (unfold inI; omega)) ?_)
    all_goals first
      | (exfalso; omega)
      | exact ⟨k + 1, by omega, by omega, (fits_mk [] (by simp [renL_d, bdL_d, sg, over, wipe, wl, memN, ins, rm, lk, fitFr, fit1, ren, renL, bd, bdL, app, fitHp, hget, renB, bdB, hs] <;> omega))⟩
  · obtain rfl : k = xs.length := by omega
    rw [List.take_length]
    repeat' (first | ((with_reducible first | (refine hK _ ?_; clear hK K) | refine stq fun K' hK' => ?_ | refine stc ?_); try simp only [go_sem]) | (with_reducible first | refine stp ?_ | (refine hK' _ ?_; clear hK' K') | refine kN kl155 fun K hK => ?_ | refine kO fun K hK => ?_) | refine iB ?_ | (with_reducible refine pK_mk ?_ ?_ <;> (intro hc; (try simp only [go_sem]); (try simp at hc); try (exfalso; omega))) | with_reducible refine And.intro (by first | omega | (unfold inI; omega)) ?_)
    refine retQ_ret rfl rfl (by simp [rowsOf, lk]) ?_; rfl
theorem withKeys_ok (ks ms : List Int) (hl : ks.length ≤ 1000) (hm : ms.length ≤ 1000) : FnEq Tryz.prog 78 [.d (.lst 1 (ks.map datI)), .d (.lst 1 (ms.map datI))] [.row 3 1 ((ks ++ ms).map datI)] := by
  refine fn_ok G_ok Tryz.func78 rfl rfl ?_; simp only [Tryz.ntmps78, List.length_cons, List.length_nil, Nat.reduceAdd, Nat.reduceSub, enm]
  have hap : ks.map datI ++ ms.map datI = (ks ++ ms).map datI := by simp
  have hxl : (ks ++ ms).length = ks.length + ms.length := by simp
  repeat' (first | ((with_reducible first | (refine hK _ ?_; clear hK K) | refine stq fun K' hK' => ?_ | refine stc ?_); try simp only [go_sem, hap, List.length_map]) | (with_reducible first | refine stp ?_ | (refine hK' _ ?_; clear hK' K') | refine kN kl78 fun K hK => ?_ | refine kO fun K hK => ?_) | ((with_reducible apply CallK.eq); (· with_reducible first | exact copyInts_ok ks (by omega)); (· simp [RV.flat, D.sc, datI]); try simp only [go_sem, hap, List.length_map]) | (with_reducible refine pK_mk ?_ ?_ <;> (intro hc; (try simp only [go_sem, hap, List.length_map]); (try simp at hc); try (exfalso; omega))) | with_reducible refine And.intro (by first | omega | (unfold inI; omega)) ?_)
  refine retQ_ret rfl (by simp only [hxl, retL, ret1, hget, lk, List.length_map, List.length_nil, List.length_append, List.length_take, if_true, if_false, Nat.reduceEqDiff, Nat.reduceBEq, Bool.false_eq_true, Option.some.injEq]; rfl) (by simp [rowsOf, lk]) ?_; rfl
theorem keyBelow_ok (ks : List Int) (n : Int) (hl : ks.length ≤ 900) (hk : KeyR ks) (h0 : 0 < n) (hn : n ≤ 1000000000) : FnEq Tryz.prog 137 [.d (.lst 1 (ks.map datI)), .d (.int .i64 n)] [.d (.int .i64 ((mixZ (ks ++ [n])).tmod n))] := by
  refine fn_ok G_ok Tryz.func137 rfl rfl ?_; simp only [Tryz.ntmps137, List.length_cons, List.length_nil, Nat.reduceAdd, Nat.reduceSub, enm]
  have hw := withKeys_ok ks [n] (by omega) (by simp)
  have hm := keyMix_ok (ks ++ [n]) (by simp; omega) (hk.app (KeyR.one (by omega) hn))
  have hn0 : ¬ n = 0 := by omega
  simp only [List.map_cons, List.map_nil, datI] at hw
  generalize ks ++ [n] = ys at hw hm
  repeat' (first | ((with_reducible first | (refine hK _ ?_; clear hK K) | refine stq fun K' hK' => ?_ | refine stc ?_); try simp only [go_sem, hn0, List.length_map, datI]) | (with_reducible first | refine stp ?_ | (refine hK' _ ?_; clear hK' K') | refine kN kl137 fun K hK => ?_ | refine kO fun K hK => ?_) | ((with_reducible apply CallK.eq); (· with_reducible first | exact hw | exact hm); (· simp [RV.flat, D.sc, datI]); try simp only [go_sem, hn0, List.length_map, datI]) | (with_reducible refine pK_mk ?_ ?_ <;> (intro hc; (try simp only [go_sem, hn0, List.length_map, datI]); (try simp at hc); try (exfalso; omega))) | with_reducible refine And.intro (by first | omega | (unfold inI; omega)) ?_)
  refine retQ_ret rfl rfl (by simp [rowsOf, lk]) ?_; rfl
theorem dwBelow_ok (ks : List Int) (n : Int) (hl : ks.length ≤ 900) (hk : KeyR ks) (h0 : 0 < n) (hn : n ≤ 1000000000) : FnEq Tryz.prog 138 [.d (.lst 1 (ks.map datI)), .d (.int .i64 n)] [.d (.int .i64 ((mixZ (ks ++ [n])).tmod n))] := by
  refine fn_ok G_ok Tryz.func138 rfl rfl ?_; simp only [Tryz.ntmps138, List.length_cons, List.length_nil, Nat.reduceAdd, Nat.reduceSub, enm]
  have hap : ks.map datI ++ [[.int .i64 n]] = (ks ++ [n]).map datI := by simp [datI]
  have hm := dwMix_ok (ks ++ [n]) (by simp; omega) (hk.app (KeyR.one (by omega) hn))
  have hn0 : ¬ n = 0 := by omega
  have hxl : ks.length + 1 = (ks ++ [n]).length := by simp
  generalize ks ++ [n] = ys at hap hm hxl
  repeat' (first | ((with_reducible first | (refine hK _ ?_; clear hK K) | refine stq fun K' hK' => ?_ | refine stc ?_); try simp only [go_sem, hn0, hap, hxl, List.length_map]) | (with_reducible first | refine stp ?_ | (refine hK' _ ?_; clear hK' K') | refine kN kl138 fun K hK => ?_ | refine kO fun K hK => ?_) | ((with_reducible apply CallK.eq); (· with_reducible first | exact l1OwnM_ok ks (by omega) | exact hm); (· simp [RV.flat, D.sc, datI]); try simp only [go_sem, hn0, hap, hxl, List.length_map]) | (with_reducible refine pK_mk ?_ ?_ <;> (intro hc; (try simp only [go_sem, hn0, hap, hxl, List.length_map]); (try simp at hc); try (exfalso; omega))) | with_reducible refine And.intro (by first | omega | (unfold inI; omega)) ?_)
  refine retQ_ret rfl rfl (by simp [rowsOf, lk]) ?_; rfl
end Go.Proofs.YthocihmhljmgdaaGreatDoor
namespace Go.Proofs.YthocihmhljmgdaaGreatDoor
open Go.RowKit

section
variable {P : Program} {o : Oper} {s : AS}
theorem pure_indexS {t : TypeId} {x i : Operand} {e : TypeId} {sz bytes : Nat} {z : List D} {k : IntKind} {n : Int} {y : PV} (ho : o.op = .indexAddr t x i) (ht : tiB P t (.slc e sz bytes z) = true) (hi : s.get i = .d (.int k n)) (h0 : 0 ≤ n) (hx : idxP sz n.toNat (s.get x) = some y) : PureAt P o s y := fun m X w a hq => by
  obtain ⟨b, off, len, c, h1, h2, h3⟩ := idxP_R hx (hq x)
  have h4 := hq i
  rw [hi] at h4
  obtain ⟨h5, ⟨inf, v, h6, h7, _⟩, _⟩ := tiB_slc ht
  refine ⟨_, fun u => ?_, h3⟩
  have hb : 0 ≤ n ∧ n < (len : Int) := ⟨h0, by omega⟩
  simp [execOp, ho, h1, h4.int, Instr.indexAt, run_underlying h5, asIntOf, hb, run_size h6, h7, Addr.add_lit]
end
def swpZ (o : List Int) (i j : Nat) : List Int := (o.set i (o.getD j 0)).set j (o.getD i 0)
theorem swpZ_len (o : List Int) (i j : Nat) : (swpZ o i j).length = o.length := by simp [swpZ]
theorem swpZ_perm {o : List Int} {i j : Nat} (hi : i < o.length) (hj : j < o.length) : (swpZ o i j).Perm o := by
  unfold swpZ
  rw [show o.getD j 0 = o[j] by simp [List.getD, List.getElem?_eq_getElem hj], show o.getD i 0 = o[i] by simp [List.getD, List.getElem?_eq_getElem hi]]
  exact List.set_set_perm hi hj
def upI (n : Nat) : List Int := (List.range n).map fun i : Nat => (i : Int)
theorem upI_zero : upI 0 = [] := rfl
theorem upI_succ (n : Nat) : upI (n + 1) = upI n ++ [(n : Int)] := by unfold upI; rw [List.range_succ]; simp
theorem upI_len (n : Nat) : (upI n).length = n := by simp [upI]
/-- the place that is exchanged with place i -/
def belZ (ks : List Int) (i : Nat) : Nat := ((mixZ ((ks ++ [(i : Int)]) ++ [(i : Int) + 1])).tmod ((i : Int) + 1)).toNat
theorem belZ_eq {ks : List Int} {i : Nat} (hl : ks.length ≤ 800) (hk : KeyR ks) (hi : i ≤ 1000) : (mixZ ((ks ++ [(i : Int)]) ++ [(i : Int) + 1])).tmod ((i : Int) + 1) = (belZ ks i : Int) ∧ belZ ks i ≤ i := by
  have h1 := mixZ_bd (ks := (ks ++ [(i : Int)]) ++ [(i : Int) + 1]) (by simp; omega) ((hk.app (KeyR.one (by omega) (by omega))).app (KeyR.one (by omega) (by omega)))
  have h2 := Int.tmod_nonneg (a := mixZ ((ks ++ [(i : Int)]) ++ [(i : Int) + 1])) ((i : Int) + 1) h1.1
  have h3 := Int.tmod_lt_of_pos (mixZ ((ks ++ [(i : Int)]) ++ [(i : Int) + 1])) (b := (i : Int) + 1) (by omega)
  unfold belZ
  omega
def shufT (ks : List Int) (n : Nat) : Nat → List Int
  | 0 => upI n
  | t + 1 => swpZ (shufT ks n t) (n - 1 - t) (belZ ks (n - 1 - t))
def shufZ (ks : List Int) (n : Nat) : List Int := shufT ks n (n - 1)
theorem shufT_len (ks : List Int) (n : Nat) : ∀ t, (shufT ks n t).length = n
  | 0 => upI_len n
  | t + 1 => by rw [shufT, swpZ_len, shufT_len ks n t]
theorem shufT_perm {ks : List Int} {n : Nat} (hl : ks.length ≤ 800) (hk : KeyR ks) (hn : n ≤ 1000) : ∀ t, t ≤ n - 1 → (shufT ks n t).Perm (upI n)
  | 0, _ => List.Perm.refl _
  | t + 1, ht => by
    have h1 := (belZ_eq hl hk (i := n - 1 - t) (by omega)).2
    have h2 := shufT_len ks n t
    rw [shufT]
    exact (swpZ_perm (by omega) (by omega)).trans (shufT_perm hl hk hn t (by omega))
theorem shufZ_in {ks : List Int} {n : Nat} (hl : ks.length ≤ 800) (hk : KeyR ks) (hn : n ≤ 1000) : ∀ x ∈ shufZ ks n, 0 ≤ x ∧ x < n := by
  intro x hx
  have h := (shufT_perm hl hk hn (n - 1) (Nat.le_refl _)).mem_iff.1 hx
  obtain ⟨i, hi, rfl⟩ := List.mem_map.1 h
  have := List.mem_range.1 hi
  omega
theorem shufZ_len (ks : List Int) (n : Nat) : (shufZ ks n).length = n := shufT_len ks n (n - 1)
/-- those of a list in the order of a shuffle -/
def pickZ (l : List Int) (s : List Int) : List Int := s.map fun i => l.getD i.toNat 0
theorem pickZ_zero (l : List Int) : pickZ l [] = [] := rfl
theorem pickZ_snoc {l s : List Int} {k : Nat} {x y : Int} (hx : s[k]? = some x) (hy : l[x.toNat]? = some y) : pickZ l (s.take (k + 1)) = pickZ l (s.take k) ++ [y] := by unfold pickZ; rw [take_snoc hx, List.map_append]; simp [List.getD, hy]
theorem pickZ_len (l s : List Int) : (pickZ l s).length = s.length := by simp [pickZ]
def numZ (ks l : List Int) : List Int := pickZ l (shufZ ks l.length)
theorem numZ_len (ks l : List Int) : (numZ ks l).length = l.length := by unfold numZ; rw [pickZ_len, shufZ_len]
theorem shuffleOf_ok (ks : List Int) (n : Nat) (hl : ks.length ≤ 100) (hk : KeyR ks) (hn : n ≤ 1000) : FnEq Tryz.prog 113 [.d (.lst 1 (ks.map datI)), .d (.int .i64 (n : Int))] [.row 3 1 ((shufZ ks n).map datI)] := by
  refine fn_ok G_ok Tryz.func113 rfl rfl ?_; simp only [Tryz.ntmps113, List.length_cons, List.length_nil, Nat.reduceAdd, Nat.reduceSub, enm]
  repeat' (first | ((with_reducible first | (refine hK _ ?_; clear hK K) | refine stq fun K' hK' => ?_ | refine stc ?_); try simp only [go_sem]) | (with_reducible first | refine stp ?_ | (refine hK' _ ?_; clear hK' K') | refine kN kl113 fun K hK => ?_ | refine kO fun K hK => ?_) | refine iB ?_ | (with_reducible refine pw_seq_tailK kl113 G_ok 4 13 mixed (by kernel_rfl) (fun K hK => ?_); simp only [List.take_succ_cons, List.take_zero, List.drop_succ_cons, List.drop_zero]) | (with_reducible refine pK_mk ?_ ?_ <;> (intro hc; (try simp only [go_sem]); (try simp at hc); try (exfalso; omega))) | with_reducible refine And.intro (by first | omega | (unfold inI; omega)) ?_)
  refine pw_loop_over [4, 5, 6, 11, 12, 13, 14, 15, 16, 17, 18] (fun k : Nat => [(11, .d (.int .i64 (k : Int))), (5, .row 0 k)]) (fun k : Nat => [(0, .row 3 1 ((upI k).map datI))]) 1 (fun k : Nat => k ≤ n) (fun k : Nat => n - k) 0 (Nat.zero_le _) (fits_mk [] (by simp [renL_d, bdL_d, sg, over, wipe, wl, memN, ins, rm, lk, fitFr, fit1, ren, renL, bd, bdL, app, fitHp, hget, renB, bdB, upI_zero] <;> omega)) ?_
  intro k hkn
  have hL := upI_len k
  simp only [over, wipe, wl, memN, ins, rm, if_true, if_false, Nat.reduceEqDiff, Bool.false_eq_true, reduceCtorEq]
  by_cases hlt : k < n
  · have e := upI_succ k
    repeat' (first | ((with_reducible first | (refine hK _ ?_; clear hK K) | refine stq fun K' hK' => ?_ | refine stc ?_); try simp only [go_sem, hlt]) | (with_reducible first | refine stp ?_ | (refine hK' _ ?_; clear hK' K') | refine kN kl113 fun K hK => ?_ | refine kO fun K hK => ?_) | refine iB ?_ | (with_reducible refine pw_seq_tailK kl113 G_ok 4 13 mixed (by kernel_rfl) (fun K hK => ?_); simp only [List.take_succ_cons, List.take_zero, List.drop_succ_cons, List.drop_zero]) | (with_reducible refine pK_mk ?_ ?_ <;> (intro hc; (try simp only [go_sem, hlt]); (try simp at hc); try (exfalso; omega))) | with_reducible refine And.intro (by first | omega | (unfold inI; omega)) ?_)
    all_goals first
      | (exfalso; omega)
      | exact ⟨k + 1, by omega, by omega, (fits_mk [] (by simp [renL_d, bdL_d, sg, over, wipe, wl, memN, ins, rm, lk, fitFr, fit1, ren, renL, bd, bdL, app, fitHp, hget, renB, bdB, e, datI] <;> omega))⟩
  obtain rfl : k = n := by omega
  repeat' (first | ((with_reducible first | (refine hK _ ?_; clear hK K) | refine stq fun K' hK' => ?_ | refine stc ?_); try simp only [go_sem]) | (with_reducible first | refine stp ?_ | (refine hK' _ ?_; clear hK' K') | refine kN kl113 fun K hK => ?_ | refine kO fun K hK => ?_) | refine iB ?_ | (with_reducible refine pw_seq_tailK kl113 G_ok 4 13 mixed (by kernel_rfl) (fun K hK => ?_); simp only [List.take_succ_cons, List.take_zero, List.drop_succ_cons, List.drop_zero]) | (with_reducible refine pK_mk ?_ ?_ <;> (intro hc; (try simp only [go_sem]); (try simp at hc); try (exfalso; omega))) | with_reducible refine And.intro (by first | omega | (unfold inI; omega)) ?_)
  refine pw_loop_over [4, 7, 8, 21, 22, 23, 24, 25, 26, 27, 28, 29, 30, 31, 32, 33, 34, 35, 36, 37, 38, 39, 40, 41, 42, 43, 44, 45] (fun t : Nat => [(7, .d (.int .i64 ((k : Int) - 1 - (t : Int)))), (5, .row 0 k)]) (fun t => [(0, .row 3 1 ((shufT ks k t).map datI))]) 1 (fun t => t ≤ k - 1) (fun t => k - t) 0 (by omega) (fits_mk [] (by simp [renL_d, bdL_d, sg, over, wipe, wl, memN, ins, rm, lk, fitFr, fit1, ren, renL, bd, bdL, app, fitHp, hget, renB, bdB, shufT] <;> omega)) ?_
  intro t ht
  simp only [over, wipe, wl, memN, ins, rm, if_true, if_false, Nat.reduceEqDiff, Bool.false_eq_true, reduceCtorEq]
  by_cases hgo : 1 ≤ (k : Int) - 1 - (t : Int)
  · obtain ⟨i, hi⟩ : ∃ i : Nat, (k : Int) - 1 - (t : Int) = (i : Int) := ⟨k - 1 - t, by omega⟩
    have hin : i < k := by omega
    have hi1 : 1 ≤ (i : Int) := by omega
    rw [hi]
    have hr := shufT_len ks k t
    have hbe := belZ_eq (ks := ks) (i := i) (by omega) hk (by omega)
    have hs : swpZ (shufT ks k t) i (belZ ks i) = shufT ks k (t + 1) := by rw [shufT, show k - 1 - t = i by omega]
    have hwk := withKeys_ok ks [(i : Int)] (by omega) (by simp)
    have hkb := keyBelow_ok (ks ++ [(i : Int)]) ((i : Int) + 1) (by simp; omega) (hk.app (KeyR.one (by omega) (by omega))) (by omega) (by omega)
    rw [hbe.1] at hkb
    generalize belZ ks i = b at hbe hs hkb
    replace hbe := hbe.2
    generalize shufT ks k t = r at hr hs
    have hxi := List.getElem?_eq_getElem (show i < r.length by omega)
    have hxj := List.getElem?_eq_getElem (show b < r.length by omega)
    generalize r[i] = x at hxi
    generalize r[b] = y at hxj
    have hse : ((r.map datI).set i [.int .i64 y]).set b [.int .i64 x] = (shufT ks k (t + 1)).map datI := by rw [← hs]; unfold swpZ; simp [List.getD, hxi, hxj, List.map_set, datI]
    obtain ⟨z, hsj⟩ : ∃ z, ((r.map datI).set i [.int .i64 y])[b]? = some [.int .i64 z] := ⟨(r.set i y)[b]'(by simp; omega), by rw [show (r.map datI).set i [.int .i64 y] = (r.set i y).map datI by rw [List.map_set]; rfl, List.getElem?_map, List.getElem?_eq_getElem (by simp; omega)]; rfl⟩
    simp only [List.map_cons, List.map_nil, datI] at hwk
    have hxl : ks.length + 1 = (ks ++ [(i : Int)]).length := by simp
    generalize ks ++ [(i : Int)] = ys at hwk hkb hxl
    repeat' (first | ((with_reducible first | (refine hK _ ?_; clear hK K) | refine stq fun K' hK' => ?_ | refine stc ?_); try simp only [go_sem, hi1, List.length_map, datI]) | (with_reducible first | refine stp ?_ | (refine hK' _ ?_; clear hK' K') | refine kN kl113 fun K hK => ?_ | refine kO fun K hK => ?_) | ((with_reducible first | apply CallK.eq | apply CallQ.eqs); (· with_reducible first | exact hwk | exact hkb); (· first | exact rfl | (simp [RV.flat, D.sc, datI]; done)); try simp only [go_sem, hi1, List.length_map, datI]) | refine iB ?_ | (with_reducible refine pK_mk ?_ ?_ <;> (intro hc; (try simp only [go_sem, hi1, List.length_map, datI]); (try simp at hc); try (exfalso; omega))) | with_reducible refine And.intro (by first | omega | (unfold inI; omega)) ?_)
    all_goals first
      | (exfalso; omega)
      | skip
    refine pw_anyN mixed ?_
    refine anyN_take 0 rfl rfl rfl (by decide +kernel) (by decide +kernel) (by decide +kernel) (pure_move (.inl rfl)) ?_
    try simp only [go_sem, Int.toNat_zero, Nat.sub_zero, Nat.zero_add, Int.add_sub_cancel, Int.toNat_natCast, Nat.mul_one, List.length_map]
    refine anyN_take 1 rfl rfl rfl (by decide +kernel) (by decide +kernel) (by decide +kernel) (pure_move (.inl rfl)) ?_
    try simp only [go_sem, Int.toNat_zero, Nat.sub_zero, Nat.zero_add, Int.add_sub_cancel, Int.toNat_natCast, Nat.mul_one, List.length_map]
    refine anyN_take 2 rfl rfl rfl (by decide +kernel) (by decide +kernel) (by decide +kernel) (pure_move (.inl rfl)) ?_
    try simp only [go_sem, Int.toNat_zero, Nat.sub_zero, Nat.zero_add, Int.add_sub_cancel, Int.toNat_natCast, Nat.mul_one, List.length_map]
    refine anyN_take 3 rfl rfl rfl (by decide +kernel) (by decide +kernel) (by decide +kernel) (pure_move (.inl rfl)) ?_
    try simp only [go_sem, Int.toNat_zero, Nat.sub_zero, Nat.zero_add, Int.add_sub_cancel, Int.toNat_natCast, Nat.mul_one, List.length_map]
    refine anyN_take 4 rfl rfl rfl (by decide +kernel) (by decide +kernel) (by decide +kernel) (pure_move (.inl rfl)) ?_
    try simp only [go_sem, Int.toNat_zero, Nat.sub_zero, Nat.zero_add, Int.add_sub_cancel, Int.toNat_natCast, Nat.mul_one, List.length_map]
    refine anyN_take 5 rfl rfl rfl (by decide +kernel) (by decide +kernel) (by decide +kernel) (pure_move (.inl rfl)) ?_
    try simp only [go_sem, Int.toNat_zero, Nat.sub_zero, Nat.zero_add, Int.add_sub_cancel, Int.toNat_natCast, Nat.mul_one, List.length_map]
    refine anyN_take 8 rfl rfl rfl (by decide +kernel) (by decide +kernel) (by decide +kernel) (pure_move (.inl rfl)) ?_
    try simp only [go_sem, Int.toNat_zero, Nat.sub_zero, Nat.zero_add, Int.add_sub_cancel, Int.toNat_natCast, Nat.mul_one, List.length_map]
    refine anyN_take 9 rfl rfl rfl (by decide +kernel) (by decide +kernel) (by decide +kernel) (pure_move (.inl rfl)) ?_
    try simp only [go_sem, Int.toNat_zero, Nat.sub_zero, Nat.zero_add, Int.add_sub_cancel, Int.toNat_natCast, Nat.mul_one, List.length_map]
    refine anyN_take 6 rfl rfl rfl (by decide +kernel) (by decide +kernel) (by decide +kernel) (pure_indexS rfl (G_ok _ _ G31) rfl (by omega) (if_pos (by omega))) ?_
    try simp only [go_sem, Int.toNat_zero, Nat.sub_zero, Nat.zero_add, Int.add_sub_cancel, Int.toNat_natCast, Nat.mul_one, List.length_map]
    refine anyN_take 10 rfl rfl rfl (by decide +kernel) (by decide +kernel) (by decide +kernel) (pure_indexS rfl (G_ok _ _ G31) rfl (by omega) (if_pos (by omega))) ?_
    try simp only [go_sem, Int.toNat_zero, Nat.sub_zero, Nat.zero_add, Int.add_sub_cancel, Int.toNat_natCast, Nat.mul_one, List.length_map]
    refine anyN_step G_ok [7, 11] (by decide +kernel) rfl ⟨⟨_, rfl, fun K' hK' => ?_⟩, ⟨_, rfl, fun K' hK' => ?_⟩, trivial⟩
    · (first | with_reducible refine s_none rfl ?_ | refine s_some2 rfl ?_)
      simp only [go_sem, Int.toNat_zero, Nat.sub_zero, Nat.zero_add, Int.add_sub_cancel, Int.toNat_natCast, Nat.mul_one, List.length_map, hsj, List.getElem?_map, hxi, hxj, Option.map_some, datI]
      refine hK' _ ?_
      clear hK' K'
      try simp only [go_sem, Int.toNat_zero, Nat.sub_zero, Nat.zero_add, Int.add_sub_cancel, Int.toNat_natCast, Nat.mul_one, List.length_map, hsj, List.getElem?_map, hxi, hxj, Option.map_some, datI]
      refine anyN_step G_ok [11] (by decide +kernel) rfl ⟨⟨_, rfl, fun K' hK' => ?_⟩, trivial⟩
      · (first | with_reducible refine s_none rfl ?_ | refine s_some2 rfl ?_)
        simp only [go_sem, Int.toNat_zero, Nat.sub_zero, Nat.zero_add, Int.add_sub_cancel, Int.toNat_natCast, Nat.mul_one, List.length_map, hsj, List.getElem?_map, hxi, hxj, Option.map_some, datI]
        refine hK' _ ?_
        clear hK' K'
        try simp only [go_sem, Int.toNat_zero, Nat.sub_zero, Nat.zero_add, Int.add_sub_cancel, Int.toNat_natCast, Nat.mul_one, List.length_map, hsj, List.getElem?_map, hxi, hxj, Option.map_some, datI]
        refine anyN_take 12 rfl rfl rfl (by decide +kernel) (by decide +kernel) (by decide +kernel) (pure_indexS rfl (G_ok _ _ G31) rfl (by omega) (if_pos (by omega))) ?_
        try simp only [go_sem, Int.toNat_zero, Nat.sub_zero, Nat.zero_add, Int.add_sub_cancel, Int.toNat_natCast, Nat.mul_one, List.length_map]
        refine anyN_step G_ok [13] (by decide +kernel) rfl ⟨⟨_, rfl, fun K' hK' => ?_⟩, trivial⟩
        · (first | with_reducible refine s_none rfl ?_ | refine s_some2 rfl ?_)
          simp only [go_sem, Int.toNat_zero, Nat.sub_zero, Nat.zero_add, Int.add_sub_cancel, Int.toNat_natCast, Nat.mul_one, List.length_map, hsj, List.getElem?_map, hxi, hxj, Option.map_some, datI]
          refine hK' _ ?_
          clear hK' K'
          try simp only [go_sem, Int.toNat_zero, Nat.sub_zero, Nat.zero_add, Int.add_sub_cancel, Int.toNat_natCast, Nat.mul_one, List.length_map, hsj, List.getElem?_map, hxi, hxj, Option.map_some, datI]
          refine anyN_take 14 rfl rfl rfl (by decide +kernel) (by decide +kernel) (by decide +kernel) (pure_indexS rfl (G_ok _ _ G31) rfl (by omega) (if_pos (by omega))) ?_
          try simp only [go_sem, Int.toNat_zero, Nat.sub_zero, Nat.zero_add, Int.add_sub_cancel, Int.toNat_natCast, Nat.mul_one, List.length_map]
          refine anyN_step G_ok [15] (by decide +kernel) rfl ⟨⟨_, rfl, fun K' hK' => ?_⟩, trivial⟩
          · (first | with_reducible refine s_none rfl ?_ | refine s_some2 rfl ?_)
            simp only [go_sem, Int.toNat_zero, Nat.sub_zero, Nat.zero_add, Int.add_sub_cancel, Int.toNat_natCast, Nat.mul_one, List.length_map, hsj, List.getElem?_map, hxi, hxj, Option.map_some, datI]
            refine hK' _ ?_
            clear hK' K'
            try simp only [go_sem, Int.toNat_zero, Nat.sub_zero, Nat.zero_add, Int.add_sub_cancel, Int.toNat_natCast, Nat.mul_one, List.length_map, hsj, List.getElem?_map, hxi, hxj, Option.map_some, datI]
            refine anyN_done (by decide +kernel) ?_
            simp only [go_sem, Int.toNat_zero, Nat.sub_zero, Nat.zero_add, Int.add_sub_cancel, Int.toNat_natCast, Nat.mul_one, List.length_map, hsj, List.getElem?_map, hxi, hxj, Option.map_some, datI, hse]
            repeat' (first | ((with_reducible first | (refine hK _ ?_; clear hK K) | refine stq fun K' hK' => ?_ | refine stc ?_); try simp only [go_sem]) | (with_reducible first | refine stp ?_ | (refine hK' _ ?_; clear hK' K') | refine kN kl113 fun K hK => ?_ | refine kO fun K hK => ?_) | refine iB ?_ | (with_reducible refine pw_seq_tailK kl113 G_ok 4 13 mixed (by kernel_rfl) (fun K hK => ?_); simp only [List.take_succ_cons, List.take_zero, List.drop_succ_cons, List.drop_zero]) | (with_reducible refine pK_mk ?_ ?_ <;> (intro hc; (try simp only [go_sem]); (try simp at hc); try (exfalso; omega))) | with_reducible refine And.intro (by first | omega | (unfold inI; omega)) ?_)
            all_goals first
              | (exfalso; omega)
              | exact ⟨t + 1, by omega, by omega, (fits_mk [] (by simp [renL_d, bdL_d, sg, over, wipe, wl, memN, ins, rm, lk, fitFr, fit1, ren, renL, bd, bdL, app, fitHp, hget, renB, bdB] <;> omega))⟩
    · (first | with_reducible refine s_none rfl ?_ | refine s_some2 rfl ?_)
      simp only [go_sem, Int.toNat_zero, Nat.sub_zero, Nat.zero_add, Int.add_sub_cancel, Int.toNat_natCast, Nat.mul_one, List.length_map, hsj, List.getElem?_map, hxi, hxj, Option.map_some, datI]
      refine hK' _ ?_
      clear hK' K'
      try simp only [go_sem, Int.toNat_zero, Nat.sub_zero, Nat.zero_add, Int.add_sub_cancel, Int.toNat_natCast, Nat.mul_one, List.length_map, hsj, List.getElem?_map, hxi, hxj, Option.map_some, datI]
      refine anyN_step G_ok [7] (by decide +kernel) rfl ⟨⟨_, rfl, fun K' hK' => ?_⟩, trivial⟩
      · (first | with_reducible refine s_none rfl ?_ | refine s_some2 rfl ?_)
        simp only [go_sem, Int.toNat_zero, Nat.sub_zero, Nat.zero_add, Int.add_sub_cancel, Int.toNat_natCast, Nat.mul_one, List.length_map, hsj, List.getElem?_map, hxi, hxj, Option.map_some, datI]
        refine hK' _ ?_
        clear hK' K'
        try simp only [go_sem, Int.toNat_zero, Nat.sub_zero, Nat.zero_add, Int.add_sub_cancel, Int.toNat_natCast, Nat.mul_one, List.length_map, hsj, List.getElem?_map, hxi, hxj, Option.map_some, datI]
        refine anyN_take 12 rfl rfl rfl (by decide +kernel) (by decide +kernel) (by decide +kernel) (pure_indexS rfl (G_ok _ _ G31) rfl (by omega) (if_pos (by omega))) ?_
        try simp only [go_sem, Int.toNat_zero, Nat.sub_zero, Nat.zero_add, Int.add_sub_cancel, Int.toNat_natCast, Nat.mul_one, List.length_map]
        refine anyN_step G_ok [13] (by decide +kernel) rfl ⟨⟨_, rfl, fun K' hK' => ?_⟩, trivial⟩
        · (first | with_reducible refine s_none rfl ?_ | refine s_some2 rfl ?_)
          simp only [go_sem, Int.toNat_zero, Nat.sub_zero, Nat.zero_add, Int.add_sub_cancel, Int.toNat_natCast, Nat.mul_one, List.length_map, hsj, List.getElem?_map, hxi, hxj, Option.map_some, datI]
          refine hK' _ ?_
          clear hK' K'
          try simp only [go_sem, Int.toNat_zero, Nat.sub_zero, Nat.zero_add, Int.add_sub_cancel, Int.toNat_natCast, Nat.mul_one, List.length_map, hsj, List.getElem?_map, hxi, hxj, Option.map_some, datI]
          refine anyN_take 14 rfl rfl rfl (by decide +kernel) (by decide +kernel) (by decide +kernel) (pure_indexS rfl (G_ok _ _ G31) rfl (by omega) (if_pos (by omega))) ?_
          try simp only [go_sem, Int.toNat_zero, Nat.sub_zero, Nat.zero_add, Int.add_sub_cancel, Int.toNat_natCast, Nat.mul_one, List.length_map]
          refine anyN_step G_ok [15] (by decide +kernel) rfl ⟨⟨_, rfl, fun K' hK' => ?_⟩, trivial⟩
          · (first | with_reducible refine s_none rfl ?_ | refine s_some2 rfl ?_)
            simp only [go_sem, Int.toNat_zero, Nat.sub_zero, Nat.zero_add, Int.add_sub_cancel, Int.toNat_natCast, Nat.mul_one, List.length_map, hsj, List.getElem?_map, hxi, hxj, Option.map_some, datI]
            refine hK' _ ?_
            clear hK' K'
            try simp only [go_sem, Int.toNat_zero, Nat.sub_zero, Nat.zero_add, Int.add_sub_cancel, Int.toNat_natCast, Nat.mul_one, List.length_map, hsj, List.getElem?_map, hxi, hxj, Option.map_some, datI]
            refine anyN_done (by decide +kernel) ?_
            simp only [go_sem, Int.toNat_zero, Nat.sub_zero, Nat.zero_add, Int.add_sub_cancel, Int.toNat_natCast, Nat.mul_one, List.length_map, hsj, List.getElem?_map, hxi, hxj, Option.map_some, datI, hse]
            repeat' (first | ((with_reducible first | (refine hK _ ?_; clear hK K) | refine stq fun K' hK' => ?_ | refine stc ?_); try simp only [go_sem]) | (with_reducible first | refine stp ?_ | (refine hK' _ ?_; clear hK' K') | refine kN kl113 fun K hK => ?_ | refine kO fun K hK => ?_) | refine iB ?_ | (with_reducible refine pw_seq_tailK kl113 G_ok 4 13 mixed (by kernel_rfl) (fun K hK => ?_); simp only [List.take_succ_cons, List.take_zero, List.drop_succ_cons, List.drop_zero]) | (with_reducible refine pK_mk ?_ ?_ <;> (intro hc; (try simp only [go_sem]); (try simp at hc); try (exfalso; omega))) | with_reducible refine And.intro (by first | omega | (unfold inI; omega)) ?_)
            all_goals first
              | (exfalso; omega)
              | exact ⟨t + 1, by omega, by omega, (fits_mk [] (by simp [renL_d, bdL_d, sg, over, wipe, wl, memN, ins, rm, lk, fitFr, fit1, ren, renL, bd, bdL, app, fitHp, hget, renB, bdB] <;> omega))⟩
  · have ht1 : t = k - 1 := by omega
    subst ht1
    have hzl : (shufT ks k (k - 1)).length = k := shufT_len ks k (k - 1)
    repeat' (first | ((with_reducible first | (refine hK _ ?_; clear hK K) | refine stq fun K' hK' => ?_ | refine stc ?_); try simp only [go_sem]) | (with_reducible first | refine stp ?_ | (refine hK' _ ?_; clear hK' K') | refine kN kl113 fun K hK => ?_ | refine kO fun K hK => ?_) | refine iB ?_ | (with_reducible refine pw_seq_tailK kl113 G_ok 4 13 mixed (by kernel_rfl) (fun K hK => ?_); simp only [List.take_succ_cons, List.take_zero, List.drop_succ_cons, List.drop_zero]) | (with_reducible refine pK_mk ?_ ?_ <;> (intro hc; (try simp only [go_sem]); (try simp at hc); try (exfalso; omega))) | with_reducible refine And.intro (by first | omega | (unfold inI; omega)) ?_)
    all_goals first
      | (exfalso; omega)
      | (refine retQ_ret rfl (by simp only [hzl, retL, ret1, hget, lk, List.length_map, List.length_nil, List.length_append, List.length_take, if_true, if_false, Nat.reduceEqDiff, Nat.reduceBEq, Bool.false_eq_true, Option.some.injEq]; rfl) (by simp [rowsOf, lk]) ?_; rfl)
theorem dwShuffle_ok (ks : List Int) (n : Nat) (hl : ks.length ≤ 100) (hk : KeyR ks) (hn : n ≤ 1000) : FnEq Tryz.prog 114 [.d (.lst 1 (ks.map datI)), .d (.int .i64 (n : Int))] [.row 3 1 ((shufZ ks n).map datI)] := by
  refine fn_ok G_ok Tryz.func114 rfl rfl ?_; simp only [Tryz.ntmps114, List.length_cons, List.length_nil, Nat.reduceAdd, Nat.reduceSub, enm]
  repeat' (first | ((with_reducible first | (refine hK _ ?_; clear hK K) | refine stq fun K' hK' => ?_ | refine stc ?_); try simp only [go_sem]) | (with_reducible first | refine stp ?_ | (refine hK' _ ?_; clear hK' K') | refine kN kl114 fun K hK => ?_ | refine kO fun K hK => ?_) | refine iB ?_ | (with_reducible refine pK_mk ?_ ?_ <;> (intro hc; (try simp only [go_sem]); (try simp at hc); try (exfalso; omega))) | with_reducible refine And.intro (by first | omega | (unfold inI; omega)) ?_)
  refine pw_loop_over [4, 5, 6, 10, 11, 12, 13, 14, 15, 16, 17, 18] (fun k : Nat => [(6, .d (.int .i64 (k : Int))), (5, .row 0 k)]) (fun k : Nat => [(0, .row 3 1 ((upI k).map datI))]) 1 (fun k : Nat => k ≤ n) (fun k : Nat => n - k) 0 (Nat.zero_le _) (fits_mk [] (by simp [renL_d, bdL_d, sg, over, wipe, wl, memN, ins, rm, lk, fitFr, fit1, ren, renL, bd, bdL, app, fitHp, hget, renB, bdB, upI_zero] <;> omega)) ?_
  intro k hkn
  have hL := upI_len k
  simp only [over, wipe, wl, memN, ins, rm, if_true, if_false, Nat.reduceEqDiff, Bool.false_eq_true, reduceCtorEq]
  by_cases hlt : k < n
  · have e := upI_succ k
    repeat' (first | ((with_reducible first | (refine hK _ ?_; clear hK K) | refine stq fun K' hK' => ?_ | refine stc ?_); try simp only [go_sem, hlt]) | (with_reducible first | refine stp ?_ | (refine hK' _ ?_; clear hK' K') | refine kN kl114 fun K hK => ?_ | refine kO fun K hK => ?_) | refine iB ?_ | (with_reducible refine pK_mk ?_ ?_ <;> (intro hc; (try simp only [go_sem, hlt]); (try simp at hc); try (exfalso; omega))) | with_reducible refine And.intro (by first | omega | (unfold inI; omega)) ?_)
    all_goals first
      | (exfalso; omega)
      | exact ⟨k + 1, by omega, by omega, (fits_mk [] (by simp [renL_d, bdL_d, sg, over, wipe, wl, memN, ins, rm, lk, fitFr, fit1, ren, renL, bd, bdL, app, fitHp, hget, renB, bdB, e, datI] <;> omega))⟩
  obtain rfl : k = n := by omega
  repeat' (first | ((with_reducible first | (refine hK _ ?_; clear hK K) | refine stq fun K' hK' => ?_ | refine stc ?_); try simp only [go_sem]) | (with_reducible first | refine stp ?_ | (refine hK' _ ?_; clear hK' K') | refine kN kl114 fun K hK => ?_ | refine kO fun K hK => ?_) | refine iB ?_ | (with_reducible refine pK_mk ?_ ?_ <;> (intro hc; (try simp only [go_sem]); (try simp at hc); try (exfalso; omega))) | with_reducible refine And.intro (by first | omega | (unfold inI; omega)) ?_)
  refine pw_loop_over [4, 7, 8, 9, 21, 22, 23, 24, 25, 26, 27, 28, 29, 30, 31, 32, 33, 34, 35, 36, 37, 38, 39, 40, 41, 42, 43, 44, 45, 46, 47] (fun t : Nat => [(7, .d (.int .i64 ((k : Int) - 1 - (t : Int)))), (5, .row 0 k)]) (fun t => [(0, .row 3 1 ((shufT ks k t).map datI))]) 1 (fun t => t ≤ k - 1) (fun t => k - t) 0 (by omega) (fits_mk [] (by simp [renL_d, bdL_d, sg, over, wipe, wl, memN, ins, rm, lk, fitFr, fit1, ren, renL, bd, bdL, app, fitHp, hget, renB, bdB, shufT] <;> omega)) ?_
  intro t ht
  simp only [over, wipe, wl, memN, ins, rm, if_true, if_false, Nat.reduceEqDiff, Bool.false_eq_true, reduceCtorEq]
  by_cases hgo : 1 ≤ (k : Int) - 1 - (t : Int)
  · obtain ⟨i, hi⟩ : ∃ i : Nat, (k : Int) - 1 - (t : Int) = (i : Int) := ⟨k - 1 - t, by omega⟩
    have hin : i < k := by omega
    have hi1 : 1 ≤ (i : Int) := by omega
    rw [hi]
    have hr := shufT_len ks k t
    have hbe := belZ_eq (ks := ks) (i := i) (by omega) hk (by omega)
    have hs : swpZ (shufT ks k t) i (belZ ks i) = shufT ks k (t + 1) := by rw [shufT, show k - 1 - t = i by omega]
    have hwk := l1OwnM_ok ks (by omega)
    have hkb := dwBelow_ok (ks ++ [(i : Int)]) ((i : Int) + 1) (by simp; omega) (hk.app (KeyR.one (by omega) (by omega))) (by omega) (by omega)
    rw [hbe.1] at hkb
    generalize belZ ks i = b at hbe hs hkb
    replace hbe := hbe.2
    generalize shufT ks k t = r at hr hs
    have hxi := List.getElem?_eq_getElem (show i < r.length by omega)
    have hxj := List.getElem?_eq_getElem (show b < r.length by omega)
    generalize r[i] = x at hxi
    generalize r[b] = y at hxj
    have hse : ((r.map datI).set i [.int .i64 y]).set b [.int .i64 x] = (shufT ks k (t + 1)).map datI := by rw [← hs]; unfold swpZ; simp [List.getD, hxi, hxj, List.map_set, datI]
    obtain ⟨z, hsj⟩ : ∃ z, ((r.map datI).set i [.int .i64 y])[b]? = some [.int .i64 z] := ⟨(r.set i y)[b]'(by simp; omega), by rw [show (r.map datI).set i [.int .i64 y] = (r.set i y).map datI by rw [List.map_set]; rfl, List.getElem?_map, List.getElem?_eq_getElem (by simp; omega)]; rfl⟩
    have hap : ks.map datI ++ [[.int .i64 (i : Int)]] = (ks ++ [(i : Int)]).map datI := by simp [datI]
    have hbk : b < k := by omega
    have hxl : ks.length + 1 = (ks ++ [(i : Int)]).length := by simp
    generalize ks ++ [(i : Int)] = ys at hkb hxl hap
    repeat' (first | ((with_reducible first | (refine hK _ ?_; clear hK K) | refine stq fun K' hK' => ?_ | refine stc ?_); try simp only [go_sem, hi1, hin, hbk, hap, hxl, hsj, hxi, hxj, hse, List.getElem?_map, Option.map_some, List.length_map, Int.toNat_natCast, datI]) | (with_reducible first | refine stp ?_ | (refine hK' _ ?_; clear hK' K') | refine kN kl114 fun K hK => ?_ | refine kO fun K hK => ?_) | ((with_reducible apply CallK.eq); (· with_reducible first | exact hwk | exact hkb); (· simp [RV.flat, D.sc, datI]); try simp only [go_sem, hi1, hin, hbk, hap, hxl, hsj, hxi, hxj, hse, List.getElem?_map, Option.map_some, List.length_map, Int.toNat_natCast, datI]) | refine iB ?_ | (with_reducible refine pK_mk ?_ ?_ <;> (intro hc; (try simp only [go_sem, hi1, hin, hbk, hap, hxl, hsj, hxi, hxj, hse, List.getElem?_map, Option.map_some, List.length_map, Int.toNat_natCast, datI]); (try simp at hc); try (exfalso; omega))) | with_reducible refine And.intro (by first | omega | (unfold inI; omega)) ?_)
    all_goals first
      | (exfalso; omega)
      | exact ⟨t + 1, by omega, by omega, (fits_mk [] (by simp [renL_d, bdL_d, sg, over, wipe, wl, memN, ins, rm, lk, fitFr, fit1, ren, renL, bd, bdL, app, fitHp, hget, renB, bdB] <;> omega))⟩
  · have ht1 : t = k - 1 := by omega
    subst ht1
    have hzl : (shufT ks k (k - 1)).length = k := shufT_len ks k (k - 1)
    repeat' (first | ((with_reducible first | (refine hK _ ?_; clear hK K) | refine stq fun K' hK' => ?_ | refine stc ?_); try simp only [go_sem]) | (with_reducible first | refine stp ?_ | (refine hK' _ ?_; clear hK' K') | refine kN kl114 fun K hK => ?_ | refine kO fun K hK => ?_) | refine iB ?_ | (with_reducible refine pK_mk ?_ ?_ <;> (intro hc; (try simp only [go_sem]); (try simp at hc); try (exfalso; omega))) | with_reducible refine And.intro (by first | omega | (unfold inI; omega)) ?_)
    all_goals first
      | (exfalso; omega)
      | (refine retQ_ret rfl (by simp only [hzl, retL, ret1, hget, lk, List.length_map, List.length_nil, List.length_append, List.length_take, if_true, if_false, Nat.reduceEqDiff, Nat.reduceBEq, Bool.false_eq_true, Option.some.injEq]; rfl) (by simp [rowsOf, lk]) ?_; rfl)
theorem shuffledNumbers_ok (ks l : List Int) (hl : ks.length ≤ 100) (hk : KeyR ks) (hn : l.length ≤ 1000) : FnEq Tryz.prog 77 [.d (.lst 1 (ks.map datI)), .d (.lst 1 (l.map datI))] [.row 3 1 ((numZ ks l).map datI)] := by
  refine fn_ok G_ok Tryz.func77 rfl rfl ?_; simp only [Tryz.ntmps77, List.length_cons, List.length_nil, Nat.reduceAdd, Nat.reduceSub, enm]
  have hsh := shuffleOf_ok ks l.length hl hk hn
  have hzi := shufZ_in (n := l.length) (by omega) hk hn
  have hzl := shufZ_len ks l.length
  have hnl := numZ_len ks l
  unfold numZ at hnl ⊢
  generalize shufZ ks l.length = s at hsh hzi hzl hnl
  repeat' (first | ((with_reducible first | (refine hK _ ?_; clear hK K) | refine stq fun K' hK' => ?_ | refine stc ?_); try simp only [go_sem, hzl, List.length_map]) | (with_reducible first | refine stp ?_ | (refine hK' _ ?_; clear hK' K') | refine kN kl77 fun K hK => ?_ | refine kO fun K hK => ?_) | ((with_reducible apply CallK.eq); (· with_reducible first | exact hsh); (· simp [RV.flat, D.sc, datI]); try simp only [go_sem, hzl, List.length_map]) | refine iB ?_ | (with_reducible refine pK_mk ?_ ?_ <;> (intro hc; (try simp only [go_sem, hzl, List.length_map]); (try simp at hc); try (exfalso; omega))) | with_reducible refine And.intro (by first | omega | (unfold inI; omega)) ?_)
  refine pw_loop_over [4, 5, 7, 14, 15, 16, 17, 18, 19, 20, 21, 22, 23, 24, 25] (fun k : Nat => [(14, .d (.int .i64 (k : Int))), (12, .row 0 s.length), (5, .row 1 k)]) (fun k : Nat => [(0, .row 3 1 (s.map datI)), (1, .row 3 1 ((pickZ l (s.take k)).map datI))]) 2 (fun k : Nat => k ≤ s.length) (fun k : Nat => s.length - k) 0 (Nat.zero_le _) (fits_mk [] (by simp [renL_d, bdL_d, sg, over, wipe, wl, memN, ins, rm, lk, fitFr, fit1, ren, renL, bd, bdL, app, fitHp, hget, renB, bdB, pickZ_zero, hzl] <;> omega)) ?_
  intro k hkl
  have hL : (pickZ l (s.take k)).length = k := by rw [pickZ_len, List.length_take]; omega
  simp only [over, wipe, wl, memN, ins, rm, if_true, if_false, Nat.reduceEqDiff, Bool.false_eq_true, reduceCtorEq]
  by_cases hlt : k < s.length
  · have hx := List.getElem?_eq_getElem hlt
    generalize s[k] = x at hx
    have hxr := hzi x (List.mem_of_getElem? hx)
    have hy := List.getElem?_eq_getElem (show x.toNat < l.length by omega)
    generalize l[x.toNat] = y at hy
    have e := pickZ_snoc hx hy
    have hx0 := hxr.1
    have hltl : k < l.length := by omega
    have hxl : x < (l.length : Int) := hxr.2
    repeat' (first | ((with_reducible first | (refine hK _ ?_; clear hK K) | refine stq fun K' hK' => ?_ | refine stc ?_); try simp only [go_sem, hzl, hlt, hltl, hx0, hxl, List.getElem?_map, hx, hy, Option.map_some, datI, List.length_map]) | (with_reducible first | refine stp ?_ | (refine hK' _ ?_; clear hK' K') | refine kN kl77 fun K hK => ?_ | refine kO fun K hK => ?_) | refine iB ?_ | (with_reducible refine pK_mk ?_ ?_ <;> (intro hc; (try simp only [go_sem, hzl, hlt, hltl, hx0, hxl, List.getElem?_map, hx, hy, Option.map_some, datI, List.length_map]); (try simp at hc); try (exfalso; omega))) | with_reducible refine And.intro (by first | omega | (unfold inI; omega)) ?_)
    all_goals first
      | (exfalso; omega)
      | exact ⟨k + 1, by omega, by omega, (fits_mk [] (by simp [renL_d, bdL_d, sg, over, wipe, wl, memN, ins, rm, lk, fitFr, fit1, ren, renL, bd, bdL, app, fitHp, hget, renB, bdB, e, datI] <;> omega))⟩
  · obtain rfl : k = s.length := by omega
    rw [List.take_length] at hL
    rw [List.take_length]
    repeat' (first | ((with_reducible first | (refine hK _ ?_; clear hK K) | refine stq fun K' hK' => ?_ | refine stc ?_); try simp only [go_sem]) | (with_reducible first | refine stp ?_ | (refine hK' _ ?_; clear hK' K') | refine kN kl77 fun K hK => ?_ | refine kO fun K hK => ?_) | refine iB ?_ | (with_reducible refine pK_mk ?_ ?_ <;> (intro hc; (try simp only [go_sem]); (try simp at hc); try (exfalso; omega))) | with_reducible refine And.intro (by first | omega | (unfold inI; omega)) ?_)
    refine retQ_ret rfl (by simp only [hL, retL, ret1, hget, lk, List.length_map, List.length_nil, List.length_append, List.length_take, if_true, if_false, Nat.reduceEqDiff, Nat.reduceBEq, Bool.false_eq_true, Option.some.injEq]; rfl) (by simp [rowsOf, lk]) ?_; rfl
theorem dwNumbers_ok (ks l : List Int) (hl : ks.length ≤ 100) (hk : KeyR ks) (hn : l.length ≤ 1000) : FnEq Tryz.prog 85 [.d (.lst 1 (ks.map datI)), .d (.lst 1 (l.map datI))] [.row 3 1 ((numZ ks l).map datI)] := by
  refine fn_ok G_ok Tryz.func85 rfl rfl ?_; simp only [Tryz.ntmps85, List.length_cons, List.length_nil, Nat.reduceAdd, Nat.reduceSub, enm]
  have hsh := dwShuffle_ok ks l.length hl hk hn
  have hzi := shufZ_in (n := l.length) (by omega) hk hn
  have hzl := shufZ_len ks l.length
  have hnl := numZ_len ks l
  unfold numZ at hnl ⊢
  generalize shufZ ks l.length = s at hsh hzi hzl hnl
  repeat' (first | ((with_reducible first | (refine hK _ ?_; clear hK K) | refine stq fun K' hK' => ?_ | refine stc ?_); try simp only [go_sem, hzl, List.length_map]) | (with_reducible first | refine stp ?_ | (refine hK' _ ?_; clear hK' K') | refine kN kl85 fun K hK => ?_ | refine kO fun K hK => ?_) | ((with_reducible apply CallK.eq); (· with_reducible first | exact hsh); (· simp [RV.flat, D.sc, datI]); try simp only [go_sem, hzl, List.length_map]) | refine iB ?_ | (with_reducible refine pK_mk ?_ ?_ <;> (intro hc; (try simp only [go_sem, hzl, List.length_map]); (try simp at hc); try (exfalso; omega))) | with_reducible refine And.intro (by first | omega | (unfold inI; omega)) ?_)
  refine pw_loop_over [4, 5, 7, 13, 14, 15, 16, 17, 18, 19, 20, 21, 22, 23, 24] (fun k : Nat => [(13, .d (.int .i64 (k : Int))), (11, .row 0 s.length), (5, .row 1 k)]) (fun k : Nat => [(0, .row 3 1 (s.map datI)), (1, .row 3 1 ((pickZ l (s.take k)).map datI))]) 2 (fun k : Nat => k ≤ s.length) (fun k : Nat => s.length - k) 0 (Nat.zero_le _) (fits_mk [] (by simp [renL_d, bdL_d, sg, over, wipe, wl, memN, ins, rm, lk, fitFr, fit1, ren, renL, bd, bdL, app, fitHp, hget, renB, bdB, pickZ_zero, hzl] <;> omega)) ?_
  intro k hkl
  have hL : (pickZ l (s.take k)).length = k := by rw [pickZ_len, List.length_take]; omega
  simp only [over, wipe, wl, memN, ins, rm, if_true, if_false, Nat.reduceEqDiff, Bool.false_eq_true, reduceCtorEq]
  by_cases hlt : k < s.length
  · have hx := List.getElem?_eq_getElem hlt
    generalize s[k] = x at hx
    have hxr := hzi x (List.mem_of_getElem? hx)
    have hy := List.getElem?_eq_getElem (show x.toNat < l.length by omega)
    generalize l[x.toNat] = y at hy
    have e := pickZ_snoc hx hy
    have hx0 := hxr.1
    have hltl : k < l.length := by omega
    have hxl : x < (l.length : Int) := hxr.2
    repeat' (first | ((with_reducible first | (refine hK _ ?_; clear hK K) | refine stq fun K' hK' => ?_ | refine stc ?_); try simp only [go_sem, hzl, hlt, hltl, hx0, hxl, List.getElem?_map, hx, hy, Option.map_some, datI, List.length_map]) | (with_reducible first | refine stp ?_ | (refine hK' _ ?_; clear hK' K') | refine kN kl85 fun K hK => ?_ | refine kO fun K hK => ?_) | refine iB ?_ | (with_reducible refine pK_mk ?_ ?_ <;> (intro hc; (try simp only [go_sem, hzl, hlt, hltl, hx0, hxl, List.getElem?_map, hx, hy, Option.map_some, datI, List.length_map]); (try simp at hc); try (exfalso; omega))) | with_reducible refine And.intro (by first | omega | (unfold inI; omega)) ?_)
    all_goals first
      | (exfalso; omega)
      | exact ⟨k + 1, by omega, by omega, (fits_mk [] (by simp [renL_d, bdL_d, sg, over, wipe, wl, memN, ins, rm, lk, fitFr, fit1, ren, renL, bd, bdL, app, fitHp, hget, renB, bdB, e, datI] <;> omega))⟩
  · obtain rfl : k = s.length := by omega
    rw [List.take_length] at hL
    rw [List.take_length]
    repeat' (first | ((with_reducible first | (refine hK _ ?_; clear hK K) | refine stq fun K' hK' => ?_ | refine stc ?_); try simp only [go_sem]) | (with_reducible first | refine stp ?_ | (refine hK' _ ?_; clear hK' K') | refine kN kl85 fun K hK => ?_ | refine kO fun K hK => ?_) | refine iB ?_ | (with_reducible refine pK_mk ?_ ?_ <;> (intro hc; (try simp only [go_sem]); (try simp at hc); try (exfalso; omega))) | with_reducible refine And.intro (by first | omega | (unfold inI; omega)) ?_)
    refine retQ_ret rfl (by simp only [hL, retL, ret1, hget, lk, List.length_map, List.length_nil, List.length_append, List.length_take, if_true, if_false, Nat.reduceEqDiff, Nat.reduceBEq, Bool.false_eq_true, Option.some.injEq]; rfl) (by simp [rowsOf, lk]) ?_; rfl
end Go.Proofs.YthocihmhljmgdaaGreatDoor
