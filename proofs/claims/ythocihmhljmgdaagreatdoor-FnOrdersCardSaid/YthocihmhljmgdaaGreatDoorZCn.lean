/-
  Notes read from a text: the reference's functions, in the abstract machine.
-/
import Derived.Test.YthocihmhljmgdaaGreatDoorZNj
import Derived.Test.YthocihmhljmgdaaGreatDoorZDl
import Derived.Test.YthocihmhljmgdaaGreatDoorZM9
import Derived.Test.YthocihmhljmgdaaGreatDoorZCu
set_option linter.unusedSimpArgs false
set_option linter.unusedVariables false
set_option maxHeartbeats 2000000
set_option maxRecDepth 100000
namespace Go.Proofs.YthocihmhljmgdaaGreatDoor
open Go.RowKit

theorem l1Read_ok (s : ByteArray) : FnEq Tryz.prog 69 [.d (.str s)] [.d (.int .i64 (rdS (bl s)))] := by
  refine fn_ok G_ok Tryz.func69 rfl rfl ?_; simp only [Tryz.ntmps69, List.length_cons, List.length_nil, Nat.reduceAdd, Nat.reduceSub, enm]
  by_cases hl : 1 ≤ s.size ∧ s.size ≤ 6
  · obtain ⟨hl1, hl6⟩ := hl
    have h0 : s.size ≠ 0 := by omega
    obtain ⟨b0, hb0⟩ : ∃ b, s[0]? = some b := ⟨_, getElem?_pos s 0 (by omega)⟩
    have hin := l1In_ok (s.size : Int) 1 6
    rw [show (decide ((1 : Int) ≤ (s.size : Int)) && decide ((s.size : Int) ≤ 6)) = true by simp; omega] at hin
    by_cases h48 : b0 = 48
    · subst h48
      by_cases h1 : 1 < s.size
      · have hz2 : (1 < (s.size : Int)) = True := eq_true (by omega)
        rw [rdS_no (by rintro ⟨⟨_, h⟩, _⟩; rw [bl_len, bl_get] at h; rcases h with h | h; omega; exact h.2 hb0)]
        repeat' (first | ((with_reducible first | (refine hK _ ?_; clear hK K) | refine stq fun K' hK' => ?_ | refine stc ?_); try simp only [go_sem, hb0, hz2]) | (with_reducible first | refine stp ?_ | (refine hK' _ ?_; clear hK' K') | refine kN kl69 fun K hK => ?_ | refine kO fun K hK => ?_) | (refine xS rfl fun K' hK' => ?_; simp only [go_sem, hb0, hz2]) | ((with_reducible apply CallK.eq); (· with_reducible first | exact hin); (· simp [RV.flat, D.sc, datI]); try simp only [go_sem, hb0, hz2]) | refine iB ?_ | (with_reducible refine pK_mk ?_ ?_ <;> (intro hc; (try simp only [go_sem, hb0, hz2]); (try simp at hc); try (exfalso; omega))) | with_reducible refine And.intro (by first | omega | (unfold inI; omega)) ?_)
        all_goals (refine retQ_ret rfl rfl (by simp [rowsOf, lk]) ?_; rfl)
      · have hz2 : (1 < (s.size : Int)) = False := eq_false (by omega)
        have hs1 : s.size = 1 := by omega
        have hz : ¬ (1 < s.size ∧ s[0]? = some 48) := fun h => h1 h.1
        repeat' (first | ((with_reducible first | (refine hK _ ?_; clear hK K) | refine stq fun K' hK' => ?_ | refine stc ?_); try simp only [go_sem, hb0, hz2]) | (with_reducible first | refine stp ?_ | (refine hK' _ ?_; clear hK' K') | refine kN kl69 fun K hK => ?_ | refine kO fun K hK => ?_) | (refine xS rfl fun K' hK' => ?_; simp only [go_sem, hb0, hz2]) | ((with_reducible apply CallK.eq); (· with_reducible first | exact hin); (· simp [RV.flat, D.sc, datI]); try simp only [go_sem, hb0, hz2]) | refine iB ?_ | (with_reducible refine pK_mk ?_ ?_ <;> (intro hc; (try simp only [go_sem, hb0, hz2]); (try simp at hc); try (exfalso; omega))) | with_reducible refine And.intro (by first | omega | (unfold inI; omega)) ?_)
        refine pw_loop_over [2, 3, 4, 19, 20, 21, 22, 23, 24, 25, 26, 27, 28, 29, 30, 31, 32, 33, 34, 35, 36, 37, 38, 39, 40, 41, 42] (fun k : Nat => [(4, .d (.int .i64 (k : Int))), (3, .d (.int .i64 (readL ((bl s).take k) : Int)))]) (fun k : Nat => []) 0 (fun k : Nat => k ≤ s.size ∧ ∀ b ∈ (bl s).take k, isDig b) (fun k : Nat => s.size - k) 0 ⟨Nat.zero_le _, by simp⟩ (fits_mk [] (by simp [renL_d, bdL_d, sg, over, wipe, wl, memN, ins, rm, lk, fitFr, fit1, ren, renL, bd, bdL, app, fitHp, hget, renB, bdB, List.take_zero, readL_nil] <;> omega)) ?_
        rintro k ⟨hk, hJ⟩
        have hR := rd_lt (s := s) (k := k) (by omega) hJ
        simp only [over, wipe, wl, memN, ins, rm, if_true, if_false, Nat.reduceEqDiff, Bool.false_eq_true, reduceCtorEq]
        by_cases hlt : k < s.size
        · have hx : s[k]? = some s[k] := getElem?_pos s k hlt
          generalize s[k] = x at hx
          have hrd := rd_take hx
          by_cases hd : isDig x
          · have hw := dig_mul (a := 0) hd
            have hJ2 := dig_snoc hJ hx hd
            have hd2 := hd
            unfold isDig at hd2
            repeat' (first | ((with_reducible first | (refine hK _ ?_; clear hK K) | refine stq fun K' hK' => ?_ | refine stc ?_); try simp only [go_sem, hx, hw]) | (with_reducible first | refine stp ?_ | (refine hK' _ ?_; clear hK' K') | refine kN kl69 fun K hK => ?_ | refine kO fun K hK => ?_) | (refine xS rfl fun K' hK' => ?_; simp only [go_sem, hx, hw]) | refine iB ?_ | (with_reducible refine pK_mk ?_ ?_ <;> (intro hc; (try simp only [go_sem, hx, hw]); (try simp at hc); try (exfalso; omega))) | with_reducible refine And.intro (by first | omega | (unfold inI; omega)) ?_)
            all_goals first
              | (exfalso; omega)
              | exact ⟨k + 1, ⟨by omega, hJ2⟩, by omega, (fits_mk [] (by simp [renL_d, bdL_d, sg, over, wipe, wl, memN, ins, rm, lk, fitFr, fit1, ren, renL, bd, bdL, app, fitHp, hget, renB, bdB, hrd] <;> omega))⟩
              | skip
          · rw [rdS_no fun h => canon_not hx hd h.1]
            unfold isDig at hd
            repeat' (first | ((with_reducible first | (refine hK _ ?_; clear hK K) | refine stq fun K' hK' => ?_ | refine stc ?_); try simp only [go_sem, hx]) | (with_reducible first | refine stp ?_ | (refine hK' _ ?_; clear hK' K') | refine kN kl69 fun K hK => ?_ | refine kO fun K hK => ?_) | (refine xS rfl fun K' hK' => ?_; simp only [go_sem, hx]) | refine iB ?_ | (with_reducible refine pK_mk ?_ ?_ <;> (intro hc; (try simp only [go_sem, hx]); (try simp at hc); try (exfalso; omega))) | with_reducible refine And.intro (by first | omega | (unfold inI; omega)) ?_)
            all_goals first
              | (exfalso; omega)
              | (refine retQ_ret rfl rfl (by simp [rowsOf, lk]) ?_; rfl)
        · obtain rfl : k = s.size := by omega
          have hc' := canon_mk hJ h0 hz
          rw [rdS_yes ⟨hc', by rw [bl_len]; exact hl6⟩]
          have e : (bl s).take s.size = bl s := List.take_of_length_le (by rw [bl_len]; exact Nat.le_refl _)
          repeat' (first | ((with_reducible first | (refine hK _ ?_; clear hK K) | refine stq fun K' hK' => ?_ | refine stc ?_); try simp only [go_sem, e]) | (with_reducible first | refine stp ?_ | (refine hK' _ ?_; clear hK' K') | refine kN kl69 fun K hK => ?_ | refine kO fun K hK => ?_) | (refine xS rfl fun K' hK' => ?_; simp only [go_sem, e]) | refine iB ?_ | (with_reducible refine pK_mk ?_ ?_ <;> (intro hc; (try simp only [go_sem, e]); (try simp at hc); try (exfalso; omega))) | with_reducible refine And.intro (by first | omega | (unfold inI; omega)) ?_)
          refine retQ_ret rfl rfl (by simp [rowsOf, lk]) ?_; rfl
    · have h48n : b0.toNat ≠ 48 := fun h => h48 (UInt8.toNat_inj.1 h)
      have hb48 : ((b0.toNat : Int) = 48) = False := eq_false (by omega)
      have hz : ¬ (1 < s.size ∧ s[0]? = some 48) := fun h => h48 (Option.some.inj (hb0.symm.trans h.2))
      repeat' (first | ((with_reducible first | (refine hK _ ?_; clear hK K) | refine stq fun K' hK' => ?_ | refine stc ?_); try simp only [go_sem, hb0, hb48]) | (with_reducible first | refine stp ?_ | (refine hK' _ ?_; clear hK' K') | refine kN kl69 fun K hK => ?_ | refine kO fun K hK => ?_) | (refine xS rfl fun K' hK' => ?_; simp only [go_sem, hb0, hb48]) | ((with_reducible apply CallK.eq); (· with_reducible first | exact hin); (· simp [RV.flat, D.sc, datI]); try simp only [go_sem, hb0, hb48]) | refine iB ?_ | (with_reducible refine pK_mk ?_ ?_ <;> (intro hc; (try simp only [go_sem, hb0, hb48]); (try simp at hc); try (exfalso; omega))) | with_reducible refine And.intro (by first | omega | (unfold inI; omega)) ?_)
      all_goals first
        | (exfalso; omega)
        | skip
      refine pw_loop_over [2, 3, 4, 19, 20, 21, 22, 23, 24, 25, 26, 27, 28, 29, 30, 31, 32, 33, 34, 35, 36, 37, 38, 39, 40, 41, 42] (fun k : Nat => [(4, .d (.int .i64 (k : Int))), (3, .d (.int .i64 (readL ((bl s).take k) : Int)))]) (fun k : Nat => []) 0 (fun k : Nat => k ≤ s.size ∧ ∀ b ∈ (bl s).take k, isDig b) (fun k : Nat => s.size - k) 0 ⟨Nat.zero_le _, by simp⟩ (fits_mk [] (by simp [renL_d, bdL_d, sg, over, wipe, wl, memN, ins, rm, lk, fitFr, fit1, ren, renL, bd, bdL, app, fitHp, hget, renB, bdB, List.take_zero, readL_nil] <;> omega)) ?_
      rintro k ⟨hk, hJ⟩
      have hR := rd_lt (s := s) (k := k) (by omega) hJ
      simp only [over, wipe, wl, memN, ins, rm, if_true, if_false, Nat.reduceEqDiff, Bool.false_eq_true, reduceCtorEq]
      by_cases hlt : k < s.size
      · have hx : s[k]? = some s[k] := getElem?_pos s k hlt
        generalize s[k] = x at hx
        have hrd := rd_take hx
        by_cases hd : isDig x
        · have hw := dig_mul (a := 0) hd
          have hJ2 := dig_snoc hJ hx hd
          have hd2 := hd
          unfold isDig at hd2
          repeat' (first | ((with_reducible first | (refine hK _ ?_; clear hK K) | refine stq fun K' hK' => ?_ | refine stc ?_); try simp only [go_sem, hx, hw]) | (with_reducible first | refine stp ?_ | (refine hK' _ ?_; clear hK' K') | refine kN kl69 fun K hK => ?_ | refine kO fun K hK => ?_) | (refine xS rfl fun K' hK' => ?_; simp only [go_sem, hx, hw]) | refine iB ?_ | (with_reducible refine pK_mk ?_ ?_ <;> (intro hc; (try simp only [go_sem, hx, hw]); (try simp at hc); try (exfalso; omega))) | with_reducible refine And.intro (by first | omega | (unfold inI; omega)) ?_)
          all_goals first
            | (exfalso; omega)
            | exact ⟨k + 1, ⟨by omega, hJ2⟩, by omega, (fits_mk [] (by simp [renL_d, bdL_d, sg, over, wipe, wl, memN, ins, rm, lk, fitFr, fit1, ren, renL, bd, bdL, app, fitHp, hget, renB, bdB, hrd] <;> omega))⟩
            | skip
        · rw [rdS_no fun h => canon_not hx hd h.1]
          unfold isDig at hd
          repeat' (first | ((with_reducible first | (refine hK _ ?_; clear hK K) | refine stq fun K' hK' => ?_ | refine stc ?_); try simp only [go_sem, hx]) | (with_reducible first | refine stp ?_ | (refine hK' _ ?_; clear hK' K') | refine kN kl69 fun K hK => ?_ | refine kO fun K hK => ?_) | (refine xS rfl fun K' hK' => ?_; simp only [go_sem, hx]) | refine iB ?_ | (with_reducible refine pK_mk ?_ ?_ <;> (intro hc; (try simp only [go_sem, hx]); (try simp at hc); try (exfalso; omega))) | with_reducible refine And.intro (by first | omega | (unfold inI; omega)) ?_)
          all_goals first
            | (exfalso; omega)
            | (refine retQ_ret rfl rfl (by simp [rowsOf, lk]) ?_; rfl)
      · obtain rfl : k = s.size := by omega
        have hc' := canon_mk hJ h0 hz
        rw [rdS_yes ⟨hc', by rw [bl_len]; exact hl6⟩]
        have e : (bl s).take s.size = bl s := List.take_of_length_le (by rw [bl_len]; exact Nat.le_refl _)
        repeat' (first | ((with_reducible first | (refine hK _ ?_; clear hK K) | refine stq fun K' hK' => ?_ | refine stc ?_); try simp only [go_sem, e]) | (with_reducible first | refine stp ?_ | (refine hK' _ ?_; clear hK' K') | refine kN kl69 fun K hK => ?_ | refine kO fun K hK => ?_) | (refine xS rfl fun K' hK' => ?_; simp only [go_sem, e]) | refine iB ?_ | (with_reducible refine pK_mk ?_ ?_ <;> (intro hc; (try simp only [go_sem, e]); (try simp at hc); try (exfalso; omega))) | with_reducible refine And.intro (by first | omega | (unfold inI; omega)) ?_)
        refine retQ_ret rfl rfl (by simp [rowsOf, lk]) ?_; rfl
  · have hin := l1In_ok (s.size : Int) 1 6
    rw [show (decide ((1 : Int) ≤ (s.size : Int)) && decide ((s.size : Int) ≤ 6)) = false by simp; omega] at hin
    rw [rdS_no (by rintro ⟨⟨_, h⟩, h6⟩; rw [bl_len] at h h6; omega)]
    repeat' (first | ((with_reducible first | (refine hK _ ?_; clear hK K) | refine stq fun K' hK' => ?_ | refine stc ?_); try simp only [go_sem]) | (with_reducible first | refine stp ?_ | (refine hK' _ ?_; clear hK' K') | refine kN kl69 fun K hK => ?_ | refine kO fun K hK => ?_) | (refine xS rfl fun K' hK' => ?_; simp only [go_sem]) | ((with_reducible apply CallK.eq); (· with_reducible first | exact hin); (· simp [RV.flat, D.sc, datI]); try simp only [go_sem]) | refine iB ?_ | (with_reducible refine pK_mk ?_ ?_ <;> (intro hc; (try simp only [go_sem]); (try simp at hc); try (exfalso; omega))) | with_reducible refine And.intro (by first | omega | (unfold inI; omega)) ?_)
    all_goals (refine retQ_ret rfl rfl (by simp [rowsOf, lk]) ?_; rfl)
end Go.Proofs.YthocihmhljmgdaaGreatDoor

/-
  Orders as texts: the program's OrderText and ParseOrder and the reference's.
-/
set_option linter.unusedSimpArgs false
set_option linter.unusedVariables false
set_option maxHeartbeats 2000000
set_option maxRecDepth 100000
namespace Go.Proofs.YthocihmhljmgdaaGreatDoor
open Go.RowKit

theorem ba_nil : ba [] = ⟨#[]⟩ := rfl
theorem nil_app (A : ByteArray) : (⟨#[]⟩ : ByteArray) ++ A = A := bl_inj (by rw [bl_app]; rfl)
theorem numI4 {z : Int} (h0 : 0 ≤ z) (h : z ≤ 1000) : (ba (numI z)).size ≤ 4 := by
  by_cases h1 : z = 1000
  · subst h1
    decide +kernel
  · have := numI_size (z := z) (by omega)
    omega
theorem textO_len4 {o : List Int} (h : ∀ x ∈ o, 0 ≤ x ∧ x ≤ 1000) : ∀ k, k ≤ o.length → (textO (o.take k)).length ≤ 5 * k := by
  intro k
  induction k with
  | zero => intro _; simp [textO, joinL]
  | succ k ih =>
    intro hk
    have hx := List.getElem?_eq_getElem (l := o) (i := k) (by omega)
    have hm := h _ (List.getElem_mem (l := o) (n := k) (by omega))
    generalize o[k] = x at hx hm
    have h3 := numI4 hm.1 hm.2
    rw [ba_size] at h3
    have hi := ih (by omega)
    rw [textO_snoc hx]
    split
    · omega
    · rw [List.length_append, List.length_append]
      simp
      omega
theorem textO_ba {o : List Int} {k : Nat} {x : Int} (h : o[k]? = some x) : ba (textO (o.take (k + 1))) = if k = 0 then ba (numI x) else ba (textO (o.take k)) ++ ⟨#[32]⟩ ++ ba (numI x) := by
  rw [textO_snoc h]
  split
  · rfl
  · rw [show (⟨#[32]⟩ : ByteArray) = ba [32] from rfl]
    simp only [ba_app]
theorem join_joinL (c : UInt8) : ∀ xs : List (List UInt8), Lib.join xs [c] = joinL c xs
  | [] => rfl
  | [x] => Lib.join_one x [c]
  | x :: y :: r => by rw [join_cc, join_joinL c (y :: r)]; rfl
theorem soText_ok (o : List Int) (hl : o.length ≤ 1000) (hr : ∀ x ∈ o, 0 ≤ x ∧ x ≤ 1000) : FnEq Tryz.prog 92 [.d (.lst 1 (o.map datI))] [.d (.str (ba (textO o)))] := by
  refine fn_ok G_ok Tryz.func92 rfl rfl ?_; simp only [Tryz.ntmps92, List.length_cons, List.length_nil, Nat.reduceAdd, Nat.reduceSub, enm]
  repeat' (first | ((with_reducible first | (refine hK _ ?_; clear hK K) | refine stq fun K' hK' => ?_ | refine stc ?_); try simp only [go_sem]) | (with_reducible first | refine stp ?_ | (refine hK' _ ?_; clear hK' K') | refine kN kl92 fun K hK => ?_ | refine kO fun K hK => ?_) | refine iB ?_ | (with_reducible refine pK_mk ?_ ?_ <;> (intro hc; (try simp only [go_sem]); (try simp at hc); try (exfalso; omega))) | with_reducible refine And.intro (by first | omega | (unfold inI; omega)) ?_)
  refine pw_loop_over [2, 3, 4, 5, 8, 9, 10, 11, 12, 13, 14, 15, 16, 17, 18, 19, 20, 21] (fun k : Nat => [(8, .d (.int .i64 (k : Int))), (7, .d (.int .i64 (o.length : Int))), (6, .d (.lst 1 (o.map datI))), (3, .d (.str (ba (textO (o.take k)))))]) (fun k : Nat => []) 0 (fun k : Nat => k ≤ o.length) (fun k : Nat => o.length - k) 0 (Nat.zero_le _) (fits_mk [] (by simp [renL_d, bdL_d, sg, over, wipe, wl, memN, ins, rm, lk, fitFr, fit1, ren, renL, bd, bdL, app, fitHp, hget, renB, bdB, List.take_zero, textO_nil, ba_nil] <;> omega)) ?_
  intro k hk
  simp only [over, wipe, wl, memN, ins, rm, if_true, if_false, Nat.reduceEqDiff, Bool.false_eq_true, reduceCtorEq]
  by_cases hlt : k < o.length
  · have hx := List.getElem?_eq_getElem hlt
    have hm := hr _ (List.getElem_mem hlt)
    have hT := textO_len4 hr k hk
    rw [← ba_size] at hT
    generalize o[k] = x at hx hm
    have hs := textO_ba hx
    obtain ⟨n, rfl⟩ : ∃ n : Nat, x = n := ⟨x.toNat, by omega⟩
    have hn := l1Num_ok n (by omega)
    have h4 := numI4 hm.1 hm.2
    rw [show numI (n : Int) = numL n from rfl] at hs h4
    have s4 : (⟨#[32]⟩ : ByteArray).size = 1 := rfl
    have hT0 : k = 0 → ba (textO (o.take k)) = ⟨#[]⟩ := by rintro rfl; rfl
    generalize ba (textO (o.take k)) = T at *
    generalize ba (numL n) = A at *
    by_cases h0 : k = 0
    · rw [if_pos h0] at hs
      have hT1 : T ++ A = A := by rw [hT0 h0, nil_app]
      have hk0 : ¬ 0 < k := by omega
      repeat' (first | ((with_reducible first | (refine hK _ ?_; clear hK K) | refine stq fun K' hK' => ?_ | refine stc ?_); try simp only [go_sem, hk0, hlt, List.getElem?_map, hx, Option.map_some, datI, ByteArray.size_append]) | (with_reducible first | refine stp ?_ | (refine hK' _ ?_; clear hK' K') | refine kN kl92 fun K hK => ?_ | refine kO fun K hK => ?_) | ((with_reducible apply CallK.eq); (· with_reducible first | exact hn); (· simp [RV.flat, D.sc, datI]); try simp only [go_sem, hk0, hlt, List.getElem?_map, hx, Option.map_some, datI, ByteArray.size_append]) | refine iB ?_ | (with_reducible refine pK_mk ?_ ?_ <;> (intro hc; (try simp only [go_sem, hk0, hlt, List.getElem?_map, hx, Option.map_some, datI, ByteArray.size_append]); (try simp at hc); try (exfalso; omega))) | with_reducible refine And.intro (by first | omega | (unfold inI; omega)) ?_)
      all_goals first
        | omega
        | exact ⟨k + 1, by omega, by omega, (fits_mk [] (by simp [renL_d, bdL_d, sg, over, wipe, wl, memN, ins, rm, lk, fitFr, fit1, ren, renL, bd, bdL, app, fitHp, hget, renB, bdB, hs, hT1] <;> omega))⟩
    · rw [if_neg h0] at hs
      have hk0 : 0 < k := by omega
      repeat' (first | ((with_reducible first | (refine hK _ ?_; clear hK K) | refine stq fun K' hK' => ?_ | refine stc ?_); try simp only [go_sem, hk0, hlt, List.getElem?_map, hx, Option.map_some, datI, ByteArray.size_append, s4]) | (with_reducible first | refine stp ?_ | (refine hK' _ ?_; clear hK' K') | refine kN kl92 fun K hK => ?_ | refine kO fun K hK => ?_) | ((with_reducible apply CallK.eq); (· with_reducible first | exact hn); (· simp [RV.flat, D.sc, datI]); try simp only [go_sem, hk0, hlt, List.getElem?_map, hx, Option.map_some, datI, ByteArray.size_append, s4]) | refine iB ?_ | (with_reducible refine pK_mk ?_ ?_ <;> (intro hc; (try simp only [go_sem, hk0, hlt, List.getElem?_map, hx, Option.map_some, datI, ByteArray.size_append, s4]); (try simp at hc); try (exfalso; omega))) | with_reducible refine And.intro (by first | omega | (unfold inI; omega)) ?_)
      all_goals first
        | omega
        | exact ⟨k + 1, by omega, by omega, (fits_mk [] (by simp [renL_d, bdL_d, sg, over, wipe, wl, memN, ins, rm, lk, fitFr, fit1, ren, renL, bd, bdL, app, fitHp, hget, renB, bdB, hs] <;> omega))⟩
  · have e : k = o.length := by omega
    subst e
    repeat' (first | ((with_reducible first | (refine hK _ ?_; clear hK K) | refine stq fun K' hK' => ?_ | refine stc ?_); try simp only [go_sem, List.take_length]) | (with_reducible first | refine stp ?_ | (refine hK' _ ?_; clear hK' K') | refine kN kl92 fun K hK => ?_ | refine kO fun K hK => ?_) | refine iB ?_ | (with_reducible refine pK_mk ?_ ?_ <;> (intro hc; (try simp only [go_sem, List.take_length]); (try simp at hc); try (exfalso; omega))) | with_reducible refine And.intro (by first | omega | (unfold inI; omega)) ?_)
    refine retQ_ret rfl rfl (by simp [rowsOf, lk]) ?_; rfl
theorem impl_OrderText_ok (o : List Int) (hl : o.length ≤ 1048576) : FnEq Tryz.prog 34 [.d (.lst 1 (o.map datI))] [.d (.str ((optP (OrdOk o) (ba (textO o))).getD ⟨#[]⟩)), .d (.bool (optP (OrdOk o) (ba (textO o))).isSome)] := by
  refine fn_ok G_ok Tryz.func34 rfl rfl ?_; simp only [Tryz.ntmps34, List.length_cons, List.length_nil, Nat.reduceAdd, Nat.reduceSub, enm]
  have hi := isOrder_ok o hl
  by_cases h : OrdOk o
  · rw [optP_pos h]
    rw [bP_true h] at hi
    have hn := numbersText_ok o (by have := h.1; omega) (fun x hx => by have := ordRng h x hx; omega)
    rw [join_joinL] at hn
    repeat' (first | ((with_reducible first | (refine hK _ ?_; clear hK K) | refine stq fun K' hK' => ?_ | refine stc ?_); try simp only [go_sem]) | (with_reducible first | refine stp ?_ | (refine hK' _ ?_; clear hK' K') | refine kN kl34 fun K hK => ?_ | refine kO fun K hK => ?_) | ((with_reducible apply CallK.eq); (· with_reducible first | exact hi | exact hn); (· simp [RV.flat, D.sc, datI]); try simp only [go_sem]) | (with_reducible refine pK_mk ?_ ?_ <;> (intro hc; (try simp only [go_sem]); (try simp at hc); try (exfalso; omega))) | with_reducible refine And.intro (by first | omega | (unfold inI; omega)) ?_)
    refine retQ_ret rfl rfl (by simp [rowsOf, lk]) ?_; rfl
  · rw [optP_neg h]
    rw [bP_false h] at hi
    repeat' (first | ((with_reducible first | (refine hK _ ?_; clear hK K) | refine stq fun K' hK' => ?_ | refine stc ?_); try simp only [go_sem]) | (with_reducible first | refine stp ?_ | (refine hK' _ ?_; clear hK' K') | refine kN kl34 fun K hK => ?_ | refine kO fun K hK => ?_) | ((with_reducible apply CallK.eq); (· with_reducible first | exact hi); (· simp [RV.flat, D.sc, datI]); try simp only [go_sem]) | (with_reducible refine pK_mk ?_ ?_ <;> (intro hc; (try simp only [go_sem]); (try simp at hc); try (exfalso; omega))) | with_reducible refine And.intro (by first | omega | (unfold inI; omega)) ?_)
    refine retQ_ret rfl rfl (by simp [rowsOf, lk]) ?_; rfl
theorem spec_OrderText_ok (o : List Int) (hl : o.length ≤ 1048576) : FnEq Tryz.prog 35 [.d (.lst 1 (o.map datI))] [.d (.str ((optP (OrdOk o) (ba (textO o))).getD ⟨#[]⟩)), .d (.bool (optP (OrdOk o) (ba (textO o))).isSome)] := by
  refine fn_ok G_ok Tryz.func35 rfl rfl ?_; simp only [Tryz.ntmps35, List.length_cons, List.length_nil, Nat.reduceAdd, Nat.reduceSub, enm]
  have hi := soOrder_ok o hl
  by_cases h : OrdOk o
  · rw [optP_pos h]
    rw [bP_true h] at hi
    have hn := soText_ok o (by have := h.1; omega) (fun x hx => by have := ordRng h x hx; omega)
    repeat' (first | ((with_reducible first | (refine hK _ ?_; clear hK K) | refine stq fun K' hK' => ?_ | refine stc ?_); try simp only [go_sem]) | (with_reducible first | refine stp ?_ | (refine hK' _ ?_; clear hK' K') | refine kN kl35 fun K hK => ?_ | refine kO fun K hK => ?_) | ((with_reducible apply CallK.eq); (· with_reducible first | exact hi | exact hn); (· simp [RV.flat, D.sc, datI]); try simp only [go_sem]) | (with_reducible refine pK_mk ?_ ?_ <;> (intro hc; (try simp only [go_sem]); (try simp at hc); try (exfalso; omega))) | with_reducible refine And.intro (by first | omega | (unfold inI; omega)) ?_)
    refine retQ_ret rfl rfl (by simp [rowsOf, lk]) ?_; rfl
  · rw [optP_neg h]
    rw [bP_false h] at hi
    repeat' (first | ((with_reducible first | (refine hK _ ?_; clear hK K) | refine stq fun K' hK' => ?_ | refine stc ?_); try simp only [go_sem]) | (with_reducible first | refine stp ?_ | (refine hK' _ ?_; clear hK' K') | refine kN kl35 fun K hK => ?_ | refine kO fun K hK => ?_) | ((with_reducible apply CallK.eq); (· with_reducible first | exact hi); (· simp [RV.flat, D.sc, datI]); try simp only [go_sem]) | (with_reducible refine pK_mk ?_ ?_ <;> (intro hc; (try simp only [go_sem]); (try simp at hc); try (exfalso; omega))) | with_reducible refine And.intro (by first | omega | (unfold inI; omega)) ?_)
    refine retQ_ret rfl rfl (by simp [rowsOf, lk]) ?_; rfl
theorem impl_ParseOrder_ok (s : ByteArray) (hs : s.size ≤ 1048000) : FnEq Tryz.prog 36 [.d (.str s)] [.row 3 1 (((ansO (bl s)).getD []).map datI), .d (.bool (ansO (bl s)).isSome)] := by
  refine fn_ok G_ok Tryz.func36 rfl rfl ?_; simp only [Tryz.ntmps36, List.length_cons, List.length_nil, Nat.reduceAdd, Nat.reduceSub, enm]
  by_cases h0 : s.size = 0
  · have := size_nil h0
    subst this
    rw [show bl ⟨#[]⟩ = [] from rfl, ansO_nil]
    repeat' (first | ((with_reducible first | (refine hK _ ?_; clear hK K) | refine stq fun K' hK' => ?_ | refine stc ?_); try simp only [go_sem]) | (with_reducible first | refine stp ?_ | (refine hK' _ ?_; clear hK' K') | refine kN kl36 fun K hK => ?_ | refine kO fun K hK => ?_) | (refine xS rfl fun K' hK' => ?_; simp only [go_sem]) | (with_reducible refine pK_mk ?_ ?_ <;> (intro hc; (try simp only [go_sem]); (try simp at hc); try (exfalso; omega))) | with_reducible refine And.intro (by first | omega | (unfold inI; omega)) ?_)
    refine retQ_ret rfl (by simp only [retL, ret1, hget, lk, List.length_map, List.length_nil, List.length_append, List.length_take, if_true, if_false, Nat.reduceEqDiff, Nat.reduceBEq, Bool.false_eq_true, Option.some.injEq]; rfl) (by simp [rowsOf, lk]) ?_; rfl
  · have hne : ¬ s = ⟨#[]⟩ := fun e => h0 (by rw [e]; rfl)
    have hbn : bl s ≠ [] := fun e => h0 (by rw [← bl_len, e]; rfl)
    have hsp := split_ok 32 s (by omega)
    have hle := splB_le 32 s
    have hin := integersIn_ok (splB 32 s) (by omega)
    rw [splB_bl] at hin
    have hno := ansO_impl hbn
    have hyes := fun o => ansO_impl_yes (s := bl s) (o := o)
    have hlen : ∀ o, intsV (splL 32 (bl s)) = some o → o.length ≤ 1048576 := fun o ho => by
      unfold intsV optP at ho
      split at ho
      · cases ho
        rw [List.length_map, ← splB_len2]
        omega
      · cases ho
    generalize splB 32 s = ws at hsp hin hle
    generalize intsV (splL 32 (bl s)) = v at hin hno hyes hlen
    cases v with
    | none =>
      rw [hno fun o h => by cases h]
      simp only [Option.getD_none, Option.isSome_none, List.map_nil] at hin
      repeat' (first | ((with_reducible first | (refine hK _ ?_; clear hK K) | refine stq fun K' hK' => ?_ | refine stc ?_); try simp only [go_sem, hne]) | (with_reducible first | refine stp ?_ | (refine hK' _ ?_; clear hK' K') | refine kN kl36 fun K hK => ?_ | refine kO fun K hK => ?_) | (refine xS rfl fun K' hK' => ?_; simp only [go_sem, hne]) | ((with_reducible apply CallK.eq); (· with_reducible first | exact hsp | exact hin); (· simp [RV.flat, D.sc, datI]); try simp only [go_sem, hne]) | (with_reducible refine pK_mk ?_ ?_ <;> (intro hc; (try simp only [go_sem, hne]); (try simp at hc); try (exfalso; omega))) | with_reducible refine And.intro (by first | omega | (unfold inI; omega)) ?_)
      refine retQ_ret rfl (by simp only [retL, ret1, hget, lk, List.length_map, List.length_nil, List.length_append, List.length_take, if_true, if_false, Nat.reduceEqDiff, Nat.reduceBEq, Bool.false_eq_true, Option.some.injEq]; rfl) (by simp [rowsOf, lk]) ?_; rfl
    | some o =>
      have hio := isOrder_ok o (hlen o rfl)
      simp only [Option.getD_some, Option.isSome_some] at hin
      by_cases hok : OrdOk o
      · rw [hyes o rfl hok]
        rw [bP_true hok] at hio
        repeat' (first | ((with_reducible first | (refine hK _ ?_; clear hK K) | refine stq fun K' hK' => ?_ | refine stc ?_); try simp only [go_sem, hne]) | (with_reducible first | refine stp ?_ | (refine hK' _ ?_; clear hK' K') | refine kN kl36 fun K hK => ?_ | refine kO fun K hK => ?_) | (refine xS rfl fun K' hK' => ?_; simp only [go_sem, hne]) | ((with_reducible apply CallK.eq); (· with_reducible first | exact hsp | exact hin | exact hio); (· simp [RV.flat, D.sc, datI]); try simp only [go_sem, hne]) | (with_reducible refine pK_mk ?_ ?_ <;> (intro hc; (try simp only [go_sem, hne]); (try simp at hc); try (exfalso; omega))) | with_reducible refine And.intro (by first | omega | (unfold inI; omega)) ?_)
        refine retQ_ret rfl (by simp only [retL, ret1, hget, lk, List.length_map, List.length_nil, List.length_append, List.length_take, if_true, if_false, Nat.reduceEqDiff, Nat.reduceBEq, Bool.false_eq_true, Option.some.injEq]; rfl) (by simp [rowsOf, lk]) ?_; rfl
      · rw [hno fun o' h => by cases h; exact hok]
        rw [bP_false hok] at hio
        repeat' (first | ((with_reducible first | (refine hK _ ?_; clear hK K) | refine stq fun K' hK' => ?_ | refine stc ?_); try simp only [go_sem, hne]) | (with_reducible first | refine stp ?_ | (refine hK' _ ?_; clear hK' K') | refine kN kl36 fun K hK => ?_ | refine kO fun K hK => ?_) | (refine xS rfl fun K' hK' => ?_; simp only [go_sem, hne]) | ((with_reducible apply CallK.eq); (· with_reducible first | exact hsp | exact hin | exact hio); (· simp [RV.flat, D.sc, datI]); try simp only [go_sem, hne]) | (with_reducible refine pK_mk ?_ ?_ <;> (intro hc; (try simp only [go_sem, hne]); (try simp at hc); try (exfalso; omega))) | with_reducible refine And.intro (by first | omega | (unfold inI; omega)) ?_)
        refine retQ_ret rfl (by simp only [retL, ret1, hget, lk, List.length_map, List.length_nil, List.length_append, List.length_take, if_true, if_false, Nat.reduceEqDiff, Nat.reduceBEq, Bool.false_eq_true, Option.some.injEq]; rfl) (by simp [rowsOf, lk]) ?_; rfl
/-- the reference's numbers of the first words -/
noncomputable def outR (ws : List ByteArray) (k : Nat) : List Int := (ws.take k).map fun w => rdS (bl w)
theorem outR_zero (ws : List ByteArray) : outR ws 0 = [] := rfl
theorem outR_len (ws : List ByteArray) (k : Nat) (hk : k ≤ ws.length) : (outR ws k).length = k := by unfold outR; rw [List.length_map, List.length_take]; omega
theorem outR_succ {ws : List ByteArray} {k : Nat} {w : ByteArray} (h : ws[k]? = some w) : outR ws (k + 1) = outR ws k ++ [rdS (bl w)] := by
  unfold outR
  rw [take_snoc h, List.map_append]
  rfl
theorem outR_end (s : ByteArray) : outR (splB 32 s) (splB 32 s).length = rdO (bl s) := by
  unfold outR rdO
  rw [← splB_bl, List.take_length, List.map_map]
  rfl
theorem spec_ParseOrder_ok (s : ByteArray) (hs : s.size ≤ 1048000) : FnEq Tryz.prog 38 [.d (.str s)] [.row 3 1 (((ansO (bl s)).getD []).map datI), .d (.bool (ansO (bl s)).isSome)] := by
  refine fn_ok G_ok Tryz.func38 rfl rfl ?_; simp only [Tryz.ntmps38, List.length_cons, List.length_nil, Nat.reduceAdd, Nat.reduceSub, enm]
  by_cases h0 : s.size = 0
  · have := size_nil h0
    subst this
    rw [show bl ⟨#[]⟩ = [] from rfl, ansO_nil]
    repeat' (first | ((with_reducible first | (refine hK _ ?_; clear hK K) | refine stq fun K' hK' => ?_ | refine stc ?_); try simp only [go_sem]) | (with_reducible first | refine stp ?_ | (refine hK' _ ?_; clear hK' K') | refine kN kl38 fun K hK => ?_ | refine kO fun K hK => ?_) | (refine xS rfl fun K' hK' => ?_; simp only [go_sem]) | refine iB ?_ | (with_reducible refine pK_mk ?_ ?_ <;> (intro hc; (try simp only [go_sem]); (try simp at hc); try (exfalso; omega))) | with_reducible refine And.intro (by first | omega | (unfold inI; omega)) ?_)
    refine retQ_ret rfl (by simp only [retL, ret1, hget, lk, List.length_map, List.length_nil, List.length_append, List.length_take, if_true, if_false, Nat.reduceEqDiff, Nat.reduceBEq, Bool.false_eq_true, Option.some.injEq]; rfl) (by simp [rowsOf, lk]) ?_; rfl
  · have hne : ¬ s = ⟨#[]⟩ := fun e => h0 (by rw [e]; rfl)
    have hbn : bl s ≠ [] := fun e => h0 (by rw [← bl_len, e]; rfl)
    have hsp := l1Split_ok32 s (by omega)
    have hle := splB_le 32 s
    have hno := ansO_spec hbn
    have hyes := fun h1 h2 => ansO_some (s := bl s) (o := rdO (bl s)) h1 h2
    have hrd : outR (splB 32 s) (splB 32 s).length = rdO (bl s) := outR_end s
    generalize splB 32 s = ws at hsp hle hrd
    repeat' (first | ((with_reducible first | (refine hK _ ?_; clear hK K) | refine stq fun K' hK' => ?_ | refine stc ?_); try simp only [go_sem, hne]) | (with_reducible first | refine stp ?_ | (refine hK' _ ?_; clear hK' K') | refine kN kl38 fun K hK => ?_ | refine kO fun K hK => ?_) | (refine xS rfl fun K' hK' => ?_; simp only [go_sem, hne]) | ((with_reducible apply CallK.eq); (· with_reducible first | exact hsp); (· simp [RV.flat, D.sc, datI]); try simp only [go_sem, hne]) | refine iB ?_ | (with_reducible refine pK_mk ?_ ?_ <;> (intro hc; (try simp only [go_sem, hne]); (try simp at hc); try (exfalso; omega))) | with_reducible refine And.intro (by first | omega | (unfold inI; omega)) ?_)
    refine pw_loop_over [2, 3, 4, 6, 12, 13, 14, 15, 16, 17, 18, 19, 20, 21] (fun k : Nat => [(12, .d (.int .i64 (k : Int))), (11, .d (.int .i64 (ws.length : Int))), (10, .row 2 ws.length), (4, .row 1 k), (0, .d (.str s))]) (fun k : Nat => [(2, .row 9 1 (ws.map datS)), (1, .row 3 1 ((outR ws k).map datI))]) 3 (fun k : Nat => k ≤ ws.length) (fun k : Nat => ws.length - k) 0 (Nat.zero_le _) (fits_mk [] (by simp [renL_d, bdL_d, sg, over, wipe, wl, memN, ins, rm, lk, fitFr, fit1, ren, renL, bd, bdL, app, fitHp, hget, renB, bdB, outR_zero, List.map_nil] <;> omega)) ?_
    intro k hk
    have hol := outR_len ws k hk
    simp only [over, wipe, wl, memN, ins, rm, if_true, if_false, Nat.reduceEqDiff, Bool.false_eq_true, reduceCtorEq]
    by_cases hlt : k < ws.length
    · have hx := List.getElem?_eq_getElem hlt
      generalize ws[k] = w at hx
      have hn := l1Read_ok w
      have e := outR_succ hx
      generalize rdS (bl w) = r at *
      repeat' (first | ((with_reducible first | (refine hK _ ?_; clear hK K) | refine stq fun K' hK' => ?_ | refine stc ?_); try simp only [go_sem, hlt, hol, List.getElem?_map, hx, Option.map_some, datS]) | (with_reducible first | refine stp ?_ | (refine hK' _ ?_; clear hK' K') | refine kN kl38 fun K hK => ?_ | refine kO fun K hK => ?_) | (refine xS rfl fun K' hK' => ?_; simp only [go_sem, hlt, hol, List.getElem?_map, hx, Option.map_some, datS]) | ((with_reducible apply CallK.eq); (· with_reducible first | exact hn); (· simp [RV.flat, D.sc, datI]); try simp only [go_sem, hlt, hol, List.getElem?_map, hx, Option.map_some, datS]) | refine iB ?_ | (with_reducible refine pK_mk ?_ ?_ <;> (intro hc; (try simp only [go_sem, hlt, hol, List.getElem?_map, hx, Option.map_some, datS]); (try simp at hc); try (exfalso; omega))) | with_reducible refine And.intro (by first | omega | (unfold inI; omega)) ?_)
      all_goals first
        | omega
        | exact ⟨k + 1, by omega, by omega, (fits_mk [] (by simp [renL_d, bdL_d, sg, over, wipe, wl, memN, ins, rm, lk, fitFr, fit1, ren, renL, bd, bdL, app, fitHp, hget, renB, bdB, e, datI] <;> omega))⟩
    · have e : k = ws.length := by omega
      subst e
      rw [hrd]
      rw [hrd] at hol
      have hio := soOrder_ok (rdO (bl s)) (by omega)
      by_cases hok : OrdOk (rdO (bl s))
      · rw [bP_true hok] at hio
        have ht := soText_ok (rdO (bl s)) (by have := hok.1; omega) (fun x hx => by have := ordRng hok x hx; omega)
        by_cases he : textO (rdO (bl s)) = bl s
        · rw [hyes hok he]
          rw [he, ba_bl] at ht
          generalize rdO (bl s) = o at *
          repeat' (first | ((with_reducible first | (refine hK _ ?_; clear hK K) | refine stq fun K' hK' => ?_ | refine stc ?_); try simp only [go_sem, hol]) | (with_reducible first | refine stp ?_ | (refine hK' _ ?_; clear hK' K') | refine kN kl38 fun K hK => ?_ | refine kO fun K hK => ?_) | (refine xS rfl fun K' hK' => ?_; simp only [go_sem, hol]) | ((with_reducible apply CallK.eq); (· with_reducible first | exact hio | exact ht); (· simp [RV.flat, D.sc, datI]); try simp only [go_sem, hol]) | refine iB ?_ | (with_reducible refine pK_mk ?_ ?_ <;> (intro hc; (try simp only [go_sem, hol]); (try simp at hc); try (exfalso; omega))) | with_reducible refine And.intro (by first | omega | (unfold inI; omega)) ?_)
          refine retQ_ret rfl (by simp only [hol, retL, ret1, hget, lk, List.length_map, List.length_nil, List.length_append, List.length_take, if_true, if_false, Nat.reduceEqDiff, Nat.reduceBEq, Bool.false_eq_true, Option.some.injEq]; rfl) (by simp [rowsOf, lk]) ?_; rfl
        · rw [hno fun h => he h.2]
          have hne2 : (ba (textO (rdO (bl s))) = s) = False := eq_false fun h => he (by have := congrArg bl h; rwa [bl_ba] at this)
          generalize ba (textO (rdO (bl s))) = T at *
          generalize rdO (bl s) = o at *
          repeat' (first | ((with_reducible first | (refine hK _ ?_; clear hK K) | refine stq fun K' hK' => ?_ | refine stc ?_); try simp only [go_sem, hol, hne2]) | (with_reducible first | refine stp ?_ | (refine hK' _ ?_; clear hK' K') | refine kN kl38 fun K hK => ?_ | refine kO fun K hK => ?_) | (refine xS rfl fun K' hK' => ?_; simp only [go_sem, hol, hne2]) | ((with_reducible apply CallK.eq); (· with_reducible first | exact hio | exact ht); (· simp [RV.flat, D.sc, datI]); try simp only [go_sem, hol, hne2]) | refine iB ?_ | (with_reducible refine pK_mk ?_ ?_ <;> (intro hc; (try simp only [go_sem, hol, hne2]); (try simp at hc); try (exfalso; omega))) | with_reducible refine And.intro (by first | omega | (unfold inI; omega)) ?_)
          refine retQ_ret rfl (by simp only [retL, ret1, hget, lk, List.length_map, List.length_nil, List.length_append, List.length_take, if_true, if_false, Nat.reduceEqDiff, Nat.reduceBEq, Bool.false_eq_true, Option.some.injEq]; rfl) (by simp [rowsOf, lk]) ?_; rfl
      · rw [bP_false hok] at hio
        rw [hno fun h => hok h.1]
        generalize rdO (bl s) = o at *
        repeat' (first | ((with_reducible first | (refine hK _ ?_; clear hK K) | refine stq fun K' hK' => ?_ | refine stc ?_); try simp only [go_sem, hol]) | (with_reducible first | refine stp ?_ | (refine hK' _ ?_; clear hK' K') | refine kN kl38 fun K hK => ?_ | refine kO fun K hK => ?_) | (refine xS rfl fun K' hK' => ?_; simp only [go_sem, hol]) | ((with_reducible apply CallK.eq); (· with_reducible first | exact hio); (· simp [RV.flat, D.sc, datI]); try simp only [go_sem, hol]) | refine iB ?_ | (with_reducible refine pK_mk ?_ ?_ <;> (intro hc; (try simp only [go_sem, hol]); (try simp at hc); try (exfalso; omega))) | with_reducible refine And.intro (by first | omega | (unfold inI; omega)) ?_)
        refine retQ_ret rfl (by simp only [retL, ret1, hget, lk, List.length_map, List.length_nil, List.length_append, List.length_take, if_true, if_false, Nat.reduceEqDiff, Nat.reduceBEq, Bool.false_eq_true, Option.some.injEq]; rfl) (by simp [rowsOf, lk]) ?_; rfl
end Go.Proofs.YthocihmhljmgdaaGreatDoor

/-
  An append that is tried: the old row stays in use beside the new one. No program is named here.
-/
namespace Go.Proofs.YthocihmhljmgdaaGreatDoor
open Go.RowKit

end Go.Proofs.YthocihmhljmgdaaGreatDoor

/-
  Drawn notes and spoilt texts.
-/
set_option linter.unusedSimpArgs false
set_option linter.unusedVariables false
set_option maxHeartbeats 2000000
set_option maxRecDepth 100000
namespace Go.Proofs.YthocihmhljmgdaaGreatDoor
open Go.RowKit

end Go.Proofs.YthocihmhljmgdaaGreatDoor
