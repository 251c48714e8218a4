/-
  The library's cutting of a text at one byte, in the abstract machine.
-/
import Derived.Test.YthocihmhljmgdaaGreatDoorSls
import Derived.Test.YthocihmhljmgdaaGreatDoorZNt
import Derived.Test.YthocihmhljmgdaaGreatDoorZOrd
import Derived.Test.YthocihmhljmgdaaGreatDoorZEo
import Derived.Shelf.Strings.SplitCore
import Derived.Shelf.Strings.Count
import Derived.Shelf.Strings.Search3
import Derived.Lib.IndexBytes
set_option linter.unusedSimpArgs false
set_option linter.unusedVariables false
set_option maxHeartbeats 2000000
set_option maxRecDepth 100000
namespace Go.Proofs.YthocihmhljmgdaaGreatDoor
open Go.RowKit


theorem hi9 : (Tryz.prog.info? 9).map (fun i => (i.zero, i.size, i.bytes)) = some (some (.string ByteArray.empty), 1, 16) := by kernel_rfl
theorem genSplit_ok (c : UInt8) (s : ByteArray) (hs : s.size < 4294967281) : FnEq Tryz.prog 102 [.d (.str s), .d (.str ⟨#[c]⟩), .d (.int .i64 0), .d (.int .i64 (-1))] [.row 9 1 ((splB c s).map datS)] := by
  refine ⟨⟨_, Tryz.func102, rfl, rfl⟩, fun w X vals _ hX hl hr => ?_⟩
  have hl4 : vals.size = 4 := hl
  obtain ⟨v0, v1, v2, v3, rfl⟩ : ∃ v0 v1 v2 v3, vals = #[v0, v1, v2, v3] := by
    obtain ⟨l⟩ := vals
    match l, hl4 with
    | [a, b, d, e], _ => exact ⟨a, b, d, e, rfl⟩
  have h0 := hr 0 _ _ rfl rfl
  have h1 := hr 1 _ _ rfl rfl
  have h2 := hr 2 _ _ rfl rfl
  have h3 := hr 3 _ _ rfl rfl
  obtain rfl : v0 = .string s := h0.str
  obtain rfl : v1 = .string ⟨#[c]⟩ := h1.str
  obtain rfl : v2 = .int .i64 0 := h2.int
  obtain rfl : v3 = .int .i64 (-1) := h3.int
  have hcnt : Lib.countB s ⟨#[c]⟩ + 1 = (splB c s).length := by
    rw [← splB_lib]
    exact (Lib.splitB_all ⟨#[c]⟩ (Nat.le_refl 1) 0 _ s rfl).symm
  have hle := splB_le c s
  have key := Any.strings_genSplit_core (P := Tryz.prog) { Tryz.splitLays with } hi9 s ⟨#[c]⟩ 0 (-1) (Lib.countB s ⟨#[c]⟩ + 1) w hs (Nat.le_refl 1) (Nat.zero_le _)
    (fun x k _ => by
      have := Any.strings_Index_one (P := Tryz.prog) { Tryz.splitLays with } x c (w.alloc (.cells k (Tryz.splitLays_ren.t 9)))
      rw [← Lib.index_one] at this
      exact this)
    (by
      have := Any.strings_Count_one (P := Tryz.prog) { Tryz.splitLays with } s c w
      have e : Lib.countByte s.data.toList c = Lib.countB s ⟨#[c]⟩ := (Lib.count_one c _).symm
      rw [e] at this
      exact this)
    (by decide) (by decide) (by rw [if_pos (by decide)]; omega)
  rw [Nat.add_sub_cancel, splB_lib, hcnt, Lib.cellsOf_full] at key
  refine Calls.mono key fun e w' ⟨he, hw⟩ => ?_
  subst hw
  refine ⟨_, rfl, #[.slice (some ⟨w.heap.size, 0, none⟩) (splB c s).length (splB c s).length], fun i b => match i with | 0 => b = w.heap.size | _ => False, he, rfl, (Bel.refl _ _).alloc (Nat.le_refl _) _, ?_, fun i r u h5 h6 => ?_⟩
  · intro i j x hi hj
    match i, j, hi, hj with
    | 0, 0, _, _ => rfl
  · match i with
    | 0 =>
      simp only [List.getElem?_cons_zero, Option.some.injEq] at h5
      subst h5
      have h7 : u = .slice (some ⟨w.heap.size, 0, none⟩) (splB c s).length (splB c s).length := by simpa using h6.symm
      subst h7
      have hrow := RR.row (Y := fun b => X b ∨ ∃ j, (match j with | 0 => b = w.heap.size | _ => False : Prop)) (B := w.heap.size) (w := w.alloc (.cells ((splB c s).map Value.string).toArray 9)) 9 1 ((splB c s).map datS) w.heap.size (splB c s).length ((splB c s).map Value.string).toArray (Nat.le_refl _)
        (heap_alloc_new w _) ⟨by simp, by simp, by unfold maxLen; omega, fun e he => by obtain ⟨x, _, rfl⟩ := List.mem_map.1 he; rfl, fun k e j d v hk hj hv => by
          rw [List.getElem?_map] at hk
          cases hx : (splB c s)[k]? with
          | none => rw [hx] at hk; cases hk
          | some x =>
            rw [hx] at hk
            cases hk
            have hj0 : j = 0 := by
              have := (List.getElem?_eq_some_iff.1 hj).1
              simpa [datS] using this
            subst hj0
            simp only [datS, List.getElem?_cons_zero, Option.some.injEq] at hj
            subst hj
            rw [Nat.mul_one, Nat.add_zero, List.getElem?_toArray, List.getElem?_map, hx] at hv
            cases hv
            exact .str _⟩
      rw [List.length_map] at hrow
      exact hrow
    | i + 1 => simp at h5
theorem split_ok (c : UInt8) (s : ByteArray) (hs : s.size < 4294967281) : FnEq Tryz.prog 53 [.d (.str s), .d (.str ⟨#[c]⟩)] [.row 9 1 ((splB c s).map datS)] := by
  refine fn_ok G_ok Tryz.func53 rfl rfl ?_; simp only [Tryz.ntmps53, List.length_cons, List.length_nil, Nat.reduceAdd, Nat.reduceSub, enm]
  repeat' (first | ((with_reducible first | (refine hK _ ?_; clear hK K) | refine stq fun K' hK' => ?_ | refine stc ?_); try simp only [go_sem]) | (with_reducible first | refine stp ?_ | (refine hK' _ ?_; clear hK' K') | refine kN kl53 fun K hK => ?_ | refine kO fun K hK => ?_) | ((with_reducible apply CallK.eq); (· with_reducible first | exact genSplit_ok c s hs); (· simp [RV.flat, D.sc, datI]); try simp only [go_sem]) | (with_reducible refine pK_mk ?_ ?_ <;> (intro hc; (try simp only [go_sem]); (try simp at hc); try (exfalso; omega))) | with_reducible refine And.intro (by first | omega | (unfold inI; omega)) ?_)
  refine retQ_ret rfl (by simp only [retL, ret1, hget, lk, List.length_map, List.length_nil, List.length_append, List.length_take, if_true, if_false, Nat.reduceEqDiff, Nat.reduceBEq, Bool.false_eq_true, Option.some.injEq]; rfl) (by simp [rowsOf, lk]) ?_; rfl
end Go.Proofs.YthocihmhljmgdaaGreatDoor

/-
  Words read as numbers: the program's functions and the reference's, in the abstract machine.
-/
set_option linter.unusedSimpArgs false
set_option linter.unusedVariables false
set_option maxHeartbeats 2000000
set_option maxRecDepth 100000
namespace Go.Proofs.YthocihmhljmgdaaGreatDoor
open Go.RowKit

theorem dig_mul {a : Nat} {b : UInt8} (h : isDig b) : IntKind.u8.wrap ((b.toNat : Int) - 48) = ((b.toNat - 48 : Nat) : Int) := by
  unfold isDig at h
  rw [IntKind.wrap_u8]
  omega
theorem rd_take {s : ByteArray} {k : Nat} {b : UInt8} (h : s[k]? = some b) : readL ((bl s).take (k + 1)) = 10 * readL ((bl s).take k) + (b.toNat - 48) := by
  have h' : (bl s)[k]? = some b := by rw [bl_get]; exact h
  rw [take_snoc h', readL_snoc]
theorem rd_lt {s : ByteArray} {k : Nat} (hk : k ≤ 12) (h : ∀ b ∈ (bl s).take k, isDig b) : readL ((bl s).take k) ≤ 999999999999 := by
  have h1 := readL_lt h
  have h2 : ((bl s).take k).length ≤ 12 := by rw [List.length_take]; omega
  have h3 : (10 : Nat) ^ ((bl s).take k).length ≤ 10 ^ 12 := Nat.pow_le_pow_right (by decide) h2
  omega
theorem dig_snoc {s : ByteArray} {k : Nat} {b : UInt8} (hJ : ∀ b ∈ (bl s).take k, isDig b) (h : s[k]? = some b) (hb : isDig b) : ∀ b ∈ (bl s).take (k + 1), isDig b := by
  have h' : (bl s)[k]? = some b := by rw [bl_get]; exact h
  rw [take_snoc h']
  intro x hx
  rcases List.mem_append.1 hx with hx | hx
  · exact hJ x hx
  · rw [List.mem_singleton] at hx; subst hx; exact hb
theorem canon_not {s : ByteArray} {k : Nat} {b : UInt8} (h : s[k]? = some b) (hb : ¬ isDig b) : ¬ canon (bl s) := fun hc => hb (hc.1 b (List.mem_of_getElem? (by rw [bl_get]; exact h)))
theorem size_nil {s : ByteArray} (h : s.size = 0) : s = ⟨#[]⟩ := by
  apply bl_inj
  have := bl_len s
  rw [h] at this
  rw [List.length_eq_zero_iff.1 this]
  rfl
theorem canon_mk {s : ByteArray} (hd : ∀ b ∈ (bl s).take s.size, isDig b) (h0 : s.size ≠ 0) (hz : ¬ (1 < s.size ∧ s[0]? = some 48)) : canon (bl s) := by
  rw [List.take_of_length_le (by rw [bl_len]; exact Nat.le_refl _)] at hd
  refine ⟨hd, ?_⟩
  rw [bl_len, bl_get]
  by_cases h1 : s.size = 1
  · exact .inl h1
  · exact .inr ⟨by omega, fun h => hz ⟨by omega, h⟩⟩
theorem natural_ok (s : ByteArray) : FnEq Tryz.prog 119 [.d (.str s)] [.d (.int .i64 ((natV (bl s)).getD 0)), .d (.bool (natV (bl s)).isSome)] := by
  refine fn_ok G_ok Tryz.func119 rfl rfl ?_; simp only [Tryz.ntmps119, List.length_cons, List.length_nil, Nat.reduceAdd, Nat.reduceSub, enm]
  by_cases h0 : s.size = 0
  · obtain rfl := size_nil h0
    rw [natV_no (by rintro ⟨⟨_, h⟩, _⟩; rw [bl_len] at h; simp at h; omega)]
    repeat' (first | ((with_reducible first | (refine hK _ ?_; clear hK K) | refine stq fun K' hK' => ?_ | refine stc ?_); try simp only [go_sem]) | (with_reducible first | refine stp ?_ | (refine hK' _ ?_; clear hK' K') | refine kN kl119 fun K hK => ?_ | refine kO fun K hK => ?_) | (refine xS rfl fun K' hK' => ?_; simp only [go_sem]) | refine iB ?_ | (with_reducible refine pK_mk ?_ ?_ <;> (intro hc; (try simp only [go_sem]); (try simp at hc); try (exfalso; omega))) | with_reducible refine And.intro (by first | omega | (unfold inI; omega)) ?_)
    all_goals (refine retQ_ret rfl rfl (by simp [rowsOf, lk]) ?_; rfl)
  · have hne : (s = ⟨#[]⟩) = False := eq_false fun h => h0 (by rw [h]; rfl)
    obtain ⟨b0, hb0⟩ : ∃ b, s[0]? = some b := ⟨_, getElem?_pos s 0 (by omega)⟩
    by_cases hl : s.size ≤ 12
    · have hl' : (12 < (s.size : Int)) = False := eq_false (by omega)
      by_cases hz : 1 < s.size ∧ b0 = 48
      · obtain ⟨hz1, rfl⟩ := hz
        rw [natV_no (by rintro ⟨⟨_, h⟩, _⟩; rw [bl_len, bl_get] at h; rcases h with h | h; omega; exact h.2 hb0)]
        have hz2 : (1 < (s.size : Int)) = True := eq_true (by omega)
        repeat' (first | ((with_reducible first | (refine hK _ ?_; clear hK K) | refine stq fun K' hK' => ?_ | refine stc ?_); try simp only [go_sem, hne, hl', hz2, hb0]) | (with_reducible first | refine stp ?_ | (refine hK' _ ?_; clear hK' K') | refine kN kl119 fun K hK => ?_ | refine kO fun K hK => ?_) | (refine xS rfl fun K' hK' => ?_; simp only [go_sem, hne, hl', hz2, hb0]) | refine iB ?_ | (with_reducible refine pK_mk ?_ ?_ <;> (intro hc; (try simp only [go_sem, hne, hl', hz2, hb0]); (try simp at hc); try (exfalso; omega))) | with_reducible refine And.intro (by first | omega | (unfold inI; omega)) ?_)
        all_goals (refine retQ_ret rfl rfl (by simp [rowsOf, lk]) ?_; rfl)
      · have hz' : ¬ (1 < s.size ∧ b0.toNat = 48) := fun h => hz ⟨h.1, UInt8.toNat_inj.1 h.2⟩
        by_cases h1 : 1 < s.size
        · have hz2 : (1 < (s.size : Int)) = True := eq_true (by omega)
          have hb48 : ((b0.toNat : Int) = 48) = False := eq_false (by omega)
          repeat' (first | ((with_reducible first | (refine hK _ ?_; clear hK K) | refine stq fun K' hK' => ?_ | refine stc ?_); try simp only [go_sem, hne, hl', hb0, hz2, hb48]) | (with_reducible first | refine stp ?_ | (refine hK' _ ?_; clear hK' K') | refine kN kl119 fun K hK => ?_ | refine kO fun K hK => ?_) | (refine xS rfl fun K' hK' => ?_; simp only [go_sem, hne, hl', hb0, hz2, hb48]) | refine iB ?_ | (with_reducible refine pK_mk ?_ ?_ <;> (intro hc; (try simp only [go_sem, hne, hl', hb0, hz2, hb48]); (try simp at hc); try (exfalso; omega))) | with_reducible refine And.intro (by first | omega | (unfold inI; omega)) ?_)
          refine pw_loop_over [2, 3, 4, 5, 23, 24, 25, 26, 27, 28, 29, 30, 31, 32, 33, 34, 35, 36, 37, 38, 39, 40, 41, 42, 43, 44, 45, 46] (fun k : Nat => [(5, .d (.int .i64 (k : Int))), (4, .d (.int .i64 (readL ((bl s).take k) : Int)))]) (fun k : Nat => []) 0 (fun k : Nat => k ≤ s.size ∧ ∀ b ∈ (bl s).take k, isDig b) (fun k : Nat => s.size - k) 0 ⟨Nat.zero_le _, by simp⟩ (fits_mk [] (by simp [renL_d, bdL_d, sg, over, wipe, wl, memN, ins, rm, lk, fitFr, fit1, ren, renL, bd, bdL, app, fitHp, hget, renB, bdB, List.take_zero, readL_nil] <;> omega)) ?_
          rintro k ⟨hk, hJ⟩
          have hR := rd_lt (s := s) (k := k) (by omega) hJ
          simp only [over, wipe, wl, memN, ins, rm, if_true, if_false, Nat.reduceEqDiff, Bool.false_eq_true, reduceCtorEq]
          by_cases hlt : k < s.size
          · have hx : s[k]? = some s[k] := getElem?_pos s k hlt
            generalize s[k] = x at hx
            have hrd := rd_take hx
            by_cases hd : isDig x
            · have hw := dig_mul (a := 0) hd
              have hJ2 := dig_snoc hJ hx hd
              have hd2 := hd
              unfold isDig at hd2
              repeat' (first | ((with_reducible first | (refine hK _ ?_; clear hK K) | refine stq fun K' hK' => ?_ | refine stc ?_); try simp only [go_sem, hx, hw]) | (with_reducible first | refine stp ?_ | (refine hK' _ ?_; clear hK' K') | refine kN kl119 fun K hK => ?_ | refine kO fun K hK => ?_) | (refine xS rfl fun K' hK' => ?_; simp only [go_sem, hx, hw]) | refine iB ?_ | (with_reducible refine pK_mk ?_ ?_ <;> (intro hc; (try simp only [go_sem, hx, hw]); (try simp at hc); try (exfalso; omega))) | with_reducible refine And.intro (by first | omega | (unfold inI; omega)) ?_)
              all_goals first
                | (exfalso; omega)
                | exact ⟨k + 1, ⟨by omega, hJ2⟩, by omega, (fits_mk [] (by simp [renL_d, bdL_d, sg, over, wipe, wl, memN, ins, rm, lk, fitFr, fit1, ren, renL, bd, bdL, app, fitHp, hget, renB, bdB, hrd] <;> omega))⟩
                | skip
            · rw [natV_no fun h => canon_not hx hd h.1]
              unfold isDig at hd
              repeat' (first | ((with_reducible first | (refine hK _ ?_; clear hK K) | refine stq fun K' hK' => ?_ | refine stc ?_); try simp only [go_sem, hx]) | (with_reducible first | refine stp ?_ | (refine hK' _ ?_; clear hK' K') | refine kN kl119 fun K hK => ?_ | refine kO fun K hK => ?_) | (refine xS rfl fun K' hK' => ?_; simp only [go_sem, hx]) | refine iB ?_ | (with_reducible refine pK_mk ?_ ?_ <;> (intro hc; (try simp only [go_sem, hx]); (try simp at hc); try (exfalso; omega))) | with_reducible refine And.intro (by first | omega | (unfold inI; omega)) ?_)
              all_goals first
                | (exfalso; omega)
                | (refine retQ_ret rfl rfl (by simp [rowsOf, lk]) ?_; rfl)
          · obtain rfl : k = s.size := by omega
            have hc' := canon_mk hJ h0 (fun h => hz ⟨h.1, Option.some.inj (hb0.symm.trans h.2)⟩)
            rw [natV_yes ⟨hc', by rw [bl_len]; exact hl⟩]
            have e : (bl s).take s.size = bl s := List.take_of_length_le (by rw [bl_len]; exact Nat.le_refl _)
            repeat' (first | ((with_reducible first | (refine hK _ ?_; clear hK K) | refine stq fun K' hK' => ?_ | refine stc ?_); try simp only [go_sem, e]) | (with_reducible first | refine stp ?_ | (refine hK' _ ?_; clear hK' K') | refine kN kl119 fun K hK => ?_ | refine kO fun K hK => ?_) | (refine xS rfl fun K' hK' => ?_; simp only [go_sem, e]) | refine iB ?_ | (with_reducible refine pK_mk ?_ ?_ <;> (intro hc; (try simp only [go_sem, e]); (try simp at hc); try (exfalso; omega))) | with_reducible refine And.intro (by first | omega | (unfold inI; omega)) ?_)
            refine retQ_ret rfl rfl (by simp [rowsOf, lk]) ?_; rfl
        · have hz2 : (1 < (s.size : Int)) = False := eq_false (by omega)
          repeat' (first | ((with_reducible first | (refine hK _ ?_; clear hK K) | refine stq fun K' hK' => ?_ | refine stc ?_); try simp only [go_sem, hne, hl', hz2]) | (with_reducible first | refine stp ?_ | (refine hK' _ ?_; clear hK' K') | refine kN kl119 fun K hK => ?_ | refine kO fun K hK => ?_) | (refine xS rfl fun K' hK' => ?_; simp only [go_sem, hne, hl', hz2]) | refine iB ?_ | (with_reducible refine pK_mk ?_ ?_ <;> (intro hc; (try simp only [go_sem, hne, hl', hz2]); (try simp at hc); try (exfalso; omega))) | with_reducible refine And.intro (by first | omega | (unfold inI; omega)) ?_)
          refine pw_loop_over [2, 3, 4, 5, 23, 24, 25, 26, 27, 28, 29, 30, 31, 32, 33, 34, 35, 36, 37, 38, 39, 40, 41, 42, 43, 44, 45, 46] (fun k : Nat => [(5, .d (.int .i64 (k : Int))), (4, .d (.int .i64 (readL ((bl s).take k) : Int)))]) (fun k : Nat => []) 0 (fun k : Nat => k ≤ s.size ∧ ∀ b ∈ (bl s).take k, isDig b) (fun k : Nat => s.size - k) 0 ⟨Nat.zero_le _, by simp⟩ (fits_mk [] (by simp [renL_d, bdL_d, sg, over, wipe, wl, memN, ins, rm, lk, fitFr, fit1, ren, renL, bd, bdL, app, fitHp, hget, renB, bdB, List.take_zero, readL_nil] <;> omega)) ?_
          rintro k ⟨hk, hJ⟩
          have hR := rd_lt (s := s) (k := k) (by omega) hJ
          simp only [over, wipe, wl, memN, ins, rm, if_true, if_false, Nat.reduceEqDiff, Bool.false_eq_true, reduceCtorEq]
          by_cases hlt : k < s.size
          · have hx : s[k]? = some s[k] := getElem?_pos s k hlt
            generalize s[k] = x at hx
            have hrd := rd_take hx
            by_cases hd : isDig x
            · have hw := dig_mul (a := 0) hd
              have hJ2 := dig_snoc hJ hx hd
              have hd2 := hd
              unfold isDig at hd2
              repeat' (first | ((with_reducible first | (refine hK _ ?_; clear hK K) | refine stq fun K' hK' => ?_ | refine stc ?_); try simp only [go_sem, hx, hw]) | (with_reducible first | refine stp ?_ | (refine hK' _ ?_; clear hK' K') | refine kN kl119 fun K hK => ?_ | refine kO fun K hK => ?_) | (refine xS rfl fun K' hK' => ?_; simp only [go_sem, hx, hw]) | refine iB ?_ | (with_reducible refine pK_mk ?_ ?_ <;> (intro hc; (try simp only [go_sem, hx, hw]); (try simp at hc); try (exfalso; omega))) | with_reducible refine And.intro (by first | omega | (unfold inI; omega)) ?_)
              all_goals first
                | (exfalso; omega)
                | exact ⟨k + 1, ⟨by omega, hJ2⟩, by omega, (fits_mk [] (by simp [renL_d, bdL_d, sg, over, wipe, wl, memN, ins, rm, lk, fitFr, fit1, ren, renL, bd, bdL, app, fitHp, hget, renB, bdB, hrd] <;> omega))⟩
                | skip
            · rw [natV_no fun h => canon_not hx hd h.1]
              unfold isDig at hd
              repeat' (first | ((with_reducible first | (refine hK _ ?_; clear hK K) | refine stq fun K' hK' => ?_ | refine stc ?_); try simp only [go_sem, hx]) | (with_reducible first | refine stp ?_ | (refine hK' _ ?_; clear hK' K') | refine kN kl119 fun K hK => ?_ | refine kO fun K hK => ?_) | (refine xS rfl fun K' hK' => ?_; simp only [go_sem, hx]) | refine iB ?_ | (with_reducible refine pK_mk ?_ ?_ <;> (intro hc; (try simp only [go_sem, hx]); (try simp at hc); try (exfalso; omega))) | with_reducible refine And.intro (by first | omega | (unfold inI; omega)) ?_)
              all_goals first
                | (exfalso; omega)
                | (refine retQ_ret rfl rfl (by simp [rowsOf, lk]) ?_; rfl)
          · obtain rfl : k = s.size := by omega
            have hc' := canon_mk hJ h0 (fun h => hz ⟨h.1, Option.some.inj (hb0.symm.trans h.2)⟩)
            rw [natV_yes ⟨hc', by rw [bl_len]; exact hl⟩]
            have e : (bl s).take s.size = bl s := List.take_of_length_le (by rw [bl_len]; exact Nat.le_refl _)
            repeat' (first | ((with_reducible first | (refine hK _ ?_; clear hK K) | refine stq fun K' hK' => ?_ | refine stc ?_); try simp only [go_sem, e]) | (with_reducible first | refine stp ?_ | (refine hK' _ ?_; clear hK' K') | refine kN kl119 fun K hK => ?_ | refine kO fun K hK => ?_) | (refine xS rfl fun K' hK' => ?_; simp only [go_sem, e]) | refine iB ?_ | (with_reducible refine pK_mk ?_ ?_ <;> (intro hc; (try simp only [go_sem, e]); (try simp at hc); try (exfalso; omega))) | with_reducible refine And.intro (by first | omega | (unfold inI; omega)) ?_)
            refine retQ_ret rfl rfl (by simp [rowsOf, lk]) ?_; rfl
    · have hl' : (12 < (s.size : Int)) = True := eq_true (by omega)
      rw [natV_no (by rintro ⟨_, h⟩; rw [bl_len] at h; exact hl h)]
      repeat' (first | ((with_reducible first | (refine hK _ ?_; clear hK K) | refine stq fun K' hK' => ?_ | refine stc ?_); try simp only [go_sem, hne, hl']) | (with_reducible first | refine stp ?_ | (refine hK' _ ?_; clear hK' K') | refine kN kl119 fun K hK => ?_ | refine kO fun K hK => ?_) | (refine xS rfl fun K' hK' => ?_; simp only [go_sem, hne, hl']) | refine iB ?_ | (with_reducible refine pK_mk ?_ ?_ <;> (intro hc; (try simp only [go_sem, hne, hl']); (try simp at hc); try (exfalso; omega))) | with_reducible refine And.intro (by first | omega | (unfold inI; omega)) ?_)
      all_goals (refine retQ_ret rfl rfl (by simp [rowsOf, lk]) ?_; rfl)
/-- a minus ahead -/
def hasMin (s : ByteArray) : Bool := decide (s[0]? = some 45)
def pastMin (s : ByteArray) : ByteArray := if hasMin s then s.extract 1 s.size else s
theorem pre_one {s : ByteArray} (h : 0 < s.size) : s.extract 0 1 = ⟨#[s[0]]⟩ := by
  apply bl_inj
  rw [bl_extract]
  have h1 : (bl s)[0]? = some s[0] := by rw [bl_get]; exact getElem?_pos s 0 h
  cases hb : bl s with
  | nil => rw [hb] at h1; simp at h1
  | cons b r => rw [hb] at h1; simp at h1; simp [h1]; rfl
theorem hasPrefix_ok (s : ByteArray) : FnEq Tryz.prog 161 [.d (.str s), .d (.str ⟨#[45]⟩)] [.d (.bool (hasMin s))] := by
  refine fn_ok G_ok Tryz.func161 rfl rfl ?_; simp only [Tryz.ntmps161, List.length_cons, List.length_nil, Nat.reduceAdd, Nat.reduceSub, enm]
  have e1 : (⟨#[45]⟩ : ByteArray).size = 1 := rfl
  by_cases h : 0 < s.size
  · have h1 : (1 ≤ (s.size : Int)) = True := eq_true (by omega)
    have e : (s.extract 0 1 = (⟨#[45]⟩ : ByteArray)) = (hasMin s = true) := by
      rw [pre_one h]
      unfold hasMin
      rw [decide_eq_true_eq, getElem?_pos s 0 h]
      simp
    repeat' (first | ((with_reducible first | (refine hK _ ?_; clear hK K) | refine stq fun K' hK' => ?_ | refine stc ?_); try simp only [go_sem, e1, h1, e]) | (with_reducible first | refine stp ?_ | (refine hK' _ ?_; clear hK' K') | refine kN kl161 fun K hK => ?_ | refine kO fun K hK => ?_) | (refine xS rfl fun K' hK' => ?_; simp only [go_sem, e1, h1, e]) | (with_reducible refine pK_mk ?_ ?_ <;> (intro hc; (try simp only [go_sem, e1, h1, e]); (try simp at hc); try (exfalso; omega))) | with_reducible refine And.intro (by first | omega | (unfold inI; omega)) ?_)
    all_goals first
      | omega
      | (refine retQ_ret rfl rfl (by simp [rowsOf, lk]) ?_; cases hasMin s <;> rfl)
      | skip
  · have h1 : (1 ≤ (s.size : Int)) = False := eq_false (by omega)
    have e : hasMin s = false := by unfold hasMin; rw [getElem?_neg s 0 h]; rfl
    repeat' (first | ((with_reducible first | (refine hK _ ?_; clear hK K) | refine stq fun K' hK' => ?_ | refine stc ?_); try simp only [go_sem, e1, h1]) | (with_reducible first | refine stp ?_ | (refine hK' _ ?_; clear hK' K') | refine kN kl161 fun K hK => ?_ | refine kO fun K hK => ?_) | (refine xS rfl fun K' hK' => ?_; simp only [go_sem, e1, h1]) | (with_reducible refine pK_mk ?_ ?_ <;> (intro hc; (try simp only [go_sem, e1, h1]); (try simp at hc); try (exfalso; omega))) | with_reducible refine And.intro (by first | omega | (unfold inI; omega)) ?_)
    all_goals (refine retQ_ret rfl rfl (by simp [rowsOf, lk]) ?_; rw [e])
theorem cutPrefix_ok (s : ByteArray) : FnEq Tryz.prog 118 [.d (.str s), .d (.str ⟨#[45]⟩)] [.d (.str (pastMin s)), .d (.bool (hasMin s))] := by
  have e1 : (⟨#[45]⟩ : ByteArray).size = 1 := rfl
  have key : FnEq Tryz.prog 141 [.d (.str s), .d (.str ⟨#[45]⟩)] [.d (.str (pastMin s)), .d (.bool (hasMin s))] := by
    refine fn_ok G_ok Tryz.func141 rfl rfl ?_; simp only [Tryz.ntmps141, List.length_cons, List.length_nil, Nat.reduceAdd, Nat.reduceSub, enm]
    unfold pastMin
    by_cases h : hasMin s = true
    · have hs : 1 ≤ s.size := by
        unfold hasMin at h
        rw [decide_eq_true_eq] at h
        rcases Nat.eq_zero_or_pos s.size with h0 | h0
        · rw [getElem?_neg s 0 (by omega)] at h; cases h
        · exact h0
      have hp := hasPrefix_ok s
      rw [h] at hp
      rw [h, if_pos rfl]
      repeat' (first | ((with_reducible first | (refine hK _ ?_; clear hK K) | refine stq fun K' hK' => ?_ | refine stc ?_); try simp only [go_sem, e1]) | (with_reducible first | refine stp ?_ | (refine hK' _ ?_; clear hK' K') | refine kN kl141 fun K hK => ?_ | refine kO fun K hK => ?_) | ((with_reducible apply CallK.eq); (· with_reducible first | exact hp); (· simp [RV.flat, D.sc, datI]); try simp only [go_sem, e1]) | (with_reducible refine pK_mk ?_ ?_ <;> (intro hc; (try simp only [go_sem, e1]); (try simp at hc); try (exfalso; omega))) | with_reducible refine And.intro (by first | omega | (unfold inI; omega)) ?_)
      all_goals first
        | omega
        | (refine retQ_ret rfl rfl (by simp [rowsOf, lk]) ?_; rfl)
        | skip
    · have h' : hasMin s = false := by simpa using h
      have hp := hasPrefix_ok s
      rw [h'] at hp
      rw [h', if_neg (by simp)]
      repeat' (first | ((with_reducible first | (refine hK _ ?_; clear hK K) | refine stq fun K' hK' => ?_ | refine stc ?_); try simp only [go_sem, e1]) | (with_reducible first | refine stp ?_ | (refine hK' _ ?_; clear hK' K') | refine kN kl141 fun K hK => ?_ | refine kO fun K hK => ?_) | ((with_reducible apply CallK.eq); (· with_reducible first | exact hp); (· simp [RV.flat, D.sc, datI]); try simp only [go_sem, e1]) | (with_reducible refine pK_mk ?_ ?_ <;> (intro hc; (try simp only [go_sem, e1]); (try simp at hc); try (exfalso; omega))) | with_reducible refine And.intro (by first | omega | (unfold inI; omega)) ?_)
      all_goals first
        | omega
        | (refine retQ_ret rfl rfl (by simp [rowsOf, lk]) ?_; rfl)
        | skip
  refine fn_ok G_ok Tryz.func118 rfl rfl ?_; simp only [Tryz.ntmps118, List.length_cons, List.length_nil, Nat.reduceAdd, Nat.reduceSub, enm]
  repeat' (first | ((with_reducible first | (refine hK _ ?_; clear hK K) | refine stq fun K' hK' => ?_ | refine stc ?_); try simp only [go_sem]) | (with_reducible first | refine stp ?_ | (refine hK' _ ?_; clear hK' K') | refine kN kl118 fun K hK => ?_ | refine kO fun K hK => ?_) | ((with_reducible apply CallK.eq); (· with_reducible first | exact key); (· simp [RV.flat, D.sc, datI]); try simp only [go_sem]) | (with_reducible refine pK_mk ?_ ?_ <;> (intro hc; (try simp only [go_sem]); (try simp at hc); try (exfalso; omega))) | with_reducible refine And.intro (by first | omega | (unfold inI; omega)) ?_)
  refine retQ_ret rfl rfl (by simp [rowsOf, lk]) ?_; rfl
theorem intV_neg2 {s : ByteArray} (h : hasMin s = true) : intV (bl s) = (match natV (bl (pastMin s)) with | some n => if n = 0 then none else some (-n) | none => none) := by
  unfold pastMin
  rw [if_pos h]
  unfold hasMin at h
  rw [decide_eq_true_eq, ← bl_get] at h
  rw [bl_extract]
  cases hb : bl s with
  | nil => rw [hb] at h; simp at h
  | cons b r =>
    rw [hb] at h
    simp at h
    subst h
    have hl := bl_len s
    rw [hb, List.length_cons] at hl
    have e : ((45 :: r).drop 1).take (s.size - 1) = r := by show r.take (s.size - 1) = r; exact List.take_of_length_le (by omega)
    rw [intV_neg, e]
    rfl
theorem intV_pos2 {s : ByteArray} (h : hasMin s = false) : intV (bl s) = natV (bl (pastMin s)) := by
  unfold pastMin
  rw [h]
  unfold hasMin at h
  rw [decide_eq_false_iff_not, ← bl_get] at h
  exact intV_pos h
theorem integer_ok (s : ByteArray) : FnEq Tryz.prog 101 [.d (.str s)] [.d (.int .i64 ((intV (bl s)).getD 0)), .d (.bool (intV (bl s)).isSome)] := by
  refine fn_ok G_ok Tryz.func101 rfl rfl ?_; simp only [Tryz.ntmps101, List.length_cons, List.length_nil, Nat.reduceAdd, Nat.reduceSub, enm]
  have hp := cutPrefix_ok s
  have hn := natural_ok (pastMin s)
  cases hb : hasMin s with
  | true =>
    rw [intV_neg2 hb]
    rw [hb] at hp
    generalize pastMin s = r at hp hn ⊢
    cases hv : natV (bl r) with
    | none =>
      rw [hv] at hn
      simp only [Option.getD_none, Option.isSome_none] at hn
      repeat' (first | ((with_reducible first | (refine hK _ ?_; clear hK K) | refine stq fun K' hK' => ?_ | refine stc ?_); try simp only [go_sem]) | (with_reducible first | refine stp ?_ | (refine hK' _ ?_; clear hK' K') | refine kN kl101 fun K hK => ?_ | refine kO fun K hK => ?_) | (refine xS rfl fun K' hK' => ?_; simp only [go_sem]) | ((with_reducible apply CallK.eq); (· with_reducible first | exact hp | exact hn); (· simp [RV.flat, D.sc, datI]); try simp only [go_sem]) | (with_reducible refine pK_mk ?_ ?_ <;> (intro hc; (try simp only [go_sem]); (try simp at hc); try (exfalso; omega))) | with_reducible refine And.intro (by first | omega | (unfold inI; omega)) ?_)
      all_goals (refine retQ_ret rfl rfl (by simp [rowsOf, lk]) ?_; rfl)
    | some n =>
      have hge := natV_ge hv
      rw [hv] at hn
      simp only [Option.getD_some, Option.isSome_some] at hn
      by_cases h0 : n = 0
      · subst h0
        repeat' (first | ((with_reducible first | (refine hK _ ?_; clear hK K) | refine stq fun K' hK' => ?_ | refine stc ?_); try simp only [go_sem]) | (with_reducible first | refine stp ?_ | (refine hK' _ ?_; clear hK' K') | refine kN kl101 fun K hK => ?_ | refine kO fun K hK => ?_) | (refine xS rfl fun K' hK' => ?_; simp only [go_sem]) | ((with_reducible apply CallK.eq); (· with_reducible first | exact hp | exact hn); (· simp [RV.flat, D.sc, datI]); try simp only [go_sem]) | (with_reducible refine pK_mk ?_ ?_ <;> (intro hc; (try simp only [go_sem]); (try simp at hc); try (exfalso; omega))) | with_reducible refine And.intro (by first | omega | (unfold inI; omega)) ?_)
        all_goals (refine retQ_ret rfl rfl (by simp [rowsOf, lk]) ?_; rfl)
      · have h0' : (n = 0) = False := eq_false h0
        simp only [if_neg h0]
        repeat' (first | ((with_reducible first | (refine hK _ ?_; clear hK K) | refine stq fun K' hK' => ?_ | refine stc ?_); try simp only [go_sem, h0', Int.zero_sub]) | (with_reducible first | refine stp ?_ | (refine hK' _ ?_; clear hK' K') | refine kN kl101 fun K hK => ?_ | refine kO fun K hK => ?_) | (refine xS rfl fun K' hK' => ?_; simp only [go_sem, h0', Int.zero_sub]) | ((with_reducible apply CallK.eq); (· with_reducible first | exact hp | exact hn); (· simp [RV.flat, D.sc, datI]); try simp only [go_sem, h0', Int.zero_sub]) | (with_reducible refine pK_mk ?_ ?_ <;> (intro hc; (try simp only [go_sem, h0', Int.zero_sub]); (try simp at hc); try (exfalso; omega))) | with_reducible refine And.intro (by first | omega | (unfold inI; omega)) ?_)
        all_goals first
          | omega
          | (refine retQ_ret rfl rfl (by simp [rowsOf, lk]) ?_; rfl)
          | skip
  | false =>
    rw [intV_pos2 hb]
    rw [hb] at hp
    generalize pastMin s = r at hp hn ⊢
    cases hv : natV (bl r) with
    | none =>
      rw [hv] at hn
      simp only [Option.getD_none, Option.isSome_none] at hn
      repeat' (first | ((with_reducible first | (refine hK _ ?_; clear hK K) | refine stq fun K' hK' => ?_ | refine stc ?_); try simp only [go_sem]) | (with_reducible first | refine stp ?_ | (refine hK' _ ?_; clear hK' K') | refine kN kl101 fun K hK => ?_ | refine kO fun K hK => ?_) | (refine xS rfl fun K' hK' => ?_; simp only [go_sem]) | ((with_reducible apply CallK.eq); (· with_reducible first | exact hp | exact hn); (· simp [RV.flat, D.sc, datI]); try simp only [go_sem]) | (with_reducible refine pK_mk ?_ ?_ <;> (intro hc; (try simp only [go_sem]); (try simp at hc); try (exfalso; omega))) | with_reducible refine And.intro (by first | omega | (unfold inI; omega)) ?_)
      all_goals (refine retQ_ret rfl rfl (by simp [rowsOf, lk]) ?_; rfl)
    | some n =>
      have hge := natV_ge hv
      rw [hv] at hn
      simp only [Option.getD_some, Option.isSome_some] at hn
      repeat' (first | ((with_reducible first | (refine hK _ ?_; clear hK K) | refine stq fun K' hK' => ?_ | refine stc ?_); try simp only [go_sem]) | (with_reducible first | refine stp ?_ | (refine hK' _ ?_; clear hK' K') | refine kN kl101 fun K hK => ?_ | refine kO fun K hK => ?_) | (refine xS rfl fun K' hK' => ?_; simp only [go_sem]) | ((with_reducible apply CallK.eq); (· with_reducible first | exact hp | exact hn); (· simp [RV.flat, D.sc, datI]); try simp only [go_sem]) | (with_reducible refine pK_mk ?_ ?_ <;> (intro hc; (try simp only [go_sem]); (try simp at hc); try (exfalso; omega))) | with_reducible refine And.intro (by first | omega | (unfold inI; omega)) ?_)
      all_goals (refine retQ_ret rfl rfl (by simp [rowsOf, lk]) ?_; rfl)
noncomputable def outI (ws : List ByteArray) (k : Nat) : List Int := ((ws.take k).map bl).map fun w => (intV w).getD 0
theorem out_zero (ws : List ByteArray) : outI ws 0 = [] := rfl
theorem integersIn_ok (ws : List ByteArray) (hl : ws.length ≤ 1048577) : FnEq Tryz.prog 52 [.d (.lst 1 (ws.map datS))] [.row 3 1 (((intsV (ws.map bl)).getD []).map datI), .d (.bool (intsV (ws.map bl)).isSome)] := by
  refine fn_ok G_ok Tryz.func52 rfl rfl ?_; simp only [Tryz.ntmps52, List.length_cons, List.length_nil, Nat.reduceAdd, Nat.reduceSub, enm]
  repeat' (first | ((with_reducible first | (refine hK _ ?_; clear hK K) | refine stq fun K' hK' => ?_ | refine stc ?_); try simp only [go_sem]) | (with_reducible first | refine stp ?_ | (refine hK' _ ?_; clear hK' K') | refine kN kl52 fun K hK => ?_ | refine kO fun K hK => ?_) | refine iB ?_ | (with_reducible refine pK_mk ?_ ?_ <;> (intro hc; (try simp only [go_sem]); (try simp at hc); try (exfalso; omega))) | with_reducible refine And.intro (by first | omega | (unfold inI; omega)) ?_)
  refine pw_loop_over [2, 3, 4, 6, 7, 8, 12, 13, 14, 15, 16, 17, 18, 19, 20, 21, 22, 23, 24, 25, 26, 27] (fun k : Nat => [(12, .d (.int .i64 (k : Int))), (4, .row 0 (outI ws k).length)]) (fun k : Nat => [(0, .row 3 1 ((outI ws k).map datI))]) 1 (fun k : Nat => k ≤ ws.length ∧ ∀ w ∈ ws.take k, (intV (bl w)).isSome = true) (fun k : Nat => ws.length - k) 0 ⟨Nat.zero_le _, by simp⟩ (fits_mk [] (by simp [renL_d, bdL_d, sg, over, wipe, wl, memN, ins, rm, lk, fitFr, fit1, ren, renL, bd, bdL, app, fitHp, hget, renB, bdB, out_zero] <;> omega)) ?_
  rintro k ⟨hk, hJ⟩
  simp only [over, wipe, wl, memN, ins, rm, if_true, if_false, Nat.reduceEqDiff, Bool.false_eq_true, reduceCtorEq]
  by_cases hlt : k < ws.length
  · have hx := List.getElem?_eq_getElem hlt
    generalize ws[k] = x at hx
    have hn := integer_ok x
    have hL : (outI ws k).length ≤ k := by unfold outI; simp; omega
    cases hv : intV (bl x) with
    | none =>
      rw [hv] at hn
      simp only [Option.getD_none, Option.isSome_none] at hn
      have e : intsV (ws.map bl) = none := by
        unfold intsV
        rw [optP_neg fun h => by have := h (bl x) (List.mem_map.2 ⟨x, List.mem_of_getElem? hx, rfl⟩); rw [hv] at this; cases this]
      rw [e]
      repeat' (first | ((with_reducible first | (refine hK _ ?_; clear hK K) | refine stq fun K' hK' => ?_ | refine stc ?_); try simp only [go_sem, List.getElem?_map, hx, Option.map_some, datS]) | (with_reducible first | refine stp ?_ | (refine hK' _ ?_; clear hK' K') | refine kN kl52 fun K hK => ?_ | refine kO fun K hK => ?_) | ((with_reducible apply CallK.eq); (· with_reducible first | exact hn); (· simp [RV.flat, D.sc, datI]); try simp only [go_sem, List.getElem?_map, hx, Option.map_some, datS]) | refine iB ?_ | (with_reducible refine pK_mk ?_ ?_ <;> (intro hc; (try simp only [go_sem, List.getElem?_map, hx, Option.map_some, datS]); (try simp at hc); try (exfalso; omega))) | with_reducible refine And.intro (by first | omega | (unfold inI; omega)) ?_)
      all_goals (refine retQ_ret rfl (by simp only [retL, ret1, hget, lk, List.length_map, List.length_nil, List.length_append, List.length_take, if_true, if_false, Nat.reduceEqDiff, Nat.reduceBEq, Bool.false_eq_true, Option.some.injEq]; rfl) (by simp [rowsOf, lk]) ?_; rfl)
    | some n =>
      rw [hv] at hn
      simp only [Option.getD_some, Option.isSome_some] at hn
      have e : outI ws (k + 1) = outI ws k ++ [n] := by unfold outI; rw [take_snoc hx]; simp [hv]
      repeat' (first | ((with_reducible first | (refine hK _ ?_; clear hK K) | refine stq fun K' hK' => ?_ | refine stc ?_); try simp only [go_sem, List.getElem?_map, hx, Option.map_some, datS]) | (with_reducible first | refine stp ?_ | (refine hK' _ ?_; clear hK' K') | refine kN kl52 fun K hK => ?_ | refine kO fun K hK => ?_) | ((with_reducible apply CallK.eq); (· with_reducible first | exact hn); (· simp [RV.flat, D.sc, datI]); try simp only [go_sem, List.getElem?_map, hx, Option.map_some, datS]) | refine iB ?_ | (with_reducible refine pK_mk ?_ ?_ <;> (intro hc; (try simp only [go_sem, List.getElem?_map, hx, Option.map_some, datS]); (try simp at hc); try (exfalso; omega))) | with_reducible refine And.intro (by first | omega | (unfold inI; omega)) ?_)
      all_goals first
        | (exfalso; omega)
        | exact ⟨k + 1, ⟨by omega, fun w hw => by
            rw [take_snoc hx] at hw
            rcases List.mem_append.1 hw with hw | hw
            · exact hJ w hw
            · rw [List.mem_singleton] at hw; subst hw; rw [hv]; rfl⟩, by omega, (fits_mk [] (by simp [renL_d, bdL_d, sg, over, wipe, wl, memN, ins, rm, lk, fitFr, fit1, ren, renL, bd, bdL, app, fitHp, hget, renB, bdB, e, datI] <;> omega))⟩
        | skip
  · have e0 : ws.take k = ws := List.take_of_length_le (by omega)
    rw [e0] at hJ
    have e : intsV (ws.map bl) = some ((ws.map bl).map fun w => (intV w).getD 0) := by
      unfold intsV
      rw [optP_pos fun w hw => by obtain ⟨x, hx, rfl⟩ := List.mem_map.1 hw; exact hJ x hx]
    rw [e]
    have e2 : outI ws k = (ws.map bl).map fun w => (intV w).getD 0 := by unfold outI; rw [e0]
    repeat' (first | ((with_reducible first | (refine hK _ ?_; clear hK K) | refine stq fun K' hK' => ?_ | refine stc ?_); try simp only [go_sem, e2]) | (with_reducible first | refine stp ?_ | (refine hK' _ ?_; clear hK' K') | refine kN kl52 fun K hK => ?_ | refine kO fun K hK => ?_) | refine iB ?_ | (with_reducible refine pK_mk ?_ ?_ <;> (intro hc; (try simp only [go_sem, e2]); (try simp at hc); try (exfalso; omega))) | with_reducible refine And.intro (by first | omega | (unfold inI; omega)) ?_)
    refine retQ_ret rfl (by simp only [retL, ret1, hget, lk, List.length_map, List.length_nil, List.length_append, List.length_take, if_true, if_false, Nat.reduceEqDiff, Nat.reduceBEq, Bool.false_eq_true, Option.some.injEq]; rfl) (by simp [rowsOf, lk]) ?_; rfl
end Go.Proofs.YthocihmhljmgdaaGreatDoor
