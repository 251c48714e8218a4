/-
  Notes read from a text: the reference's functions, in the abstract machine.
-/
import Derived.Test.YthocihmhljmgdaaGreatDoorZNu
set_option linter.unusedSimpArgs false
set_option linter.unusedVariables false
set_option maxHeartbeats 2000000
set_option maxRecDepth 100000
namespace Go.Proofs.YthocihmhljmgdaaGreatDoor
open Go.RowKit

theorem l1Read_ok (s : ByteArray) : FnEq Tryz.prog 69 [.d (.str s)] [.d (.int .i64 (rdS (bl s)))] := by
  refine fn_ok G_ok Tryz.func69 rfl rfl ?_; simp only [Tryz.ntmps69, List.length_cons, List.length_nil, Nat.reduceAdd, Nat.reduceSub, enm]
  by_cases hl : 1 ≤ s.size ∧ s.size ≤ 6
  · obtain ⟨hl1, hl6⟩ := hl
    have h0 : s.size ≠ 0 := by omega
    obtain ⟨b0, hb0⟩ : ∃ b, s[0]? = some b := ⟨_, getElem?_pos s 0 (by omega)⟩
    have hin := l1In_ok (s.size : Int) 1 6
    rw [show (decide ((1 : Int) ≤ (s.size : Int)) && decide ((s.size : Int) ≤ 6)) = true by simp; omega] at hin
    by_cases h48 : b0 = 48
    · subst h48
      by_cases h1 : 1 < s.size
      · have hz2 : (1 < (s.size : Int)) = True := eq_true (by omega)
        rw [rdS_no (by rintro ⟨⟨_, h⟩, _⟩; rw [bl_len, bl_get] at h; rcases h with h | h; omega; exact h.2 hb0)]
        repeat' (first | ((with_reducible first | (refine hK _ ?_; clear hK K) | refine stq fun K' hK' => ?_ | refine stc ?_); try simp only [go_sem, hb0, hz2]) | (with_reducible first | refine stp ?_ | (refine hK' _ ?_; clear hK' K') | refine kN kl69 fun K hK => ?_ | refine kO fun K hK => ?_) | (refine xS rfl fun K' hK' => ?_; simp only [go_sem, hb0, hz2]) | ((with_reducible apply CallK.eq); (· with_reducible first | exact hin); (· simp [RV.flat, D.sc, datI]); try simp only [go_sem, hb0, hz2]) | refine iB ?_ | (with_reducible refine pK_mk ?_ ?_ <;> (intro hc; (try simp only [go_sem, hb0, hz2]); (try simp at hc); try (exfalso; omega))) | with_reducible refine And.intro (by first | omega | (unfold inI; omega)) ?_)
        all_goals (refine retQ_ret rfl rfl (by simp [rowsOf, lk]) ?_; rfl)
      · have hz2 : (1 < (s.size : Int)) = False := eq_false (by omega)
        have hs1 : s.size = 1 := by omega
        have hz : ¬ (1 < s.size ∧ s[0]? = some 48) := fun h => h1 h.1
        repeat' (first | ((with_reducible first | (refine hK _ ?_; clear hK K) | refine stq fun K' hK' => ?_ | refine stc ?_); try simp only [go_sem, hb0, hz2]) | (with_reducible first | refine stp ?_ | (refine hK' _ ?_; clear hK' K') | refine kN kl69 fun K hK => ?_ | refine kO fun K hK => ?_) | (refine xS rfl fun K' hK' => ?_; simp only [go_sem, hb0, hz2]) | ((with_reducible apply CallK.eq); (· with_reducible first | exact hin); (· simp [RV.flat, D.sc, datI]); try simp only [go_sem, hb0, hz2]) | refine iB ?_ | (with_reducible refine pK_mk ?_ ?_ <;> (intro hc; (try simp only [go_sem, hb0, hz2]); (try simp at hc); try (exfalso; omega))) | with_reducible refine And.intro (by first | omega | (unfold inI; omega)) ?_)
        refine pw_loop_over [2, 3, 4, 19, 20, 21, 22, 23, 24, 25, 26, 27, 28, 29, 30, 31, 32, 33, 34, 35, 36, 37, 38, 39, 40, 41, 42] (fun k : Nat => [(4, .d (.int .i64 (k : Int))), (3, .d (.int .i64 (readL ((bl s).take k) : Int)))]) (fun k : Nat => []) 0 (fun k : Nat => k ≤ s.size ∧ ∀ b ∈ (bl s).take k, isDig b) (fun k : Nat => s.size - k) 0 ⟨Nat.zero_le _, by simp⟩ (fits_mk [] (by simp [renL_d, bdL_d, sg, over, wipe, wl, memN, ins, rm, lk, fitFr, fit1, ren, renL, bd, bdL, app, fitHp, hget, renB, bdB, List.take_zero, readL_nil] <;> omega)) ?_
        rintro k ⟨hk, hJ⟩
        have hR := rd_lt (s := s) (k := k) (by omega) hJ
        simp only [over, wipe, wl, memN, ins, rm, if_true, if_false, Nat.reduceEqDiff, Bool.false_eq_true, reduceCtorEq]
        by_cases hlt : k < s.size
        · have hx : s[k]? = some s[k] := getElem?_pos s k hlt
          generalize s[k] = x at hx
          have hrd := rd_take hx
          by_cases hd : isDig x
          · have hw := dig_mul (a := 0) hd
            have hJ2 := dig_snoc hJ hx hd
            have hd2 := hd
            unfold isDig at hd2
            repeat' (first | ((with_reducible first | (refine hK _ ?_; clear hK K) | refine stq fun K' hK' => ?_ | refine stc ?_); try simp only [go_sem, hx, hw]) | (with_reducible first | refine stp ?_ | (refine hK' _ ?_; clear hK' K') | refine kN kl69 fun K hK => ?_ | refine kO fun K hK => ?_) | (refine xS rfl fun K' hK' => ?_; simp only [go_sem, hx, hw]) | refine iB ?_ | (with_reducible refine pK_mk ?_ ?_ <;> (intro hc; (try simp only [go_sem, hx, hw]); (try simp at hc); try (exfalso; omega))) | with_reducible refine And.intro (by first | omega | (unfold inI; omega)) ?_)
            all_goals first
              | (exfalso; omega)
              | exact ⟨k + 1, ⟨by omega, hJ2⟩, by omega, (fits_mk [] (by simp [renL_d, bdL_d, sg, over, wipe, wl, memN, ins, rm, lk, fitFr, fit1, ren, renL, bd, bdL, app, fitHp, hget, renB, bdB, hrd] <;> omega))⟩
              | skip
          · rw [rdS_no fun h => canon_not hx hd h.1]
            unfold isDig at hd
            repeat' (first | ((with_reducible first | (refine hK _ ?_; clear hK K) | refine stq fun K' hK' => ?_ | refine stc ?_); try simp only [go_sem, hx]) | (with_reducible first | refine stp ?_ | (refine hK' _ ?_; clear hK' K') | refine kN kl69 fun K hK => ?_ | refine kO fun K hK => ?_) | (refine xS rfl fun K' hK' => ?_; simp only [go_sem, hx]) | refine iB ?_ | (with_reducible refine pK_mk ?_ ?_ <;> (intro hc; (try simp only [go_sem, hx]); (try simp at hc); try (exfalso; omega))) | with_reducible refine And.intro (by first | omega | (unfold inI; omega)) ?_)
            all_goals first
              | (exfalso; omega)
              | (refine retQ_ret rfl rfl (by simp [rowsOf, lk]) ?_; rfl)
        · obtain rfl : k = s.size := by omega
          have hc' := canon_mk hJ h0 hz
          rw [rdS_yes ⟨hc', by rw [bl_len]; exact hl6⟩]
          have e : (bl s).take s.size = bl s := List.take_of_length_le (by rw [bl_len]; exact Nat.le_refl _)
          repeat' (first | ((with_reducible first | (refine hK _ ?_; clear hK K) | refine stq fun K' hK' => ?_ | refine stc ?_); try simp only [go_sem, e]) | (with_reducible first | refine stp ?_ | (refine hK' _ ?_; clear hK' K') | refine kN kl69 fun K hK => ?_ | refine kO fun K hK => ?_) | (refine xS rfl fun K' hK' => ?_; simp only [go_sem, e]) | refine iB ?_ | (with_reducible refine pK_mk ?_ ?_ <;> (intro hc; (try simp only [go_sem, e]); (try simp at hc); try (exfalso; omega))) | with_reducible refine And.intro (by first | omega | (unfold inI; omega)) ?_)
          refine retQ_ret rfl rfl (by simp [rowsOf, lk]) ?_; rfl
    · have h48n : b0.toNat ≠ 48 := fun h => h48 (UInt8.toNat_inj.1 h)
      have hb48 : ((b0.toNat : Int) = 48) = False := eq_false (by omega)
      have hz : ¬ (1 < s.size ∧ s[0]? = some 48) := fun h => h48 (Option.some.inj (hb0.symm.trans h.2))
      repeat' (first | ((with_reducible first | (refine hK _ ?_; clear hK K) | refine stq fun K' hK' => ?_ | refine stc ?_); try simp only [go_sem, hb0, hb48]) | (with_reducible first | refine stp ?_ | (refine hK' _ ?_; clear hK' K') | refine kN kl69 fun K hK => ?_ | refine kO fun K hK => ?_) | (refine xS rfl fun K' hK' => ?_; simp only [go_sem, hb0, hb48]) | ((with_reducible apply CallK.eq); (· with_reducible first | exact hin); (· simp [RV.flat, D.sc, datI]); try simp only [go_sem, hb0, hb48]) | refine iB ?_ | (with_reducible refine pK_mk ?_ ?_ <;> (intro hc; (try simp only [go_sem, hb0, hb48]); (try simp at hc); try (exfalso; omega))) | with_reducible refine And.intro (by first | omega | (unfold inI; omega)) ?_)
      all_goals first
        | (exfalso; omega)
        | skip
      refine pw_loop_over [2, 3, 4, 19, 20, 21, 22, 23, 24, 25, 26, 27, 28, 29, 30, 31, 32, 33, 34, 35, 36, 37, 38, 39, 40, 41, 42] (fun k : Nat => [(4, .d (.int .i64 (k : Int))), (3, .d (.int .i64 (readL ((bl s).take k) : Int)))]) (fun k : Nat => []) 0 (fun k : Nat => k ≤ s.size ∧ ∀ b ∈ (bl s).take k, isDig b) (fun k : Nat => s.size - k) 0 ⟨Nat.zero_le _, by simp⟩ (fits_mk [] (by simp [renL_d, bdL_d, sg, over, wipe, wl, memN, ins, rm, lk, fitFr, fit1, ren, renL, bd, bdL, app, fitHp, hget, renB, bdB, List.take_zero, readL_nil] <;> omega)) ?_
      rintro k ⟨hk, hJ⟩
      have hR := rd_lt (s := s) (k := k) (by omega) hJ
      simp only [over, wipe, wl, memN, ins, rm, if_true, if_false, Nat.reduceEqDiff, Bool.false_eq_true, reduceCtorEq]
      by_cases hlt : k < s.size
      · have hx : s[k]? = some s[k] := getElem?_pos s k hlt
        generalize s[k] = x at hx
        have hrd := rd_take hx
        by_cases hd : isDig x
        · have hw := dig_mul (a := 0) hd
          have hJ2 := dig_snoc hJ hx hd
          have hd2 := hd
          unfold isDig at hd2
          repeat' (first | ((with_reducible first | (refine hK _ ?_; clear hK K) | refine stq fun K' hK' => ?_ | refine stc ?_); try simp only [go_sem, hx, hw]) | (with_reducible first | refine stp ?_ | (refine hK' _ ?_; clear hK' K') | refine kN kl69 fun K hK => ?_ | refine kO fun K hK => ?_) | (refine xS rfl fun K' hK' => ?_; simp only [go_sem, hx, hw]) | refine iB ?_ | (with_reducible refine pK_mk ?_ ?_ <;> (intro hc; (try simp only [go_sem, hx, hw]); (try simp at hc); try (exfalso; omega))) | with_reducible refine And.intro (by first | omega | (unfold inI; omega)) ?_)
          all_goals first
            | (exfalso; omega)
            | exact ⟨k + 1, ⟨by omega, hJ2⟩, by omega, (fits_mk [] (by simp [renL_d, bdL_d, sg, over, wipe, wl, memN, ins, rm, lk, fitFr, fit1, ren, renL, bd, bdL, app, fitHp, hget, renB, bdB, hrd] <;> omega))⟩
            | skip
        · rw [rdS_no fun h => canon_not hx hd h.1]
          unfold isDig at hd
          repeat' (first | ((with_reducible first | (refine hK _ ?_; clear hK K) | refine stq fun K' hK' => ?_ | refine stc ?_); try simp only [go_sem, hx]) | (with_reducible first | refine stp ?_ | (refine hK' _ ?_; clear hK' K') | refine kN kl69 fun K hK => ?_ | refine kO fun K hK => ?_) | (refine xS rfl fun K' hK' => ?_; simp only [go_sem, hx]) | refine iB ?_ | (with_reducible refine pK_mk ?_ ?_ <;> (intro hc; (try simp only [go_sem, hx]); (try simp at hc); try (exfalso; omega))) | with_reducible refine And.intro (by first | omega | (unfold inI; omega)) ?_)
          all_goals first
            | (exfalso; omega)
            | (refine retQ_ret rfl rfl (by simp [rowsOf, lk]) ?_; rfl)
      · obtain rfl : k = s.size := by omega
        have hc' := canon_mk hJ h0 hz
        rw [rdS_yes ⟨hc', by rw [bl_len]; exact hl6⟩]
        have e : (bl s).take s.size = bl s := List.take_of_length_le (by rw [bl_len]; exact Nat.le_refl _)
        repeat' (first | ((with_reducible first | (refine hK _ ?_; clear hK K) | refine stq fun K' hK' => ?_ | refine stc ?_); try simp only [go_sem, e]) | (with_reducible first | refine stp ?_ | (refine hK' _ ?_; clear hK' K') | refine kN kl69 fun K hK => ?_ | refine kO fun K hK => ?_) | (refine xS rfl fun K' hK' => ?_; simp only [go_sem, e]) | refine iB ?_ | (with_reducible refine pK_mk ?_ ?_ <;> (intro hc; (try simp only [go_sem, e]); (try simp at hc); try (exfalso; omega))) | with_reducible refine And.intro (by first | omega | (unfold inI; omega)) ?_)
        refine retQ_ret rfl rfl (by simp [rowsOf, lk]) ?_; rfl
  · have hin := l1In_ok (s.size : Int) 1 6
    rw [show (decide ((1 : Int) ≤ (s.size : Int)) && decide ((s.size : Int) ≤ 6)) = false by simp; omega] at hin
    rw [rdS_no (by rintro ⟨⟨_, h⟩, h6⟩; rw [bl_len] at h h6; omega)]
    repeat' (first | ((with_reducible first | (refine hK _ ?_; clear hK K) | refine stq fun K' hK' => ?_ | refine stc ?_); try simp only [go_sem]) | (with_reducible first | refine stp ?_ | (refine hK' _ ?_; clear hK' K') | refine kN kl69 fun K hK => ?_ | refine kO fun K hK => ?_) | (refine xS rfl fun K' hK' => ?_; simp only [go_sem]) | ((with_reducible apply CallK.eq); (· with_reducible first | exact hin); (· simp [RV.flat, D.sc, datI]); try simp only [go_sem]) | refine iB ?_ | (with_reducible refine pK_mk ?_ ?_ <;> (intro hc; (try simp only [go_sem]); (try simp at hc); try (exfalso; omega))) | with_reducible refine And.intro (by first | omega | (unfold inI; omega)) ?_)
    all_goals (refine retQ_ret rfl rfl (by simp [rowsOf, lk]) ?_; rfl)
/-- the reference's notes of the first lines -/
noncomputable def outS (lines : List ByteArray) (k : Nat) : List NoteD := (lines.take k).map fun w => noteS (splL 32 (bl w))
theorem outS_zero (lines : List ByteArray) : outS lines 0 = [] := rfl
theorem outS_len (lines : List ByteArray) (k : Nat) : (outS lines k).length ≤ k := by unfold outS; rw [List.length_map]; exact List.length_take_le _ _
theorem outS_succ {lines : List ByteArray} {k : Nat} {w : ByteArray} (h : lines[k]? = some w) : outS lines (k + 1) = outS lines k ++ [noteS (splL 32 (bl w))] := by
  unfold outS
  rw [take_snoc h, List.map_append]
  rfl
theorem outS_end (s : ByteArray) : outS (splB 10 s) ((splB 10 s).length - 1) = (splL 10 (bl s)).dropLast.map fun w => noteS (splL 32 w) := by
  unfold outS
  rw [List.dropLast_eq_take, ← splB_bl, List.length_map, ← List.map_take, List.map_map]
  rfl
theorem spec_ParseNotes_ok (s : ByteArray) (hs : s.size ≤ 1048576) : FnEq Tryz.prog 25 [.d (.str s)] [.row 64 3 (((ansP (bl s)).getD []).map NoteD.dat), .d (.bool (ansP (bl s)).isSome)] := by
  refine fn_ok G_ok Tryz.func25 rfl rfl ?_; simp only [Tryz.ntmps25, List.length_cons, List.length_nil, Nat.reduceAdd, Nat.reduceSub, enm]
  have hsp := l1Split_ok10 s hs
  have hle := splB_le 10 s
  have hmem : ∀ w ∈ splB 10 s, w.size ≤ s.size := fun w hw => splB_mem hw
  have hA : 41 < (splB 10 s).length → ansP (bl s) = none := fun h => spec_many (by rw [← splB_len2]; exact h)
  have hB : ∀ (k : Nat) (w : ByteArray), k + 1 < (splB 10 s).length → (splB 10 s)[k]? = some w → (splB 32 w).length ≠ 3 → ansP (bl s) = none := fun k w h1 h2 h3 => spec_word (k := k) (w := bl w) (by rw [← splB_len2]; exact h1) (by rw [← splB_bl, List.getElem?_map, h2]; rfl) (by rw [← splB_len2]; exact h3)
  have hC : NotesOk (outS (splB 10 s) ((splB 10 s).length - 1)) → textL (outS (splB 10 s) ((splB 10 s).length - 1)) = bl s → ansP (bl s) = some (outS (splB 10 s) ((splB 10 s).length - 1)) := fun h1 h2 => ansP_some h1 h2
  have hD : ¬ (NotesOk (outS (splB 10 s) ((splB 10 s).length - 1)) ∧ textL (outS (splB 10 s) ((splB 10 s).length - 1)) = bl s) → ansP (bl s) = none := fun h => spec_no (by rw [← outS_end]; exact h)
  have hpos : 0 < (splB 10 s).length := by rw [splB_len]; omega
  generalize splB 10 s = lines at *
  by_cases h41 : lines.length ≤ 41
  · have h41' : (41 < (lines.length : Int)) = False := eq_false (by omega)
    have hlm : (lines.length : Int) - 1 = ((lines.length - 1 : Nat) : Int) := by omega
    have hlt0 : (((lines.length - 1 : Nat) : Int)).toNat = lines.length - 1 := by omega
    repeat' (first | ((with_reducible first | (refine hK _ ?_; clear hK K) | refine stq fun K' hK' => ?_ | refine stc ?_); try simp only [go_sem, h41', hlm, Int.toNat_natCast, Int.toNat_zero, Nat.sub_zero]) | (with_reducible first | refine stp ?_ | (refine hK' _ ?_; clear hK' K') | refine kN kl25 fun K hK => ?_ | refine kO fun K hK => ?_) | (refine xS rfl fun K' hK' => ?_; simp only [go_sem, h41', hlm, Int.toNat_natCast, Int.toNat_zero, Nat.sub_zero]) | (refine qS rfl fun K' hK' => ?_; simp only [go_sem, h41', hlm, Int.toNat_natCast, Int.toNat_zero, Nat.sub_zero]) | ((with_reducible first | apply CallK.eq | apply CallQ.eqs); (· with_reducible first | exact hsp); (· first | exact rfl | (simp [RV.flat, D.sc, datI]; done)); try simp only [go_sem, h41', hlm, Int.toNat_natCast, Int.toNat_zero, Nat.sub_zero]) | refine iB ?_ | (with_reducible refine pw_seq_tailK kl25 G_ok 1 14 mixed (by kernel_rfl) (fun K hK => ?_); simp only [List.take_succ_cons, List.take_zero, List.drop_succ_cons, List.drop_zero]) | (with_reducible refine pK_mk ?_ ?_ <;> (intro hc; (try simp only [go_sem, h41', hlm, Int.toNat_natCast, Int.toNat_zero, Nat.sub_zero]); (try simp at hc); try (exfalso; omega))) | with_reducible refine And.intro (by first | omega | (unfold inI; omega)) ?_)
    all_goals first
      | omega
      | skip
    refine pw_loop_over [2, 3, 5, 7, 8, 20, 21, 22, 23, 24, 25, 26, 27, 28, 29, 30, 31, 32, 33, 34, 35, 36, 37, 38, 39, 40, 41, 42, 43, 44, 45] (fun k : Nat => [(20, .d (.int .i64 (k : Int))), (18, .view 0 1 0 (lines.length - 1)), (4, .row 0 lines.length), (5, .row 1 (outS lines k).length)]) (fun k : Nat => [(0, .row 9 1 (lines.map datS)), (1, .row 64 3 ((outS lines k).map NoteD.dat))]) 2 (fun k : Nat => k ≤ (lines.length - 1)) (fun k : Nat => (lines.length - 1) - k) 0 (Nat.zero_le _) (fits_mk [] (by simp [renL_d, bdL_d, sg, over, wipe, wl, memN, ins, rm, lk, fitFr, fit1, ren, renL, bd, bdL, app, fitHp, hget, renB, bdB, outS_zero] <;> omega)) ?_
    intro k hk
    have hL := outS_len lines k
    simp only [over, wipe, wl, memN, ins, rm, if_true, if_false, Nat.reduceEqDiff, Bool.false_eq_true, reduceCtorEq]
    by_cases hlt : k < lines.length - 1
    · have hlt1 : k < lines.length := by omega
      have hx := List.getElem?_eq_getElem hlt1
      generalize lines[k] = x at hx
      have hxs := hmem x (List.mem_of_getElem? hx)
      have hw := l1Split_ok32 x (by omega)
      have hB' := hB k x (by omega) hx
      have hS := outS_succ hx
      have hwd : splL 32 (bl x) = (splB 32 x).map bl := (splB_bl 32 x).symm
      rw [hwd] at hS
      generalize splB 32 x = ws at *
      by_cases h3 : ws.length = 3
      · obtain ⟨a, b, c, rfl⟩ : ∃ a b c, ws = [a, b, c] := by
          match ws, h3 with
          | [a, b, c], _ => exact ⟨a, b, c, rfl⟩
        have e : outS lines (k + 1) = outS lines k ++ [⟨rdS (bl a), rdS (bl b), rdS (bl c)⟩] := hS
        have hdl : ([a, b, c].map datS) = [[.str a], [.str b], [.str c]] := rfl
        rw [hdl] at hw
        have r1 := l1Read_ok a
        have r2 := l1Read_ok b
        have r3 := l1Read_ok c
        generalize rdS (bl a) = ra at *
        generalize rdS (bl b) = rb at *
        generalize rdS (bl c) = rc at *
        repeat' (first | with_reducible refine stop_seq (id := 11) ?_ | with_reducible refine stop_one (id := 11) ?_ | ((with_reducible first | (refine hK _ ?_; clear hK K) | refine stq fun K' hK' => ?_ | refine stc ?_); try simp only [go_sem, hlt, hlt1, Nat.zero_add, List.getElem?_map, hx, Option.map_some, datS, List.length_cons, List.length_nil]) | (with_reducible first | refine stp ?_ | (refine hK' _ ?_; clear hK' K') | refine kN kl25 fun K hK => ?_ | refine kO fun K hK => ?_) | (refine xS rfl fun K' hK' => ?_; simp only [go_sem, hlt, hlt1, Nat.zero_add, List.getElem?_map, hx, Option.map_some, datS, List.length_cons, List.length_nil]) | (refine qS rfl fun K' hK' => ?_; simp only [go_sem, hlt, hlt1, Nat.zero_add, List.getElem?_map, hx, Option.map_some, datS, List.length_cons, List.length_nil]) | ((with_reducible first | apply CallK.eq | apply CallQ.eqs); (· with_reducible first | exact hw); (· first | exact rfl | (simp [RV.flat, D.sc, datI]; done)); try simp only [go_sem, hlt, hlt1, Nat.zero_add, List.getElem?_map, hx, Option.map_some, datS, List.length_cons, List.length_nil]) | refine iB ?_ | (with_reducible refine pw_seq_tailK kl25 G_ok 1 14 mixed (by kernel_rfl) (fun K hK => ?_); simp only [List.take_succ_cons, List.take_zero, List.drop_succ_cons, List.drop_zero]) | (with_reducible refine pK_mk ?_ ?_ <;> (intro hc; (try simp only [go_sem, hlt, hlt1, Nat.zero_add, List.getElem?_map, hx, Option.map_some, datS, List.length_cons, List.length_nil]); (try simp at hc); try (exfalso; omega))) | with_reducible refine And.intro (by first | omega | (unfold inI; omega)) ?_)
        unfold Stop
        refine pw_anyN mixed ?_
        refine anyN_take 0 rfl rfl rfl (by decide +kernel) (by decide +kernel) (by decide +kernel) (pure_move (.inl rfl)) ?_
        try simp only [go_sem, Nat.zero_add, Int.toNat_natCast, Nat.mul_one, List.length_cons, List.length_nil]
        refine anyN_take 1 rfl rfl rfl (by decide +kernel) (by decide +kernel) (by decide +kernel) (pure_move (.inl rfl)) ?_
        try simp only [go_sem, Nat.zero_add, Int.toNat_natCast, Nat.mul_one, List.length_cons, List.length_nil]
        refine anyN_take 2 rfl rfl rfl (by decide +kernel) (by decide +kernel) (by decide +kernel) (pure_ix (y := .rptr 2 1 0 0) rfl (G_ok _ _ G77) rfl (by omega) (by simp [idxP, AS.get, lk])) ?_
        try simp only [go_sem, Nat.zero_add, Int.toNat_natCast, Nat.mul_one, List.length_cons, List.length_nil]
        refine anyN_take 5 rfl rfl rfl (by decide +kernel) (by decide +kernel) (by decide +kernel) (pure_move (.inl rfl)) ?_
        try simp only [go_sem, Nat.zero_add, Int.toNat_natCast, Nat.mul_one, List.length_cons, List.length_nil]
        refine anyN_take 6 rfl rfl rfl (by decide +kernel) (by decide +kernel) (by decide +kernel) (pure_ix (y := .rptr 2 1 1 0) rfl (G_ok _ _ G77) rfl (by omega) (by simp [idxP, AS.get, lk])) ?_
        try simp only [go_sem, Nat.zero_add, Int.toNat_natCast, Nat.mul_one, List.length_cons, List.length_nil]
        refine anyN_take 9 rfl rfl rfl (by decide +kernel) (by decide +kernel) (by decide +kernel) (pure_move (.inl rfl)) ?_
        try simp only [go_sem, Nat.zero_add, Int.toNat_natCast, Nat.mul_one, List.length_cons, List.length_nil]
        refine anyN_take 10 rfl rfl rfl (by decide +kernel) (by decide +kernel) (by decide +kernel) (pure_ix (y := .rptr 2 1 2 0) rfl (G_ok _ _ G77) rfl (by omega) (by simp [idxP, AS.get, lk])) ?_
        try simp only [go_sem, Nat.zero_add, Int.toNat_natCast, Nat.mul_one, List.length_cons, List.length_nil]
        repeat' (first
          | (with_reducible refine hK' _ ?_; clear hK' K'; try simp only [go_sem, Nat.zero_add, Int.toNat_natCast, Nat.mul_one, List.length_cons, List.length_nil])
          | ((with_reducible apply CallK.eq); (focus (with_reducible first | exact r1 | exact r2 | exact r3)); (focus (first | exact rfl | (simp [RV.flat, D.sc, datI]; done))); try simp only [go_sem, Nat.zero_add, Int.toNat_natCast, Nat.mul_one, List.length_cons, List.length_nil])
          | with_reducible refine And.intro (by first | omega | (unfold inI; omega)) ?_
          | (refine anyN_take 16 rfl rfl rfl (by decide +kernel) (by decide +kernel) (by decide +kernel) (pure_move (.inr rfl)) ?_; try simp only [go_sem, Nat.zero_add, Int.toNat_natCast, Nat.mul_one, List.length_cons, List.length_nil])
          | (refine anyN_step G_ok [3, 7, 11] (by decide +kernel) rfl ⟨⟨_, rfl, fun K' hK' => ?_⟩, ⟨_, rfl, fun K' hK' => ?_⟩, ⟨_, rfl, fun K' hK' => ?_⟩, trivial⟩ <;> ((first | with_reducible refine s_none rfl ?_ | refine s_some2 rfl ?_); simp only [go_sem, Nat.zero_add, Int.toNat_natCast, Nat.mul_one, List.length_cons, List.length_nil]))
          | (refine anyN_step G_ok [4, 7, 11] (by decide +kernel) rfl ⟨⟨_, rfl, fun K' hK' => ?_⟩, ⟨_, rfl, fun K' hK' => ?_⟩, ⟨_, rfl, fun K' hK' => ?_⟩, trivial⟩ <;> ((first | with_reducible refine s_none rfl ?_ | refine s_some2 rfl ?_); simp only [go_sem, Nat.zero_add, Int.toNat_natCast, Nat.mul_one, List.length_cons, List.length_nil]))
          | (refine anyN_step G_ok [7, 11] (by decide +kernel) rfl ⟨⟨_, rfl, fun K' hK' => ?_⟩, ⟨_, rfl, fun K' hK' => ?_⟩, trivial⟩ <;> ((first | with_reducible refine s_none rfl ?_ | refine s_some2 rfl ?_); simp only [go_sem, Nat.zero_add, Int.toNat_natCast, Nat.mul_one, List.length_cons, List.length_nil]))
          | (refine anyN_step G_ok [8, 11] (by decide +kernel) rfl ⟨⟨_, rfl, fun K' hK' => ?_⟩, ⟨_, rfl, fun K' hK' => ?_⟩, trivial⟩ <;> ((first | with_reducible refine s_none rfl ?_ | refine s_some2 rfl ?_); simp only [go_sem, Nat.zero_add, Int.toNat_natCast, Nat.mul_one, List.length_cons, List.length_nil]))
          | (refine anyN_step G_ok [11] (by decide +kernel) rfl ⟨⟨_, rfl, fun K' hK' => ?_⟩, trivial⟩ <;> ((first | with_reducible refine s_none rfl ?_ | refine s_some2 rfl ?_); simp only [go_sem, Nat.zero_add, Int.toNat_natCast, Nat.mul_one, List.length_cons, List.length_nil]))
          | (refine anyN_step G_ok [12] (by decide +kernel) rfl ⟨⟨_, rfl, fun K' hK' => ?_⟩, trivial⟩ <;> ((first | with_reducible refine s_none rfl ?_ | refine s_some2 rfl ?_); simp only [go_sem, Nat.zero_add, Int.toNat_natCast, Nat.mul_one, List.length_cons, List.length_nil]))
          | (refine anyN_step G_ok [13] (by decide +kernel) rfl ⟨⟨_, rfl, fun K' hK' => ?_⟩, trivial⟩ <;> ((first | with_reducible refine s_none rfl ?_ | refine s_some2 rfl ?_); simp only [go_sem, Nat.zero_add, Int.toNat_natCast, Nat.mul_one, List.length_cons, List.length_nil]))
          | (refine anyN_step G_ok [14] (by decide +kernel) rfl ⟨⟨_, rfl, fun K' hK' => ?_⟩, trivial⟩ <;> ((first | with_reducible refine s_none rfl ?_ | refine s_some2 rfl ?_); simp only [go_sem, Nat.zero_add, Int.toNat_natCast, Nat.mul_one, List.length_cons, List.length_nil]))
          | (refine anyN_step G_ok [15] (by decide +kernel) rfl ⟨⟨_, rfl, fun K' hK' => ?_⟩, trivial⟩ <;> ((first | with_reducible refine s_none rfl ?_ | refine s_some2 rfl ?_); simp only [go_sem, Nat.zero_add, Int.toNat_natCast, Nat.mul_one, List.length_cons, List.length_nil]))
          | (refine anyN_step G_ok [8] (by decide +kernel) rfl ⟨⟨_, rfl, fun K' hK' => ?_⟩, trivial⟩ <;> ((first | with_reducible refine s_none rfl ?_ | refine s_some2 rfl ?_); simp only [go_sem, Nat.zero_add, Int.toNat_natCast, Nat.mul_one, List.length_cons, List.length_nil]))
          | (refine anyN_step G_ok [7] (by decide +kernel) rfl ⟨⟨_, rfl, fun K' hK' => ?_⟩, trivial⟩ <;> ((first | with_reducible refine s_none rfl ?_ | refine s_some2 rfl ?_); simp only [go_sem, Nat.zero_add, Int.toNat_natCast, Nat.mul_one, List.length_cons, List.length_nil]))
          | (refine anyN_step G_ok [4, 11] (by decide +kernel) rfl ⟨⟨_, rfl, fun K' hK' => ?_⟩, ⟨_, rfl, fun K' hK' => ?_⟩, trivial⟩ <;> ((first | with_reducible refine s_none rfl ?_ | refine s_some2 rfl ?_); simp only [go_sem, Nat.zero_add, Int.toNat_natCast, Nat.mul_one, List.length_cons, List.length_nil]))
          | (refine anyN_step G_ok [4] (by decide +kernel) rfl ⟨⟨_, rfl, fun K' hK' => ?_⟩, trivial⟩ <;> ((first | with_reducible refine s_none rfl ?_ | refine s_some2 rfl ?_); simp only [go_sem, Nat.zero_add, Int.toNat_natCast, Nat.mul_one, List.length_cons, List.length_nil]))
          | (refine anyN_step G_ok [4, 7] (by decide +kernel) rfl ⟨⟨_, rfl, fun K' hK' => ?_⟩, ⟨_, rfl, fun K' hK' => ?_⟩, trivial⟩ <;> ((first | with_reducible refine s_none rfl ?_ | refine s_some2 rfl ?_); simp only [go_sem, Nat.zero_add, Int.toNat_natCast, Nat.mul_one, List.length_cons, List.length_nil]))
          | (refine anyN_step G_ok [3, 11] (by decide +kernel) rfl ⟨⟨_, rfl, fun K' hK' => ?_⟩, ⟨_, rfl, fun K' hK' => ?_⟩, trivial⟩ <;> ((first | with_reducible refine s_none rfl ?_ | refine s_some2 rfl ?_); simp only [go_sem, Nat.zero_add, Int.toNat_natCast, Nat.mul_one, List.length_cons, List.length_nil]))
          | (refine anyN_step G_ok [3] (by decide +kernel) rfl ⟨⟨_, rfl, fun K' hK' => ?_⟩, trivial⟩ <;> ((first | with_reducible refine s_none rfl ?_ | refine s_some2 rfl ?_); simp only [go_sem, Nat.zero_add, Int.toNat_natCast, Nat.mul_one, List.length_cons, List.length_nil]))
          | (refine anyN_step G_ok [3, 7] (by decide +kernel) rfl ⟨⟨_, rfl, fun K' hK' => ?_⟩, ⟨_, rfl, fun K' hK' => ?_⟩, trivial⟩ <;> ((first | with_reducible refine s_none rfl ?_ | refine s_some2 rfl ?_); simp only [go_sem, Nat.zero_add, Int.toNat_natCast, Nat.mul_one, List.length_cons, List.length_nil]))
          | (refine anyN_done (by decide +kernel) ?_; try simp only [go_sem, Nat.zero_add, Int.toNat_natCast, Nat.mul_one, List.length_cons, List.length_nil])
          | with_reducible refine thenA_normal ?_ | with_reducible refine inBlockA_same ?_ | with_reducible refine inBlockA_normal ?_)
        all_goals
          repeat' (first | ((with_reducible first | (refine hK _ ?_; clear hK K) | refine stq fun K' hK' => ?_ | refine stc ?_); try simp only [go_sem]) | (with_reducible first | refine stp ?_ | (refine hK' _ ?_; clear hK' K') | refine kN kl25 fun K hK => ?_ | refine kO fun K hK => ?_) | (refine xS rfl fun K' hK' => ?_; simp only [go_sem]) | (refine qS rfl fun K' hK' => ?_; simp only [go_sem]) | refine iB ?_ | (with_reducible refine pw_seq_tailK kl25 G_ok 1 14 mixed (by kernel_rfl) (fun K hK => ?_); simp only [List.take_succ_cons, List.take_zero, List.drop_succ_cons, List.drop_zero]) | (with_reducible refine pK_mk ?_ ?_ <;> (intro hc; (try simp only [go_sem]); (try simp at hc); try (exfalso; omega))) | with_reducible refine And.intro (by first | omega | (unfold inI; omega)) ?_)
          exact ⟨k + 1, by omega, by omega, (fits_mk [] (by simp [renL_d, bdL_d, sg, over, wipe, wl, memN, ins, rm, lk, fitFr, fit1, ren, renL, bd, bdL, app, fitHp, hget, renB, bdB, e, NoteD.dat] <;> omega))⟩
      · have h3' : ((ws.length : Int) = 3) = False := eq_false (by omega)
        rw [hB' h3]
        repeat' (first | ((with_reducible first | (refine hK _ ?_; clear hK K) | refine stq fun K' hK' => ?_ | refine stc ?_); try simp only [go_sem, hlt, hlt1, Nat.zero_add, List.getElem?_map, hx, Option.map_some, datS, h3']) | (with_reducible first | refine stp ?_ | (refine hK' _ ?_; clear hK' K') | refine kN kl25 fun K hK => ?_ | refine kO fun K hK => ?_) | (refine xS rfl fun K' hK' => ?_; simp only [go_sem, hlt, hlt1, Nat.zero_add, List.getElem?_map, hx, Option.map_some, datS, h3']) | (refine qS rfl fun K' hK' => ?_; simp only [go_sem, hlt, hlt1, Nat.zero_add, List.getElem?_map, hx, Option.map_some, datS, h3']) | ((with_reducible first | apply CallK.eq | apply CallQ.eqs); (· with_reducible first | exact hw); (· first | exact rfl | (simp [RV.flat, D.sc, datI]; done)); try simp only [go_sem, hlt, hlt1, Nat.zero_add, List.getElem?_map, hx, Option.map_some, datS, h3']) | refine iB ?_ | (with_reducible refine pw_seq_tailK kl25 G_ok 1 14 mixed (by kernel_rfl) (fun K hK => ?_); simp only [List.take_succ_cons, List.take_zero, List.drop_succ_cons, List.drop_zero]) | (with_reducible refine pK_mk ?_ ?_ <;> (intro hc; (try simp only [go_sem, hlt, hlt1, Nat.zero_add, List.getElem?_map, hx, Option.map_some, datS, h3']); (try simp at hc); try (exfalso; omega))) | with_reducible refine And.intro (by first | omega | (unfold inI; omega)) ?_)
        all_goals first
          | (refine retQ_ret rfl (by simp only [retL, ret1, hget, lk, List.length_map, List.length_nil, List.length_append, List.length_take, if_true, if_false, Nat.reduceEqDiff, Nat.reduceBEq, Bool.false_eq_true, Option.some.injEq]; rfl) (by simp [rowsOf, lk]) ?_; rfl)
          | skip
    · obtain rfl : k = lines.length - 1 := by omega
      have hg := wdGood_ok (outS lines (lines.length - 1)) (by omega)
      by_cases hok : NotesOk (outS lines (lines.length - 1))
      · rw [bP_true hok] at hg
        have ht := wdText_ok (outS lines (lines.length - 1)) (by omega) hok.fit
        by_cases he : textL (outS lines (lines.length - 1)) = bl s
        · rw [hC hok he]
          rw [he, ba_bl] at ht
          repeat' (first | ((with_reducible first | (refine hK _ ?_; clear hK K) | refine stq fun K' hK' => ?_ | refine stc ?_); try simp only [go_sem]) | (with_reducible first | refine stp ?_ | (refine hK' _ ?_; clear hK' K') | refine kN kl25 fun K hK => ?_ | refine kO fun K hK => ?_) | (refine xS rfl fun K' hK' => ?_; simp only [go_sem]) | (refine qS rfl fun K' hK' => ?_; simp only [go_sem]) | ((with_reducible first | apply CallK.eq | apply CallQ.eqs); (· with_reducible first | exact hg | exact ht); (· first | exact rfl | (simp [RV.flat, D.sc, datI]; done)); try simp only [go_sem]) | refine iB ?_ | (with_reducible refine pw_seq_tailK kl25 G_ok 1 14 mixed (by kernel_rfl) (fun K hK => ?_); simp only [List.take_succ_cons, List.take_zero, List.drop_succ_cons, List.drop_zero]) | (with_reducible refine pK_mk ?_ ?_ <;> (intro hc; (try simp only [go_sem]); (try simp at hc); try (exfalso; omega))) | with_reducible refine And.intro (by first | omega | (unfold inI; omega)) ?_)
          all_goals first
            | (refine retQ_ret rfl (by simp only [retL, ret1, hget, lk, List.length_map, List.length_nil, List.length_append, List.length_take, if_true, if_false, Nat.reduceEqDiff, Nat.reduceBEq, Bool.false_eq_true, Option.some.injEq]; rfl) (by simp [rowsOf, lk]) ?_; rfl)
            | skip
        · rw [hD fun h => he h.2]
          have hne : (ba (textL (outS lines (lines.length - 1))) = s) = False := eq_false fun h => he (by rw [← h, bl_ba])
          generalize ba (textL (outS lines (lines.length - 1))) = T at *
          repeat' (first | ((with_reducible first | (refine hK _ ?_; clear hK K) | refine stq fun K' hK' => ?_ | refine stc ?_); try simp only [go_sem, hne]) | (with_reducible first | refine stp ?_ | (refine hK' _ ?_; clear hK' K') | refine kN kl25 fun K hK => ?_ | refine kO fun K hK => ?_) | (refine xS rfl fun K' hK' => ?_; simp only [go_sem, hne]) | (refine qS rfl fun K' hK' => ?_; simp only [go_sem, hne]) | ((with_reducible first | apply CallK.eq | apply CallQ.eqs); (· with_reducible first | exact hg | exact ht); (· first | exact rfl | (simp [RV.flat, D.sc, datI]; done)); try simp only [go_sem, hne]) | refine iB ?_ | (with_reducible refine pw_seq_tailK kl25 G_ok 1 14 mixed (by kernel_rfl) (fun K hK => ?_); simp only [List.take_succ_cons, List.take_zero, List.drop_succ_cons, List.drop_zero]) | (with_reducible refine pK_mk ?_ ?_ <;> (intro hc; (try simp only [go_sem, hne]); (try simp at hc); try (exfalso; omega))) | with_reducible refine And.intro (by first | omega | (unfold inI; omega)) ?_)
          all_goals first
            | (exfalso; simp_all; done)
            | (refine retQ_ret rfl (by simp only [retL, ret1, hget, lk, List.length_map, List.length_nil, List.length_append, List.length_take, if_true, if_false, Nat.reduceEqDiff, Nat.reduceBEq, Bool.false_eq_true, Option.some.injEq]; rfl) (by simp [rowsOf, lk]) ?_; rfl)
            | skip
      · rw [bP_false hok] at hg
        rw [hD fun h => hok h.1]
        repeat' (first | ((with_reducible first | (refine hK _ ?_; clear hK K) | refine stq fun K' hK' => ?_ | refine stc ?_); try simp only [go_sem]) | (with_reducible first | refine stp ?_ | (refine hK' _ ?_; clear hK' K') | refine kN kl25 fun K hK => ?_ | refine kO fun K hK => ?_) | (refine xS rfl fun K' hK' => ?_; simp only [go_sem]) | (refine qS rfl fun K' hK' => ?_; simp only [go_sem]) | ((with_reducible first | apply CallK.eq | apply CallQ.eqs); (· with_reducible first | exact hg); (· first | exact rfl | (simp [RV.flat, D.sc, datI]; done)); try simp only [go_sem]) | refine iB ?_ | (with_reducible refine pw_seq_tailK kl25 G_ok 1 14 mixed (by kernel_rfl) (fun K hK => ?_); simp only [List.take_succ_cons, List.take_zero, List.drop_succ_cons, List.drop_zero]) | (with_reducible refine pK_mk ?_ ?_ <;> (intro hc; (try simp only [go_sem]); (try simp at hc); try (exfalso; omega))) | with_reducible refine And.intro (by first | omega | (unfold inI; omega)) ?_)
        all_goals first
          | (refine retQ_ret rfl (by simp only [retL, ret1, hget, lk, List.length_map, List.length_nil, List.length_append, List.length_take, if_true, if_false, Nat.reduceEqDiff, Nat.reduceBEq, Bool.false_eq_true, Option.some.injEq]; rfl) (by simp [rowsOf, lk]) ?_; rfl)
          | skip
  · have h41' : (41 < (lines.length : Int)) = True := eq_true (by omega)
    rw [hA (by omega)]
    repeat' (first | ((with_reducible first | (refine hK _ ?_; clear hK K) | refine stq fun K' hK' => ?_ | refine stc ?_); try simp only [go_sem, h41']) | (with_reducible first | refine stp ?_ | (refine hK' _ ?_; clear hK' K') | refine kN kl25 fun K hK => ?_ | refine kO fun K hK => ?_) | (refine xS rfl fun K' hK' => ?_; simp only [go_sem, h41']) | (refine qS rfl fun K' hK' => ?_; simp only [go_sem, h41']) | ((with_reducible first | apply CallK.eq | apply CallQ.eqs); (· with_reducible first | exact hsp); (· first | exact rfl | (simp [RV.flat, D.sc, datI]; done)); try simp only [go_sem, h41']) | refine iB ?_ | (with_reducible refine pw_seq_tailK kl25 G_ok 1 14 mixed (by kernel_rfl) (fun K hK => ?_); simp only [List.take_succ_cons, List.take_zero, List.drop_succ_cons, List.drop_zero]) | (with_reducible refine pK_mk ?_ ?_ <;> (intro hc; (try simp only [go_sem, h41']); (try simp at hc); try (exfalso; omega))) | with_reducible refine And.intro (by first | omega | (unfold inI; omega)) ?_)
    all_goals (refine retQ_ret rfl (by simp only [retL, ret1, hget, lk, List.length_map, List.length_nil, List.length_append, List.length_take, if_true, if_false, Nat.reduceEqDiff, Nat.reduceBEq, Bool.false_eq_true, Option.some.injEq]; rfl) (by simp [rowsOf, lk]) ?_; rfl)
end Go.Proofs.YthocihmhljmgdaaGreatDoor
