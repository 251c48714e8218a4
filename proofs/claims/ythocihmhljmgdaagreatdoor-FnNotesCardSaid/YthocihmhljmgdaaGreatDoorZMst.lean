/-
  Notes read from a text: the program's functions, in the abstract machine.
-/
import Derived.Test.YthocihmhljmgdaaGreatDoorZMf
import Derived.Test.YthocihmhljmgdaaGreatDoorZMc
import Derived.Test.YthocihmhljmgdaaGreatDoorZNoteW
import Derived.Test.YthocihmhljmgdaaGreatDoorZSpg
import Derived.Test.YthocihmhljmgdaaGreatDoorZM11
import Derived.Laws.BytesArg
set_option linter.unusedSimpArgs false
set_option linter.unusedVariables false
set_option maxHeartbeats 2000000
set_option maxRecDepth 100000
namespace Go.Proofs.YthocihmhljmgdaaGreatDoor
open Go.RowKit

section
variable {P : Program} {o : Oper} {s : AS}
theorem pure_ix {t : TypeId} {x i : Operand} {e : TypeId} {sz bytes : Nat} {z : List D} {k : IntKind} {n : Int} {y : PV} (ho : o.op = .indexAddr t x i) (ht : tiB P t (.slc e sz bytes z) = true) (hi : s.get i = .d (.int k n)) (h0 : 0 ≤ n) (hx : idxP sz n.toNat (s.get x) = some y) : PureAt P o s y := fun m X w a hq => by
  obtain ⟨b, off, len, c, h1, h2, h3⟩ := idxP_R hx (hq x)
  have h4 := hq i
  rw [hi] at h4
  obtain ⟨h5, ⟨inf, v, h6, h7, _⟩, _⟩ := tiB_slc ht
  refine ⟨_, fun u => ?_, h3⟩
  have hb : 0 ≤ n ∧ n < (len : Int) := ⟨h0, by omega⟩
  simp [execOp, ho, h1, h4.int, Instr.indexAt, run_underlying h5, asIntOf, hb, run_size h6, h7, Addr.add_lit]
end
theorem eqDat {P : Program} {f : FuncId} {args : List PV} {rs : List RV} (h : FnEq P f args rs) : FnEq P f args (rs.map RV.data) := FnOK.data (h.mono fun _ e => by rw [e])
/-- the lines of a text that ends with a newline -/
def linesV (s : ByteArray) : Option (List ByteArray) := if s.size = 0 then some [] else if s[s.size - 1]? = some 10 then some (splB 10 (s.extract 0 (s.size - 1))) else none
theorem linesV_nil {s : ByteArray} (h : s.size = 0) : linesV s = some [] := by rw [linesV, if_pos h]
theorem linesV_yes {s : ByteArray} (h : s.size ≠ 0) (h2 : s[s.size - 1]? = some 10) : linesV s = some (splB 10 (s.extract 0 (s.size - 1))) := by rw [linesV, if_neg h, if_pos h2]
theorem linesV_no {s : ByteArray} (h : s.size ≠ 0) (h2 : s[s.size - 1]? ≠ some 10) : linesV s = none := by rw [linesV, if_neg h, if_neg h2]
theorem bl_last {s : ByteArray} (h : s.size ≠ 0) {b : UInt8} (h2 : s[s.size - 1]? = some b) : bl s = bl (s.extract 0 (s.size - 1)) ++ [b] := by
  rw [bl_extract, List.drop_zero, Nat.sub_zero]
  have h3 : (bl s)[s.size - 1]? = some b := by rw [bl_get]; exact h2
  rw [← take_snoc h3, List.take_of_length_le (by rw [bl_len]; omega)]
theorem linesV_none {s : ByteArray} (h : linesV s = none) : ansP (bl s) = none := by
  by_cases h0 : s.size = 0
  · rw [linesV_nil h0] at h; cases h
  · by_cases h2 : s[s.size - 1]? = some 10
    · rw [linesV_yes h0 h2] at h; cases h
    · refine impl_open (fun e => h0 (by rw [← bl_len, e]; rfl)) fun t e => h2 ?_
      rw [← bl_get, e]
      have hl := bl_len s
      rw [e, List.length_append, List.length_singleton] at hl
      rw [List.getElem?_append_right (by omega), show s.size - 1 - t.length = 0 by omega]
      rfl
/-- the notes of the first lines -/
noncomputable def outN (lines : List ByteArray) (k : Nat) : List NoteD := (lines.take k).map fun w => vV (bl w)
theorem outN_zero (lines : List ByteArray) : outN lines 0 = [] := rfl
theorem outN_len (lines : List ByteArray) (k : Nat) : (outN lines k).length ≤ k := by unfold outN; rw [List.length_map]; exact List.length_take_le _ _
theorem outN_succ {lines : List ByteArray} {k : Nat} {w : ByteArray} {x : NoteD} (h : lines[k]? = some w) (hx : lineV (bl w) = some x) : outN lines (k + 1) = outN lines k ++ [x] := by
  unfold outN
  rw [take_snoc h, List.map_append, List.map_singleton, vV, hx]
  rfl
theorem splL_mem {c : UInt8} : ∀ {l w : List UInt8}, w ∈ splL c l → w.length ≤ l.length
  | [], w, h => by rw [splL, List.mem_singleton] at h; subst h; simp
  | b :: l, w, h => by
    by_cases hb : b = c
    · subst hb
      rw [splL_eq] at h
      rcases List.mem_cons.1 h with rfl | h
      · simp
      · have := splL_mem h; simp; omega
    · rw [splL_ne hb] at h
      have := splL_some c l
      cases hs : splL c l with
      | nil => exact absurd hs this
      | cons p ps =>
        rw [hs, onto] at h
        rcases List.mem_cons.1 h with rfl | h
        · have := splL_mem (c := c) (l := l) (w := p) (by rw [hs]; simp); simp; omega
        · have := splL_mem (c := c) (l := l) (w := w) (by rw [hs]; exact List.mem_cons_of_mem _ h); simp; omega
theorem splB_mem {c : UInt8} {s w : ByteArray} (h : w ∈ splB c s) : w.size ≤ s.size := by
  have h1 : bl w ∈ splL c (bl s) := by rw [← splB_bl]; exact List.mem_map.2 ⟨w, h, rfl⟩
  have := splL_mem h1
  rw [bl_len, bl_len] at this
  exact this
theorem linesV_some {s : ByteArray} {lines : List ByteArray} (h : linesV s = some lines) :
    (∀ w ∈ lines, lineV (bl w) = none → ansP (bl s) = none) ∧ (¬ NotesOk (outN lines lines.length) → ansP (bl s) = none) ∧
    ((∀ w ∈ lines, (lineV (bl w)).isSome = true) → NotesOk (outN lines lines.length) → ansP (bl s) = some (outN lines lines.length)) ∧ (40 < lines.length → ansP (bl s) = none) ∧ lines.length ≤ s.size + 1 ∧ ∀ w ∈ lines, w.size ≤ s.size := by
  by_cases h0 : s.size = 0
  · rw [linesV_nil h0] at h
    cases h
    have e : bl s = [] := List.length_eq_zero_iff.1 (by rw [bl_len]; exact h0)
    rw [e, ansP_nil]
    exact ⟨fun w hw => by simp at hw, fun hn => absurd notesOk_nil hn, fun _ _ => rfl, fun hn => by simp at hn, by simp, fun w hw => by simp at hw⟩
  · by_cases h2 : s[s.size - 1]? = some 10
    · rw [linesV_yes h0 h2] at h
      have e := bl_last h0 h2
      have hsz : (s.extract 0 (s.size - 1)).size ≤ s.size := by rw [ByteArray.size_extract]; omega
      generalize s.extract 0 (s.size - 1) = t at h e hsz
      cases h
      have ho : outN (splB 10 t) (splB 10 t).length = (splL 10 (bl t)).map vV := by
        unfold outN
        rw [List.take_length, ← splB_bl, List.map_map]
        rfl
      have hm : ∀ w ∈ splB 10 t, bl w ∈ splL 10 (bl t) := fun w hw => by rw [← splB_bl]; exact List.mem_map.2 ⟨w, hw, rfl⟩
      rw [ho, e]
      refine ⟨fun w hw hn => impl_line (hm w hw) hn, impl_no, fun hv => impl_yes fun v hv2 => ?_, fun hl => impl_many (by rw [← splB_len2]; exact hl), ?_, fun w hw => Nat.le_trans (splB_mem hw) hsz⟩
      · rw [← splB_bl] at hv2
        obtain ⟨w, hw, rfl⟩ := List.mem_map.1 hv2
        exact hv w hw
      · have := splB_le 10 t; omega
    · rw [linesV_no h0 h2] at h; cases h
theorem linesOf_ok (s : ByteArray) (hs : s.size ≤ 1048576) : FnEq Tryz.prog 51 [.d (.str s)] [.row 9 1 (((linesV s).getD []).map datS), .d (.bool (linesV s).isSome)] := by
  refine fn_ok G_ok Tryz.func51 rfl rfl ?_; simp only [Tryz.ntmps51, List.length_cons, List.length_nil, Nat.reduceAdd, Nat.reduceSub, enm]
  by_cases h0 : s.size = 0
  · obtain rfl := size_nil h0
    rw [linesV_nil rfl]
    repeat' (first | ((with_reducible first | (refine hK _ ?_; clear hK K) | refine stq fun K' hK' => ?_ | refine stc ?_); try simp only [go_sem]) | (with_reducible first | refine stp ?_ | (refine hK' _ ?_; clear hK' K') | refine kN kl51 fun K hK => ?_ | refine kO fun K hK => ?_) | (with_reducible refine pK_mk ?_ ?_ <;> (intro hc; (try simp only [go_sem]); (try simp at hc); try (exfalso; omega))) | with_reducible refine And.intro (by first | omega | (unfold inI; omega)) ?_)
    all_goals (refine retQ_ret rfl (by simp only [retL, ret1, hget, lk, List.length_map, List.length_nil, List.length_append, List.length_take, if_true, if_false, Nat.reduceEqDiff, Nat.reduceBEq, Bool.false_eq_true, Option.some.injEq]; rfl) (by simp [rowsOf, lk]) ?_; rfl)
  · have hne : (s = ⟨#[]⟩) = False := eq_false fun h => h0 (by rw [h]; rfl)
    obtain ⟨b, hb⟩ : ∃ b, s[s.size - 1]? = some b := ⟨_, getElem?_pos s _ (by omega)⟩
    have hsub : ((s.size : Int) - 1).toNat = s.size - 1 := by omega
    by_cases h10 : b = 10
    · subst h10
      rw [linesV_yes h0 hb]
      have hsp := split_ok 10 (s.extract 0 (s.size - 1)) (by rw [ByteArray.size_extract]; omega)
      repeat' (first | ((with_reducible first | (refine hK _ ?_; clear hK K) | refine stq fun K' hK' => ?_ | refine stc ?_); try simp only [go_sem, hne, hsub, hb]) | (with_reducible first | refine stp ?_ | (refine hK' _ ?_; clear hK' K') | refine kN kl51 fun K hK => ?_ | refine kO fun K hK => ?_) | ((with_reducible apply CallK.eq); (· with_reducible first | exact hsp); (· simp [RV.flat, D.sc, datI]); try simp only [go_sem, hne, hsub, hb]) | (with_reducible refine pK_mk ?_ ?_ <;> (intro hc; (try simp only [go_sem, hne, hsub, hb]); (try simp at hc); try (exfalso; omega))) | with_reducible refine And.intro (by first | omega | (unfold inI; omega)) ?_)
      all_goals first
        | omega
        | (refine retQ_ret rfl (by simp only [retL, ret1, hget, lk, List.length_map, List.length_nil, List.length_append, List.length_take, if_true, if_false, Nat.reduceEqDiff, Nat.reduceBEq, Bool.false_eq_true, Option.some.injEq]; rfl) (by simp [rowsOf, lk]) ?_; rfl)
        | skip
    · rw [linesV_no h0 (by rw [hb]; simpa using h10)]
      have h10n : b.toNat ≠ 10 := fun h => h10 (UInt8.toNat_inj.1 h)
      have h10' : ((b.toNat : Int) = 10) = False := eq_false (by omega)
      repeat' (first | ((with_reducible first | (refine hK _ ?_; clear hK K) | refine stq fun K' hK' => ?_ | refine stc ?_); try simp only [go_sem, hne, hsub, hb, h10']) | (with_reducible first | refine stp ?_ | (refine hK' _ ?_; clear hK' K') | refine kN kl51 fun K hK => ?_ | refine kO fun K hK => ?_) | (with_reducible refine pK_mk ?_ ?_ <;> (intro hc; (try simp only [go_sem, hne, hsub, hb, h10']); (try simp at hc); try (exfalso; omega))) | with_reducible refine And.intro (by first | omega | (unfold inI; omega)) ?_)
      all_goals first
        | omega
        | (refine retQ_ret rfl (by simp only [retL, ret1, hget, lk, List.length_map, List.length_nil, List.length_append, List.length_take, if_true, if_false, Nat.reduceEqDiff, Nat.reduceBEq, Bool.false_eq_true, Option.some.injEq]; rfl) (by simp [rowsOf, lk]) ?_; rfl)
        | skip
theorem AreNotes_in (l : List NoteD) (h : l.length ≤ 1048576) : FnEq Tryz.prog 9 [.d (.lst 3 (l.map NoteD.dat))] [.d (.bool (bP (NotesOk l)))] := impl_AreNotes_ok l h
theorem impl_ParseNotes_ok (s : ByteArray) (hs : s.size ≤ 1048576) : FnEq Tryz.prog 10 [.d (.str s)] [.row 64 3 (((ansP (bl s)).getD []).map NoteD.dat), .d (.bool (ansP (bl s)).isSome)] := by
  refine fn_ok G_ok Tryz.func10 rfl rfl ?_; simp only [Tryz.ntmps10, List.length_cons, List.length_nil, Nat.reduceAdd, Nat.reduceSub, enm]
  have hlo := linesOf_ok s hs
  cases hlv : linesV s with
  | none =>
    rw [linesV_none hlv]
    rw [hlv] at hlo
    simp only [Option.getD_none, Option.isSome_none] at hlo
    repeat' (first | ((with_reducible first | (refine hK _ ?_; clear hK K) | refine stq fun K' hK' => ?_ | refine stc ?_); try simp only [go_sem]) | (with_reducible first | refine stp ?_ | (refine hK' _ ?_; clear hK' K') | refine kN kl10 fun K hK => ?_ | refine kO fun K hK => ?_) | (refine xS rfl fun K' hK' => ?_; simp only [go_sem]) | (refine qS rfl fun K' hK' => ?_; simp only [go_sem]) | ((with_reducible first | apply CallK.eq | apply CallQ.eqs); (· with_reducible first | exact hlo); (· first | exact rfl | (simp [RV.flat, D.sc, datI]; done)); try simp only [go_sem]) | refine iB ?_ | (with_reducible refine pw_seq_tailK kl10 G_ok 1 11 mixed (by kernel_rfl) (fun K hK => ?_); simp only [List.take_succ_cons, List.take_zero, List.drop_succ_cons, List.drop_zero]) | (with_reducible refine pK_mk ?_ ?_ <;> (intro hc; (try simp only [go_sem]); (try simp at hc); try (exfalso; omega))) | with_reducible refine And.intro (by first | omega | (unfold inI; omega)) ?_)
    all_goals (refine retQ_ret rfl (by simp only [retL, ret1, hget, lk, List.length_map, List.length_nil, List.length_append, List.length_take, if_true, if_false, Nat.reduceEqDiff, Nat.reduceBEq, Bool.false_eq_true, Option.some.injEq]; rfl) (by simp [rowsOf, lk]) ?_; rfl)
  | some lines =>
    obtain ⟨hA, hB, hC, hD, hll, hsz⟩ := linesV_some hlv
    rw [hlv] at hlo
    simp only [Option.getD_some, Option.isSome_some] at hlo
    generalize ansP (bl s) = A at *
    by_cases h40 : lines.length ≤ 40
    · have h40' : (40 < (lines.length : Int)) = False := eq_false (by omega)
      repeat' (first | ((with_reducible first | (refine hK _ ?_; clear hK K) | refine stq fun K' hK' => ?_ | refine stc ?_); try simp only [go_sem, h40']) | (with_reducible first | refine stp ?_ | (refine hK' _ ?_; clear hK' K') | refine kN kl10 fun K hK => ?_ | refine kO fun K hK => ?_) | (refine xS rfl fun K' hK' => ?_; simp only [go_sem, h40']) | (refine qS rfl fun K' hK' => ?_; simp only [go_sem, h40']) | ((with_reducible first | apply CallK.eq | apply CallQ.eqs); (· with_reducible first | exact hlo); (· first | exact rfl | (simp [RV.flat, D.sc, datI]; done)); try simp only [go_sem, h40']) | refine iB ?_ | (with_reducible refine pw_seq_tailK kl10 G_ok 1 11 mixed (by kernel_rfl) (fun K hK => ?_); simp only [List.take_succ_cons, List.take_zero, List.drop_succ_cons, List.drop_zero]) | (with_reducible refine pK_mk ?_ ?_ <;> (intro hc; (try simp only [go_sem, h40']); (try simp at hc); try (exfalso; omega))) | with_reducible refine And.intro (by first | omega | (unfold inI; omega)) ?_)
      refine pw_loop_over [2, 3, 6, 8, 9, 10, 26, 27, 28, 29, 30, 31, 32, 33, 34, 35, 36, 37, 38, 39, 40, 41, 42, 43, 44, 45, 46, 47, 48, 49, 50, 51, 52, 53, 54, 55, 56] (fun k : Nat => [(26, .d (.int .i64 (k : Int))), (4, .row 0 lines.length), (24, .row 0 lines.length), (6, .row 1 (outN lines k).length)]) (fun k : Nat => [(0, .row 9 1 (lines.map datS)), (1, .row 64 3 ((outN lines k).map NoteD.dat))]) 2 (fun k : Nat => k ≤ lines.length ∧ ∀ w ∈ lines.take k, (lineV (bl w)).isSome = true) (fun k : Nat => lines.length - k) 0 ⟨Nat.zero_le _, by simp⟩ (fits_mk [] (by simp [renL_d, bdL_d, sg, over, wipe, wl, memN, ins, rm, lk, fitFr, fit1, ren, renL, bd, bdL, app, fitHp, hget, renB, bdB, outN_zero] <;> omega)) ?_
      rintro k ⟨hk, hJ⟩
      have hL := outN_len lines k
      simp only [over, wipe, wl, memN, ins, rm, if_true, if_false, Nat.reduceEqDiff, Bool.false_eq_true, reduceCtorEq]
      by_cases hlt : k < lines.length
      · have hx := List.getElem?_eq_getElem hlt
        generalize lines[k] = x at hx
        have hxs := hsz x (List.mem_of_getElem? hx)
        have hsp := split_ok 32 x (by omega)
        have hwl := splB_le 32 x
        have hin := integersIn_ok (splB 32 x) (by omega)
        have hlx : lineV (bl x) = match intsV ((splB 32 x).map bl) with
          | some [a, b, c] => some ⟨a, b, c⟩
          | _ => none := by rw [splB_bl]; rfl
        generalize splB 32 x = ws at *
        cases hv : intsV (ws.map bl) with
        | none =>
          rw [hv] at hin hlx
          rw [hA x (List.mem_of_getElem? hx) hlx]
          simp only [Option.getD_none, Option.isSome_none] at hin
          repeat' (first | ((with_reducible first | (refine hK _ ?_; clear hK K) | refine stq fun K' hK' => ?_ | refine stc ?_); try simp only [go_sem, hlt, List.getElem?_map, hx, Option.map_some, datS]) | (with_reducible first | refine stp ?_ | (refine hK' _ ?_; clear hK' K') | refine kN kl10 fun K hK => ?_ | refine kO fun K hK => ?_) | (refine xS rfl fun K' hK' => ?_; simp only [go_sem, hlt, List.getElem?_map, hx, Option.map_some, datS]) | (refine qS rfl fun K' hK' => ?_; simp only [go_sem, hlt, List.getElem?_map, hx, Option.map_some, datS]) | ((with_reducible first | apply CallK.eq | apply CallQ.eqs); (· with_reducible first | exact hsp | exact hin); (· first | exact rfl | (simp [RV.flat, D.sc, datI]; done)); try simp only [go_sem, hlt, List.getElem?_map, hx, Option.map_some, datS]) | refine iB ?_ | (with_reducible refine pw_seq_tailK kl10 G_ok 1 11 mixed (by kernel_rfl) (fun K hK => ?_); simp only [List.take_succ_cons, List.take_zero, List.drop_succ_cons, List.drop_zero]) | (with_reducible refine pK_mk ?_ ?_ <;> (intro hc; (try simp only [go_sem, hlt, List.getElem?_map, hx, Option.map_some, datS]); (try simp at hc); try (exfalso; omega))) | with_reducible refine And.intro (by first | omega | (unfold inI; omega)) ?_)
          all_goals first
            | (refine retQ_ret rfl (by simp only [retL, ret1, hget, lk, List.length_map, List.length_nil, List.length_append, List.length_take, if_true, if_false, Nat.reduceEqDiff, Nat.reduceBEq, Bool.false_eq_true, Option.some.injEq]; rfl) (by simp [rowsOf, lk]) ?_; rfl)
            | skip
        | some L =>
          rw [hv] at hin hlx
          simp only [Option.getD_some, Option.isSome_some] at hin
          by_cases h3 : L.length = 3
          · obtain ⟨a, b, c, rfl⟩ : ∃ a b c, L = [a, b, c] := by
              match L, h3 with
              | [a, b, c], _ => exact ⟨a, b, c, rfl⟩
            have e := outN_succ hx hlx
            have hdat : (outN lines k).map NoteD.dat ++ [[.int .i64 a, .int .i64 b, .int .i64 c]] = (outN lines (k + 1)).map NoteD.dat := by rw [e, List.map_append]; rfl
            have hJ2 : ∀ w ∈ lines.take (k + 1), (lineV (bl w)).isSome = true := fun w hw => by
              rw [take_snoc hx] at hw
              rcases List.mem_append.1 hw with hw | hw
              · exact hJ w hw
              · rw [List.mem_singleton] at hw; subst hw; rw [hlx]; rfl
            have hdl : ([a, b, c].map datI) = [[.int .i64 a], [.int .i64 b], [.int .i64 c]] := rfl
            rw [hdl] at hin
            repeat' (first | with_reducible refine stop_seq (id := 11) ?_ | with_reducible refine stop_one (id := 11) ?_ | ((with_reducible first | (refine hK _ ?_; clear hK K) | refine stq fun K' hK' => ?_ | refine stc ?_); try simp only [go_sem, hlt, List.getElem?_map, hx, Option.map_some, datS, List.length_cons, List.length_nil]) | (with_reducible first | refine stp ?_ | (refine hK' _ ?_; clear hK' K') | refine kN kl10 fun K hK => ?_ | refine kO fun K hK => ?_) | (refine xS rfl fun K' hK' => ?_; simp only [go_sem, hlt, List.getElem?_map, hx, Option.map_some, datS, List.length_cons, List.length_nil]) | (refine qS rfl fun K' hK' => ?_; simp only [go_sem, hlt, List.getElem?_map, hx, Option.map_some, datS, List.length_cons, List.length_nil]) | ((with_reducible first | apply CallK.eq | apply CallQ.eqs); (· with_reducible first | exact hsp | exact hin); (· first | exact rfl | (simp [RV.flat, D.sc, datI]; done)); try simp only [go_sem, hlt, List.getElem?_map, hx, Option.map_some, datS, List.length_cons, List.length_nil]) | refine iB ?_ | (with_reducible refine pw_seq_tailK kl10 G_ok 1 11 mixed (by kernel_rfl) (fun K hK => ?_); simp only [List.take_succ_cons, List.take_zero, List.drop_succ_cons, List.drop_zero]) | (with_reducible refine pK_mk ?_ ?_ <;> (intro hc; (try simp only [go_sem, hlt, List.getElem?_map, hx, Option.map_some, datS, List.length_cons, List.length_nil]); (try simp at hc); try (exfalso; omega))) | with_reducible refine And.intro (by first | omega | (unfold inI; omega)) ?_)
            unfold Stop
            refine pw_anyN mixed ?_
            refine anyN_take 0 rfl rfl rfl (by decide +kernel) (by decide +kernel) (by decide +kernel) (pure_move (.inl rfl)) ?_
            try simp only [go_sem, Nat.zero_add, Int.toNat_natCast, Nat.mul_one, List.length_cons, List.length_nil]
            refine anyN_take 1 rfl rfl rfl (by decide +kernel) (by decide +kernel) (by decide +kernel) (pure_move (.inl rfl)) ?_
            try simp only [go_sem, Nat.zero_add, Int.toNat_natCast, Nat.mul_one, List.length_cons, List.length_nil]
            refine anyN_take 2 rfl rfl rfl (by decide +kernel) (by decide +kernel) (by decide +kernel) (pure_ix (y := .rptr 3 1 0 0) rfl (G_ok _ _ G31) rfl (by omega) (by simp [idxP, AS.get, lk])) ?_
            try simp only [go_sem, Nat.zero_add, Int.toNat_natCast, Nat.mul_one, List.length_cons, List.length_nil]
            refine anyN_take 4 rfl rfl rfl (by decide +kernel) (by decide +kernel) (by decide +kernel) (pure_move (.inl rfl)) ?_
            try simp only [go_sem, Nat.zero_add, Int.toNat_natCast, Nat.mul_one, List.length_cons, List.length_nil]
            refine anyN_take 5 rfl rfl rfl (by decide +kernel) (by decide +kernel) (by decide +kernel) (pure_ix (y := .rptr 3 1 1 0) rfl (G_ok _ _ G31) rfl (by omega) (by simp [idxP, AS.get, lk])) ?_
            try simp only [go_sem, Nat.zero_add, Int.toNat_natCast, Nat.mul_one, List.length_cons, List.length_nil]
            refine anyN_take 7 rfl rfl rfl (by decide +kernel) (by decide +kernel) (by decide +kernel) (pure_move (.inl rfl)) ?_
            try simp only [go_sem, Nat.zero_add, Int.toNat_natCast, Nat.mul_one, List.length_cons, List.length_nil]
            refine anyN_take 8 rfl rfl rfl (by decide +kernel) (by decide +kernel) (by decide +kernel) (pure_ix (y := .rptr 3 1 2 0) rfl (G_ok _ _ G31) rfl (by omega) (by simp [idxP, AS.get, lk])) ?_
            try simp only [go_sem, Nat.zero_add, Int.toNat_natCast, Nat.mul_one, List.length_cons, List.length_nil]
            repeat' (first
              | (with_reducible refine hK' _ ?_; clear hK' K'; try simp only [go_sem, Nat.zero_add, Int.toNat_natCast, Nat.mul_one, List.length_cons, List.length_nil])
              | with_reducible refine And.intro (by first | omega | (unfold inI; omega)) ?_
              | (refine anyN_take 13 rfl rfl rfl (by decide +kernel) (by decide +kernel) (by decide +kernel) (pure_move (.inr rfl)) ?_; try simp only [go_sem, Nat.zero_add, Int.toNat_natCast, Nat.mul_one, List.length_cons, List.length_nil])
              | (refine anyN_step G_ok [3, 6, 9] (by decide +kernel) rfl ⟨⟨_, rfl, fun K' hK' => ?_⟩, ⟨_, rfl, fun K' hK' => ?_⟩, ⟨_, rfl, fun K' hK' => ?_⟩, trivial⟩ <;> ((first | with_reducible refine s_none rfl ?_ | refine s_some2 rfl ?_); simp only [go_sem, Nat.zero_add, Int.toNat_natCast, Nat.mul_one, List.length_cons, List.length_nil]))
              | (refine anyN_step G_ok [6, 9] (by decide +kernel) rfl ⟨⟨_, rfl, fun K' hK' => ?_⟩, ⟨_, rfl, fun K' hK' => ?_⟩, trivial⟩ <;> ((first | with_reducible refine s_none rfl ?_ | refine s_some2 rfl ?_); simp only [go_sem, Nat.zero_add, Int.toNat_natCast, Nat.mul_one, List.length_cons, List.length_nil]))
              | (refine anyN_step G_ok [9] (by decide +kernel) rfl ⟨⟨_, rfl, fun K' hK' => ?_⟩, trivial⟩ <;> ((first | with_reducible refine s_none rfl ?_ | refine s_some2 rfl ?_); simp only [go_sem, Nat.zero_add, Int.toNat_natCast, Nat.mul_one, List.length_cons, List.length_nil]))
              | (refine anyN_step G_ok [10] (by decide +kernel) rfl ⟨⟨_, rfl, fun K' hK' => ?_⟩, trivial⟩ <;> ((first | with_reducible refine s_none rfl ?_ | refine s_some2 rfl ?_); simp only [go_sem, Nat.zero_add, Int.toNat_natCast, Nat.mul_one, List.length_cons, List.length_nil]))
              | (refine anyN_step G_ok [11] (by decide +kernel) rfl ⟨⟨_, rfl, fun K' hK' => ?_⟩, trivial⟩ <;> ((first | with_reducible refine s_none rfl ?_ | refine s_some2 rfl ?_); simp only [go_sem, Nat.zero_add, Int.toNat_natCast, Nat.mul_one, List.length_cons, List.length_nil]))
              | (refine anyN_step G_ok [12] (by decide +kernel) rfl ⟨⟨_, rfl, fun K' hK' => ?_⟩, trivial⟩ <;> ((first | with_reducible refine s_none rfl ?_ | refine s_some2 rfl ?_); simp only [go_sem, Nat.zero_add, Int.toNat_natCast, Nat.mul_one, List.length_cons, List.length_nil]))
              | (refine anyN_step G_ok [6] (by decide +kernel) rfl ⟨⟨_, rfl, fun K' hK' => ?_⟩, trivial⟩ <;> ((first | with_reducible refine s_none rfl ?_ | refine s_some2 rfl ?_); simp only [go_sem, Nat.zero_add, Int.toNat_natCast, Nat.mul_one, List.length_cons, List.length_nil]))
              | (refine anyN_step G_ok [3, 9] (by decide +kernel) rfl ⟨⟨_, rfl, fun K' hK' => ?_⟩, ⟨_, rfl, fun K' hK' => ?_⟩, trivial⟩ <;> ((first | with_reducible refine s_none rfl ?_ | refine s_some2 rfl ?_); simp only [go_sem, Nat.zero_add, Int.toNat_natCast, Nat.mul_one, List.length_cons, List.length_nil]))
              | (refine anyN_step G_ok [3] (by decide +kernel) rfl ⟨⟨_, rfl, fun K' hK' => ?_⟩, trivial⟩ <;> ((first | with_reducible refine s_none rfl ?_ | refine s_some2 rfl ?_); simp only [go_sem, Nat.zero_add, Int.toNat_natCast, Nat.mul_one, List.length_cons, List.length_nil]))
              | (refine anyN_step G_ok [3, 6] (by decide +kernel) rfl ⟨⟨_, rfl, fun K' hK' => ?_⟩, ⟨_, rfl, fun K' hK' => ?_⟩, trivial⟩ <;> ((first | with_reducible refine s_none rfl ?_ | refine s_some2 rfl ?_); simp only [go_sem, Nat.zero_add, Int.toNat_natCast, Nat.mul_one, List.length_cons, List.length_nil]))
              | (refine anyN_done (by decide +kernel) ?_; try simp only [go_sem, Nat.zero_add, Int.toNat_natCast, Nat.mul_one, List.length_cons, List.length_nil])
              | with_reducible refine thenA_normal ?_ | with_reducible refine inBlockA_same ?_ | with_reducible refine inBlockA_normal ?_)
            all_goals
              repeat' (first | ((with_reducible first | (refine hK _ ?_; clear hK K) | refine stq fun K' hK' => ?_ | refine stc ?_); try simp only [go_sem]) | (with_reducible first | refine stp ?_ | (refine hK' _ ?_; clear hK' K') | refine kN kl10 fun K hK => ?_ | refine kO fun K hK => ?_) | (refine xS rfl fun K' hK' => ?_; simp only [go_sem]) | (refine qS rfl fun K' hK' => ?_; simp only [go_sem]) | refine iB ?_ | (with_reducible refine pw_seq_tailK kl10 G_ok 1 11 mixed (by kernel_rfl) (fun K hK => ?_); simp only [List.take_succ_cons, List.take_zero, List.drop_succ_cons, List.drop_zero]) | (with_reducible refine pK_mk ?_ ?_ <;> (intro hc; (try simp only [go_sem]); (try simp at hc); try (exfalso; omega))) | with_reducible refine And.intro (by first | omega | (unfold inI; omega)) ?_)
              exact ⟨k + 1, ⟨by omega, hJ2⟩, by omega, (fits_mk [] (by simp [renL_d, bdL_d, sg, over, wipe, wl, memN, ins, rm, lk, fitFr, fit1, ren, renL, bd, bdL, app, fitHp, hget, renB, bdB, e, NoteD.dat] <;> omega))⟩
          · have h3' : ((L.length : Int) = 3) = False := eq_false (by omega)
            have hn : lineV (bl x) = none := by
              rw [hlx]
              match L, h3 with
              | [], _ => rfl
              | [_], _ => rfl
              | [_, _], _ => rfl
              | _ :: _ :: _ :: _ :: _, _ => rfl
              | [_, _, _], h => exact absurd rfl h
            rw [hA x (List.mem_of_getElem? hx) hn]
            repeat' (first | ((with_reducible first | (refine hK _ ?_; clear hK K) | refine stq fun K' hK' => ?_ | refine stc ?_); try simp only [go_sem, hlt, List.getElem?_map, hx, Option.map_some, datS, h3']) | (with_reducible first | refine stp ?_ | (refine hK' _ ?_; clear hK' K') | refine kN kl10 fun K hK => ?_ | refine kO fun K hK => ?_) | (refine xS rfl fun K' hK' => ?_; simp only [go_sem, hlt, List.getElem?_map, hx, Option.map_some, datS, h3']) | (refine qS rfl fun K' hK' => ?_; simp only [go_sem, hlt, List.getElem?_map, hx, Option.map_some, datS, h3']) | ((with_reducible first | apply CallK.eq | apply CallQ.eqs); (· with_reducible first | exact hsp | exact hin); (· first | exact rfl | (simp [RV.flat, D.sc, datI]; done)); try simp only [go_sem, hlt, List.getElem?_map, hx, Option.map_some, datS, h3']) | refine iB ?_ | (with_reducible refine pw_seq_tailK kl10 G_ok 1 11 mixed (by kernel_rfl) (fun K hK => ?_); simp only [List.take_succ_cons, List.take_zero, List.drop_succ_cons, List.drop_zero]) | (with_reducible refine pK_mk ?_ ?_ <;> (intro hc; (try simp only [go_sem, hlt, List.getElem?_map, hx, Option.map_some, datS, h3']); (try simp at hc); try (exfalso; omega))) | with_reducible refine And.intro (by first | omega | (unfold inI; omega)) ?_)
            all_goals first
              | (refine retQ_ret rfl (by simp only [retL, ret1, hget, lk, List.length_map, List.length_nil, List.length_append, List.length_take, if_true, if_false, Nat.reduceEqDiff, Nat.reduceBEq, Bool.false_eq_true, Option.some.injEq]; rfl) (by simp [rowsOf, lk]) ?_; rfl)
              | skip
      · have hkl : k = lines.length := by omega
        subst hkl
        rw [List.take_length] at hJ
        have han := AreNotes_in (outN lines lines.length) (by omega)
        by_cases hok : NotesOk (outN lines lines.length)
        · rw [hC hJ hok]
          rw [bP_true hok] at han
          repeat' (first | ((with_reducible first | (refine hK _ ?_; clear hK K) | refine stq fun K' hK' => ?_ | refine stc ?_); try simp only [go_sem]) | (with_reducible first | refine stp ?_ | (refine hK' _ ?_; clear hK' K') | refine kN kl10 fun K hK => ?_ | refine kO fun K hK => ?_) | (refine xS rfl fun K' hK' => ?_; simp only [go_sem]) | (refine qS rfl fun K' hK' => ?_; simp only [go_sem]) | ((with_reducible first | apply CallK.eq | apply CallQ.eqs); (· with_reducible first | exact han); (· first | exact rfl | (simp [RV.flat, D.sc, datI]; done)); try simp only [go_sem]) | refine iB ?_ | (with_reducible refine pw_seq_tailK kl10 G_ok 1 11 mixed (by kernel_rfl) (fun K hK => ?_); simp only [List.take_succ_cons, List.take_zero, List.drop_succ_cons, List.drop_zero]) | (with_reducible refine pK_mk ?_ ?_ <;> (intro hc; (try simp only [go_sem]); (try simp at hc); try (exfalso; omega))) | with_reducible refine And.intro (by first | omega | (unfold inI; omega)) ?_)
          all_goals first
            | (refine retQ_ret rfl (by simp only [retL, ret1, hget, lk, List.length_map, List.length_nil, List.length_append, List.length_take, if_true, if_false, Nat.reduceEqDiff, Nat.reduceBEq, Bool.false_eq_true, Option.some.injEq]; rfl) (by simp [rowsOf, lk]) ?_; rfl)
            | skip
        · rw [hB hok]
          rw [bP_false hok] at han
          repeat' (first | ((with_reducible first | (refine hK _ ?_; clear hK K) | refine stq fun K' hK' => ?_ | refine stc ?_); try simp only [go_sem]) | (with_reducible first | refine stp ?_ | (refine hK' _ ?_; clear hK' K') | refine kN kl10 fun K hK => ?_ | refine kO fun K hK => ?_) | (refine xS rfl fun K' hK' => ?_; simp only [go_sem]) | (refine qS rfl fun K' hK' => ?_; simp only [go_sem]) | ((with_reducible first | apply CallK.eq | apply CallQ.eqs); (· with_reducible first | exact han); (· first | exact rfl | (simp [RV.flat, D.sc, datI]; done)); try simp only [go_sem]) | refine iB ?_ | (with_reducible refine pw_seq_tailK kl10 G_ok 1 11 mixed (by kernel_rfl) (fun K hK => ?_); simp only [List.take_succ_cons, List.take_zero, List.drop_succ_cons, List.drop_zero]) | (with_reducible refine pK_mk ?_ ?_ <;> (intro hc; (try simp only [go_sem]); (try simp at hc); try (exfalso; omega))) | with_reducible refine And.intro (by first | omega | (unfold inI; omega)) ?_)
          all_goals first
            | (refine retQ_ret rfl (by simp only [retL, ret1, hget, lk, List.length_map, List.length_nil, List.length_append, List.length_take, if_true, if_false, Nat.reduceEqDiff, Nat.reduceBEq, Bool.false_eq_true, Option.some.injEq]; rfl) (by simp [rowsOf, lk]) ?_; rfl)
            | skip
    · have h40' : (40 < (lines.length : Int)) = True := eq_true (by omega)
      rw [hD (by omega)]
      repeat' (first | ((with_reducible first | (refine hK _ ?_; clear hK K) | refine stq fun K' hK' => ?_ | refine stc ?_); try simp only [go_sem, h40']) | (with_reducible first | refine stp ?_ | (refine hK' _ ?_; clear hK' K') | refine kN kl10 fun K hK => ?_ | refine kO fun K hK => ?_) | (refine xS rfl fun K' hK' => ?_; simp only [go_sem, h40']) | (refine qS rfl fun K' hK' => ?_; simp only [go_sem, h40']) | ((with_reducible first | apply CallK.eq | apply CallQ.eqs); (· with_reducible first | exact hlo); (· first | exact rfl | (simp [RV.flat, D.sc, datI]; done)); try simp only [go_sem, h40']) | refine iB ?_ | (with_reducible refine pw_seq_tailK kl10 G_ok 1 11 mixed (by kernel_rfl) (fun K hK => ?_); simp only [List.take_succ_cons, List.take_zero, List.drop_succ_cons, List.drop_zero]) | (with_reducible refine pK_mk ?_ ?_ <;> (intro hc; (try simp only [go_sem, h40']); (try simp at hc); try (exfalso; omega))) | with_reducible refine And.intro (by first | omega | (unfold inI; omega)) ?_)
      all_goals (refine retQ_ret rfl (by simp only [retL, ret1, hget, lk, List.length_map, List.length_nil, List.length_append, List.length_take, if_true, if_false, Nat.reduceEqDiff, Nat.reduceBEq, Bool.false_eq_true, Option.some.injEq]; rfl) (by simp [rowsOf, lk]) ?_; rfl)
end Go.Proofs.YthocihmhljmgdaaGreatDoor

/-
  Lists of numbers: what the laws' helpers give (szIntS, eqIntS, toIntS, markIntS, heldIntS), in the abstract machine; lists of numbers opened as arguments.
-/
namespace Go.Proofs.YthocihmhljmgdaaGreatDoor
open Go.ChangeShapes Go.WideShapes Go.ChangeAt Go.RowKit Go.Deep

theorem sc_datI {xs : List Int} {e : List D} (he : e ∈ xs.map datI) {d : D} (hd : d ∈ e) : d.sc := by
  obtain ⟨x, _, rfl⟩ := List.mem_map.1 he
  rw [show datI x = [.int .i64 x] from rfl, List.mem_singleton] at hd
  subst hd
  simp [D.sc]
theorem flatE_datI (xs : List Int) : flatE (xs.map datI) := fun _ he _ hd => sc_datI he hd
section
variable {H : Type} {enc : TypeId × Value → H} {w : World} {base : Nat} {spare : Nat → Bool} {held : Bool}
end
end Go.Proofs.YthocihmhljmgdaaGreatDoor

/-
  The lines at which two texts differ: the reference's functions, in the abstract machine.
-/
set_option linter.unusedSimpArgs false
set_option linter.unusedVariables false
set_option maxHeartbeats 2000000
set_option maxRecDepth 100000
namespace Go.Proofs.YthocihmhljmgdaaGreatDoor
open Go.RowKit

theorem l1Split_ok (c : UInt8) (s : ByteArray) (hs : s.size ≤ 1048576) : FnEq Tryz.prog 68 [.d (.str s), .d (.int .u8 c.toNat)] [.row 9 1 ((splB c s).map datS)] := by
  refine fn_ok G_ok Tryz.func68 rfl rfl ?_; simp only [Tryz.ntmps68, List.length_cons, List.length_nil, Nat.reduceAdd, Nat.reduceSub, enm]
  repeat' (first | ((with_reducible first | (refine hK _ ?_; clear hK K) | refine stq fun K' hK' => ?_ | refine stc ?_); try simp only [go_sem]) | (with_reducible first | refine stp ?_ | (refine hK' _ ?_; clear hK' K') | refine kN kl68 fun K hK => ?_ | refine kO fun K hK => ?_) | refine iB ?_ | (with_reducible refine pK_mk ?_ ?_ <;> (intro hc; (try simp only [go_sem]); (try simp at hc); try (exfalso; omega))) | with_reducible refine And.intro (by first | omega | (unfold inI; omega)) ?_)
  refine pw_loop_over [4, 5, 6, 7, 8, 9, 10, 11, 12, 13, 14, 15, 16, 17, 18, 19, 20, 21, 22, 23, 24, 25, 26, 27] (fun k : Nat => [(7, .d (.int .i64 (k : Int))), (6, .d (.int .i64 (spF c s k : Int))), (5, .row 0 (spO c s k).length)]) (fun k : Nat => [(0, .row 9 1 ((spO c s k).map datS))]) 1 (fun k : Nat => k ≤ s.size) (fun k : Nat => s.size - k) 0 (Nat.zero_le _) (fits_mk [] (by simp [renL_d, bdL_d, sg, over, wipe, wl, memN, ins, rm, lk, fitFr, fit1, ren, renL, bd, bdL, app, fitHp, hget, renB, bdB, spF_zero, spO_zero] <;> omega)) ?_
  intro k hk
  have hL := spO_len c s k
  have hF := spF_le c s k
  simp only [over, wipe, wl, memN, ins, rm, if_true, if_false, Nat.reduceEqDiff, Bool.false_eq_true, reduceCtorEq]
  by_cases hlt : k < s.size
  · have hx : s[k]? = some s[k] := getElem?_pos s k hlt
    generalize s[k] = x at hx
    by_cases he : x = c
    · subst he
      obtain ⟨e1, e2⟩ := sp_yes hx
      repeat' (first | ((with_reducible first | (refine hK _ ?_; clear hK K) | refine stq fun K' hK' => ?_ | refine stc ?_); try simp only [go_sem, hx]) | (with_reducible first | refine stp ?_ | (refine hK' _ ?_; clear hK' K') | refine kN kl68 fun K hK => ?_ | refine kO fun K hK => ?_) | refine iB ?_ | (with_reducible refine pK_mk ?_ ?_ <;> (intro hc; (try simp only [go_sem, hx]); (try simp at hc); try (exfalso; omega))) | with_reducible refine And.intro (by first | omega | (unfold inI; omega)) ?_)
      all_goals exact ⟨k + 1, by omega, by omega, (fits_mk [] (by simp [renL_d, bdL_d, sg, over, wipe, wl, memN, ins, rm, lk, fitFr, fit1, ren, renL, bd, bdL, app, fitHp, hget, renB, bdB, e1, e2, datS] <;> omega))⟩
    · obtain ⟨e1, e2⟩ := sp_no (c := c) (s := s) (k := k) (by rw [hx]; simpa using he)
      repeat' (first | ((with_reducible first | (refine hK _ ?_; clear hK K) | refine stq fun K' hK' => ?_ | refine stc ?_); try simp only [go_sem, hx]) | (with_reducible first | refine stp ?_ | (refine hK' _ ?_; clear hK' K') | refine kN kl68 fun K hK => ?_ | refine kO fun K hK => ?_) | refine iB ?_ | (with_reducible refine pK_mk ?_ ?_ <;> (intro hc; (try simp only [go_sem, hx]); (try simp at hc); try (exfalso; omega))) | with_reducible refine And.intro (by first | omega | (unfold inI; omega)) ?_)
      all_goals first
        | (exfalso; apply he; apply UInt8.toNat_inj.1; omega)
        | exact ⟨k + 1, by omega, by omega, (fits_mk [] (by simp [renL_d, bdL_d, sg, over, wipe, wl, memN, ins, rm, lk, fitFr, fit1, ren, renL, bd, bdL, app, fitHp, hget, renB, bdB, e1, e2] <;> omega))⟩
  · obtain rfl : k = s.size := by omega
    have e := sp_end c s
    have e2 : (spO c s s.size).map datS ++ [[.str (s.extract (spF c s s.size) s.size)]] = (splB c s).map datS := by rw [← e]; simp [datS]
    have e3 : (spO c s s.size).length + 1 = (splB c s).length := by rw [← e]; simp
    repeat' (first | ((with_reducible first | (refine hK _ ?_; clear hK K) | refine stq fun K' hK' => ?_ | refine stc ?_); try simp only [go_sem, e2, e3]) | (with_reducible first | refine stp ?_ | (refine hK' _ ?_; clear hK' K') | refine kN kl68 fun K hK => ?_ | refine kO fun K hK => ?_) | refine iB ?_ | (with_reducible refine pK_mk ?_ ?_ <;> (intro hc; (try simp only [go_sem, e2, e3]); (try simp at hc); try (exfalso; omega))) | with_reducible refine And.intro (by first | omega | (unfold inI; omega)) ?_)
    refine retQ_ret rfl (by simp only [retL, ret1, hget, lk, List.length_map, List.length_nil, List.length_append, List.length_take, if_true, if_false, Nat.reduceEqDiff, Nat.reduceBEq, Bool.false_eq_true, Option.some.injEq]; rfl) (by simp [rowsOf, lk]) ?_; rfl
theorem l1Split_ok10 (s : ByteArray) (hs : s.size ≤ 1048576) : FnEq Tryz.prog 68 [.d (.str s), .d (.int .u8 10)] [.row 9 1 ((splB 10 s).map datS)] := l1Split_ok 10 s hs
theorem l1Split_ok32 (s : ByteArray) (hs : s.size ≤ 1048576) : FnEq Tryz.prog 68 [.d (.str s), .d (.int .u8 32)] [.row 9 1 ((splB 32 s).map datS)] := l1Split_ok 32 s hs
end Go.Proofs.YthocihmhljmgdaaGreatDoor

/-
  The abstract machine: bytes made a string. No program is named here.
-/
set_option linter.unusedSimpArgs false
set_option linter.unusedVariables false
set_option maxHeartbeats 2000000
set_option maxRecDepth 100000
namespace Go.Proofs.YthocihmhljmgdaaGreatDoor
open Go.RowKit

theorem SrcOK.bytes {w : World} {X : Nat → Prop} {xs : List Int} {v : Value} (h : SrcOK w X 1 (xs.map fun n : Int => [D.int .u8 n]) v) : (∃ A c, xs = [] ∧ v = .slice A 0 c) ∨ ∃ b off c, v = .slice (some ⟨b, off, none⟩) xs.length c ∧ ∀ i, i < xs.length → w.cell? ⟨b, off + i, none⟩ = some (.int .u8 (xs.getD i 0)) := by
  obtain ⟨_, ⟨h1, A, c, h2⟩ | ⟨b, off, c, h1, _, h2⟩⟩ := h
  · exact .inl ⟨A, c, by simpa using h1, h2⟩
  · refine .inr ⟨b, off, c, by rw [h1, List.length_map], fun i hi => ?_⟩
    have hx := List.getElem?_eq_getElem hi
    obtain ⟨u, h3, h4⟩ := h2 i [.int .u8 xs[i]] 0 (.int .u8 xs[i]) (by rw [List.getElem?_map, hx]; rfl) rfl
    cases h4
    rw [List.getD_eq_getElem?_getD, hx]
    simpa using h3
section
variable {P : Program} {o : Oper} {s : AS} {KP : PV → Prop}
theorem pq_toStr {src dst e : TypeId} {x : Operand} {bytes : Nat} {z : List D} {xs : List Int} (ho : o.op = .convert src dst x) (hs : tiB P src (.slc e 1 bytes z) = true) (he : P.underlying e = some (.int .u8)) (hd : tiB P dst .str = true) (hx : srcL s.hp (s.get x) = some (1, xs.map fun n : Int => [D.int .u8 n])) (hK : KP (.d (.str (strOfNums xs)))) : PQ P o s KP := by
  refine ⟨_, fun X0 w0 m a wb hsim => ?_, hK⟩
  have hu := (tiB_slc hs).1
  have hud := (tiB_str hd).1
  refine ⟨.string (strOfNums xs), fun w' hb => ?_, fun w' hb => .d _ _ (.str _)⟩
  have hrun : (execOp a.eval o).run P w' = .ok (.value (.string (strOfNums xs))) w' := by
    rcases (hsim.src hx (hsim.get x)).bytes with ⟨A, c, h1, h2⟩ | ⟨b, off, c, h1, h2⟩
    · subst h1
      cases A with
      | none => simp [execOp, ho, h2, run_convert_bytes_nil w' src e hu he 0 c dst hud]; rfl
      | some A0 =>
        have hl : (loadCells A0 0).run P w' = .ok (([] : List Int).map (Value.int .u8)).toArray w' := by simpa using run_loadCells_list (P := P) w' A0 [] (fun j v hj => by simp at hj)
        simp [execOp, ho, h2, run_convert_bytes_string w' src dst e _ 0 c hu he hud, run_bytesToString w' A0 0 c [] hl]; rfl
    · simp [execOp, ho, h1, run_convert_bytes_arg w' src e hu he b off xs.length c xs rfl (fun i hi => (hb.cell (p := ⟨b, off + i, none⟩) (cell_lt' (h2 i hi))).trans (h2 i hi)) dst hud]
  unfold Oper.quietAt
  rw [hrun]
  exact ⟨rfl, rfl⟩
end
section
variable {P : Program} {o : Oper} {s : AS} {KP : PV → Prop}
end
end Go.Proofs.YthocihmhljmgdaaGreatDoor
