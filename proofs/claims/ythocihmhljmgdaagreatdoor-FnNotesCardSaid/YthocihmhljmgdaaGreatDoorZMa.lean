/-
  What the law on notes asks of its functions, their answers as plain data.
-/
import Derived.Test.YthocihmhljmgdaaGreatDoorZNh
import Derived.Test.YthocihmhljmgdaaGreatDoorZNv
import Derived.Test.YthocihmhljmgdaaGreatDoorZRx3
import Derived.Test.YthocihmhljmgdaaGreatDoorZNoteW
import Derived.Test.YthocihmhljmgdaaGreatDoorZMf
import Derived.Test.YthocihmhljmgdaaGreatDoorZMc
import Derived.Test.YthocihmhljmgdaaGreatDoorZMst
import Derived.Test.YthocihmhljmgdaaGreatDoorZM9
namespace Go.Proofs.YthocihmhljmgdaaGreatDoor
open Go.RowKit

theorem optP_cases {α : Type} (V : Prop) (x : α) : (V ∧ optP V x = some x) ∨ (¬ V ∧ optP V x = none) := by
  by_cases h : V
  · exact .inl ⟨h, optP_pos h⟩
  · exact .inr ⟨h, optP_neg h⟩
theorem undo_dat (l : List NoteD) (n : Int) (hl : l.length ≤ 41) : ∃ (U : List NoteD) (b : Bool), FnEq Tryz.prog 16 [.d (.lst 3 (l.map NoteD.dat)), .d (.int .i64 n)] [.d (.lst 3 (U.map NoteD.dat)), .d (.bool b)] ∧ FnEq Tryz.prog 17 [.d (.lst 3 (l.map NoteD.dat)), .d (.int .i64 n)] [.d (.lst 3 (U.map NoteD.dat)), .d (.bool b)] ∧ U.length ≤ 41 ∧ (b = true → NotesOk U ∧ U.length + 1 = l.length) := by
  have h1 := eqDat (impl_UndoNote_ok l n (by omega))
  have h2 := eqDat (spec_UndoNote_ok l n (by omega))
  refine ⟨_, _, h1, h2, ?_⟩
  rcases optP_cases (NotesOk l ∧ n ∈ l.map NoteD.skater) (noN n l) with ⟨⟨hv, hm⟩, e⟩ | ⟨hv, e⟩
  · have hlen := noN_one (notes_ne hv) hm
    rw [ansUndoNote, e]
    exact ⟨by simp only [Option.getD_some]; omega, fun _ => ⟨noN_ok hv, hlen⟩⟩
  · rw [ansUndoNote, e]
    exact ⟨by simp, fun h => by cases h⟩
theorem ansP_len (s : List UInt8) : ((ansP s).getD []).length ≤ 1048576 := by
  unfold ansP
  split
  · rename_i h
    have := h.choose_spec.1.1
    simp only [Option.getD_some]
    omega
  · simp
theorem parse_dat (t : ByteArray) (ht : t.size ≤ 1048576) : ∃ (U : List NoteD) (b : Bool), FnEq Tryz.prog 10 [.d (.str t)] [.d (.lst 3 (U.map NoteD.dat)), .d (.bool b)] ∧ FnEq Tryz.prog 25 [.d (.str t)] [.d (.lst 3 (U.map NoteD.dat)), .d (.bool b)] ∧ U.length ≤ 1048576 :=
  ⟨_, _, eqDat (impl_ParseNotes_ok t ht), eqDat (spec_ParseNotes_ok t ht), ansP_len _⟩
theorem parse_back {l : List NoteD} (h : NotesOk l) (hs : (ba (textL l)).size ≤ 1048576) : FnEq Tryz.prog 10 [.d (.str (ba (textL l)))] [.d (.lst 3 (l.map NoteD.dat)), .d (.bool true)] := by
  have h1 := eqDat (impl_ParseNotes_ok _ hs)
  rw [bl_ba, ansP_some h rfl] at h1
  exact h1
theorem text_dat (l : List NoteD) (hl : l.length ≤ 41) : ∃ (s : ByteArray) (b : Bool), FnEq Tryz.prog 7 [.d (.lst 3 (l.map NoteD.dat))] [.d (.str s), .d (.bool b)] ∧ FnEq Tryz.prog 8 [.d (.lst 3 (l.map NoteD.dat))] [.d (.str s), .d (.bool b)] ∧ FnEq Tryz.prog 9 [.d (.lst 3 (l.map NoteD.dat))] [.d (.bool b)] ∧ (b = true → NotesOk l ∧ FnEq Tryz.prog 10 [.d (.str s)] [.d (.lst 3 (l.map NoteD.dat)), .d (.bool true)]) := by
  have h3 := AreNotes_in l (by omega)
  by_cases h : NotesOk l
  · rw [bP_true h] at h3
    have hts := text_len h.fit
    rw [← ba_size] at hts
    exact ⟨_, true, impl_NotesText_yes l h, spec_NotesText_yes l h, h3, fun _ => ⟨h, parse_back h (by omega)⟩⟩
  · rw [bP_false h] at h3
    exact ⟨_, false, impl_NotesText_no l (by omega) h, spec_NotesText_no l (by omega) h, h3, fun e => by cases e⟩
theorem wb_dat (l : List NoteD) (s : Int) (hl : l.length ≤ 41) : ∃ (W : List Int) (b : Bool), FnEq Tryz.prog 11 [.d (.lst 3 (l.map NoteD.dat)), .d (.int .i64 s)] [.d (.lst 1 (W.map datI)), .d (.bool b)] ∧ FnEq Tryz.prog 12 [.d (.lst 3 (l.map NoteD.dat)), .d (.int .i64 s)] [.d (.lst 1 (W.map datI)), .d (.bool b)] ∧ W.length ≤ 1048576 ∧ (NotesOk l → s = 2 → b = true ∧ W.length = l.length) := by
  have h1 := eqDat (impl_WithdrawnBefore_ok l s (by omega))
  have h2 := eqDat (spec_WithdrawnBefore_ok l s (by omega))
  refine ⟨_, _, h1, h2, ?_⟩
  rcases optP_cases (NotesOk l ∧ 0 ≤ s ∧ s ≤ 2) (insAll (wbL l s)) with ⟨⟨hv, hs⟩, e⟩ | ⟨hv, e⟩
  · rw [ansWithdrawnBefore, e]
    have h3 := wbL_ne hv s l.length
    rw [List.take_length] at h3
    have hlen := (insAll_perm h3).length_eq
    have hle : (wbL l s).length ≤ l.length := by
      unfold wbL fm
      rw [List.length_map]
      exact List.length_filter_le _ _
    refine ⟨by simp only [Option.getD_some]; omega, fun _ e2 => ⟨rfl, ?_⟩⟩
    subst e2
    exact wb_all hv
  · rw [ansWithdrawnBefore, e]
    exact ⟨by simp, fun hv' e2 => absurd ⟨hv', by omega, by omega⟩ hv⟩
theorem after_dat (l : List ResultD) (N : List NoteD) (hl : l.length ≤ 41) (hk : ∀ r ∈ l, r.scores.length ≤ 1048576) (hN : N.length ≤ 41) : ∃ (A : List ResultD) (b : Bool), FnEq Tryz.prog 19 [.d (.lst 2 (l.map ResultD.dat)), .d (.lst 3 (N.map NoteD.dat))] [.d (.lst 2 (A.map ResultD.dat)), .d (.bool b)] ∧ FnEq Tryz.prog 20 [.d (.lst 2 (l.map ResultD.dat)), .d (.lst 3 (N.map NoteD.dat))] [.d (.lst 2 (A.map ResultD.dat)), .d (.bool b)] ∧ A.length ≤ 41 ∧ (∀ r ∈ A, r.scores.length ≤ 1048576) ∧ (b = true → FnEq Tryz.prog 19 [.d (.lst 2 (A.map ResultD.dat)), .d (.lst 3 (N.map NoteD.dat))] [.d (.lst 2 (A.map ResultD.dat)), .d (.bool true)] ∧ ResultsOk A) := by
  by_cases h : AftOk l N ∧ 0 < l.length
  · obtain ⟨hv, h0⟩ := h
    have hk2 : ∀ r ∈ afD N l, r.scores.length ≤ 1048576 := by
      intro r hr
      obtain ⟨k, hk'⟩ := List.getElem?_of_mem hr
      have := ((afD_ok (N := N) hv.1).2 k r hk').1.2.2.2.2
      omega
    have hl2 : (afD N l).length = l.length := afD_len N l
    have h1 := eqDat (impl_ResultsAfter_yes l N h0 (by omega) hk (by omega) hv.1 hv.2)
    have h2 := eqDat (spec_ResultsAfter_yes l N h0 (by omega) hk (by omega) hv)
    have h3 := eqDat (impl_ResultsAfter_yes (afD N l) N (by omega) (by omega) hk2 (by omega) (afD_ok hv.1) hv.2)
    rw [afD_idem] at h3
    exact ⟨_, _, h1, h2, by omega, hk2, fun _ => ⟨h3, afD_ok hv.1⟩⟩
  · have h1 := eqDat (impl_ResultsAfter_no l N (by omega) hk (by omega) h)
    have h2 := eqDat (spec_ResultsAfter_no l N (by omega) hk (by omega) h)
    refine ⟨[], _, h1, h2, by simp, by simp, fun hb => ?_⟩
    have hv : AftOk l N := bP_iff.1 hb
    have he : l = [] := List.eq_nil_of_length_eq_zero (by
      have : ¬ 0 < l.length := fun h0 => h ⟨hv, h0⟩
      omega)
    subst he
    rw [hb] at h1
    exact ⟨h1, hv.1⟩
end Go.Proofs.YthocihmhljmgdaaGreatDoor

/-
  The cursor's functions: next, pick, one, among.
-/
set_option linter.unusedSimpArgs false
set_option linter.unusedVariables false
set_option maxHeartbeats 2000000
set_option maxRecDepth 100000
namespace Go.Proofs.YthocihmhljmgdaaGreatDoor
open Go.RowKit

/-- the bytes that a cursor reads -/
def Bytes (code : List (List D)) : Prop := ∀ e, e ∈ code → ∃ n : Int, e = [.int .u8 n] ∧ 0 ≤ n ∧ n ≤ 255
/-- the cells of a cursor that has read k bytes at most -/
def Cur (k : Nat) (cs : List D) : Prop := ∃ (code : List (List D)) (a s : Int), cs = [.lst 1 code, .int .i64 a, .int .u64 s] ∧ Bytes code ∧ code.length ≤ 9223372036854775807 ∧ 0 ≤ a ∧ a ≤ k
theorem Cur.len {k : Nat} {cs : List D} (h : Cur k cs) : cs.length = 3 := by obtain ⟨_, _, _, rfl, _⟩ := h; rfl
theorem Cur.mono {k k' : Nat} {cs : List D} (h : Cur k cs) (hk : k ≤ k') : Cur k' cs := by
  obtain ⟨code, a, s, h1, h2, h3, h4, h5⟩ := h
  exact ⟨code, a, s, h1, h2, h3, h4, by omega⟩
/-- an answer out of a class, and a cursor that has gone on -/
def PostX {α : Type} (k : Nat) (p : α → Prop) (f : α → List RV) : List D → List RV → Prop := fun cs' rs => ∃ x, p x ∧ rs = f x ∧ Cur k cs'
abbrev PostI (k : Nat) (p : Int → Prop) : List D → List RV → Prop := PostX k p fun x => [.d (.int .i64 x)]

theorem next_ok {k : Nat} {cs : List D} (hC : Cur k cs) (hk : k ≤ 1099511627776) : FnC Tryz.prog 105 3 [] cs (PostI (k + 1) fun x => 0 ≤ x ∧ x ≤ 255) := by
  have hC' := hC
  obtain ⟨code, a, s, rfl, hB, hL, ha, hak⟩ := hC'
  refine fn_okC G_ok Tryz.func105 rfl rfl hC.len fun ty => ?_; simp only [Tryz.ntmps105, List.length_cons, List.length_nil, Nat.reduceAdd, Nat.reduceSub, List.map_cons, List.map_nil, List.length_map, enm]
  by_cases hlt : a < code.length
  · obtain ⟨n, rfl⟩ : ∃ n : Nat, a = n := ⟨a.toNat, by omega⟩
    have hn : n < code.length := by omega
    obtain ⟨b, hbn, hb0, hb1⟩ := hB code[n] (List.getElem_mem hn)
    have hgn : code[n]? = some [.int .u8 b] := by rw [List.getElem?_eq_getElem hn, hbn]
    repeat' (first | ((with_reducible first | (refine hK _ ?_; clear hK K) | refine stq fun K' hK' => ?_ | refine stc ?_); try simp only [go_sem, hgn, hlt]) | (with_reducible first | refine stp ?_ | (refine hK' _ ?_; clear hK' K') | refine kN kl105 fun K hK => ?_ | refine kO fun K hK => ?_) | (with_reducible refine pw_seq_drawK kl105 G_ok mixed (by kernel_rfl) (fun K hK => ?_)) | (with_reducible refine pw_draw G_ok mixed (by kernel_rfl) ?_) | (with_reducible refine pK_mk ?_ ?_ <;> (intro hc; (try simp only [go_sem, hgn, hlt]); (try simp at hc); try (exfalso; omega))) | with_reducible refine And.intro (by first | omega | (unfold inI; omega) | exact andI_inI _) ?_)
    all_goals (refine retC_ret (id := 0) [_, _, _] rfl rfl (by simp [rowsOf, lk]) rfl rfl ⟨_, ?_, rfl, code, _, _, rfl, hB, hL, ?_, ?_⟩ <;> first | omega | exact andI_255 _)
  · repeat' (first | ((with_reducible first | (refine hK _ ?_; clear hK K) | refine stq fun K' hK' => ?_ | refine stc ?_); try simp only [go_sem, hlt]) | (with_reducible first | refine stp ?_ | (refine hK' _ ?_; clear hK' K') | refine kN kl105 fun K hK => ?_ | refine kO fun K hK => ?_) | (with_reducible refine pw_seq_drawK kl105 G_ok mixed (by kernel_rfl) (fun K hK => ?_)) | (with_reducible refine pw_draw G_ok mixed (by kernel_rfl) ?_) | (with_reducible refine pK_mk ?_ ?_ <;> (intro hc; (try simp only [go_sem, hlt]); (try simp at hc); try (exfalso; omega))) | with_reducible refine And.intro (by first | omega | (unfold inI; omega) | exact andI_inI _) ?_)
    all_goals (refine retC_ret (id := 0) [_, _, _] rfl rfl (by simp [rowsOf, lk]) rfl rfl ⟨_, ?_, rfl, code, _, _, rfl, hB, hL, ?_, ?_⟩ <;> first | omega | exact andI_255 _)
theorem tmod_pick {x n : Int} (hx : 0 ≤ x) (hn : 0 < n) : 0 ≤ x.tmod n ∧ x.tmod n < n := ⟨Int.tmod_nonneg n hx, Int.tmod_lt_of_pos x hn⟩
theorem pick_ok {k : Nat} {cs : List D} {n : Int} (hC : Cur k cs) (hk : k ≤ 1099511627775) : FnC Tryz.prog 59 3 [.int .i64 n] cs (PostI (k + 2) fun x => 0 ≤ x ∧ (x = 0 ∨ x < n)) := by
  refine fn_okC G_ok Tryz.func59 rfl rfl hC.len fun ty => ?_; simp only [Tryz.ntmps59, List.length_cons, List.length_nil, Nat.reduceAdd, Nat.reduceSub, List.map_cons, List.map_nil, List.length_map, enm]
  repeat' (first | ((with_reducible first | (refine hK _ ?_; clear hK K) | refine stq fun K' hK' => ?_ | refine stc ?_); try simp only [go_sem]) | (with_reducible first | refine stp ?_ | (refine hK' _ ?_; clear hK' K') | refine kN kl59 fun K hK => ?_ | refine kO fun K hK => ?_) | ((first | refine CallK.cur (some 0) (next_ok (by assumption) (by omega)) rfl rfl rfl rfl rfl rfl ?_); rintro c2 _ ⟨x, hx, rfl, hC⟩; try simp only [mkB, go_sem]) | ((first | refine CallK.cur (some 0) (next_ok (by assumption) (by omega)) rfl rfl rfl rfl rfl rfl ?_); rintro c2 _ ⟨x, hx, rfl, hC⟩; try simp only [mkB, go_sem]) | (with_reducible refine pK_mk ?_ ?_ <;> (intro hc; (try simp only [go_sem]); (try simp at hc); try (exfalso; omega))) | with_reducible refine And.intro (by first | omega | (unfold inI; omega)) ?_)
  all_goals refine retC_ret (id := 0) _ rfl rfl (by simp [rowsOf, lk]) rfl (Cur.len (by assumption)) ⟨_, ?_, rfl, Cur.mono (by assumption) (by omega)⟩
  · omega
  · rename_i z hz _; have := tmod_pick (x := z * 256 + x) (n := n) (by omega) (by omega); omega
  · have := tmod_pick (x := x) (n := n) (by omega) (by omega); omega
theorem onec_ok {k : Nat} {cs : List D} {n : Int} (hC : Cur k cs) (hk : k ≤ 1099511627775) : FnC Tryz.prog 58 3 [.int .i64 n] cs (PostX (k + 2) (fun _ : Bool => True) fun b => [.d (.bool b)]) := by
  refine fn_okC G_ok Tryz.func58 rfl rfl hC.len fun ty => ?_; simp only [Tryz.ntmps58, List.length_cons, List.length_nil, Nat.reduceAdd, Nat.reduceSub, List.map_cons, List.map_nil, List.length_map, enm]
  repeat' (first | ((with_reducible first | (refine hK _ ?_; clear hK K) | refine stq fun K' hK' => ?_ | refine stc ?_); try simp only [go_sem]) | (with_reducible first | refine stp ?_ | (refine hK' _ ?_; clear hK' K') | refine kN kl58 fun K hK => ?_ | refine kO fun K hK => ?_) | ((first | refine CallK.cur (some 0) (pick_ok (by assumption) (by omega)) rfl rfl rfl rfl rfl rfl ?_); rintro c2 _ ⟨x, hx, rfl, hC⟩; try simp only [mkB, go_sem]) | ((first | refine CallK.cur (some 0) (pick_ok (by assumption) (by omega)) rfl rfl rfl rfl rfl rfl ?_); rintro c2 _ ⟨x, hx, rfl, hC⟩; try simp only [mkB, go_sem]) | (with_reducible refine pK_mk ?_ ?_ <;> (intro hc; (try simp only [go_sem]); (try simp at hc); try (exfalso; omega))) | with_reducible refine And.intro (by first | omega | (unfold inI; omega)) ?_)
  all_goals (refine retC_ret (id := 0) _ rfl rfl (by simp [rowsOf, lk]) rfl (Cur.len (by assumption)) ⟨_, ?_, rfl, Cur.mono (by assumption) (by omega)⟩; trivial)
theorem among_ok {k : Nat} {cs : List D} {l : List Int} (hC : Cur k cs) (hk : k ≤ 1099511627775) (h0 : 0 < l.length) (hl : l.length ≤ 1048576) : FnC Tryz.prog 71 3 [.lst 1 (l.map datI)] cs (PostI (k + 2) fun x => x ∈ l) := by
  refine fn_okC G_ok Tryz.func71 rfl rfl hC.len fun ty => ?_; simp only [Tryz.ntmps71, List.length_cons, List.length_nil, Nat.reduceAdd, Nat.reduceSub, List.map_cons, List.map_nil, List.length_map, enm]
  repeat' (first | ((with_reducible first | (refine hK _ ?_; clear hK K) | refine stq fun K' hK' => ?_ | refine stc ?_); try simp only [go_sem]) | (with_reducible first | refine stp ?_ | (refine hK' _ ?_; clear hK' K') | refine kN kl71 fun K hK => ?_ | refine kO fun K hK => ?_) | (with_reducible refine pK_mk ?_ ?_ <;> (intro hc; (try simp only [go_sem]); (try simp at hc); try (exfalso; omega))) | with_reducible refine And.intro (by first | omega | (unfold inI; omega)) ?_)
  refine CallK.cur (some 0) (pick_ok (by assumption) (by omega)) rfl rfl rfl rfl rfl rfl ?_; rintro c2 _ ⟨x, hx, rfl, hC⟩; try simp only [mkB, go_sem]
  obtain ⟨i, rfl⟩ : ∃ i : Nat, x = i := ⟨x.toNat, by omega⟩
  have hi : i < l.length := by omega
  have hg : l[i]? = some l[i] := List.getElem?_eq_getElem hi
  repeat' (first | ((with_reducible first | (refine hK _ ?_; clear hK K) | refine stq fun K' hK' => ?_ | refine stc ?_); try simp only [go_sem, hg, List.getElem?_map, Option.map_some, datI]) | (with_reducible first | refine stp ?_ | (refine hK' _ ?_; clear hK' K') | refine kN kl71 fun K hK => ?_ | refine kO fun K hK => ?_) | (with_reducible refine pK_mk ?_ ?_ <;> (intro hc; (try simp only [go_sem, hg, List.getElem?_map, Option.map_some, datI]); (try simp at hc); try (exfalso; omega))) | with_reducible refine And.intro (by first | omega | (unfold inI; omega)) ?_)
  all_goals (refine retC_ret (id := 0) _ rfl rfl (by simp [rowsOf, lk]) rfl (Cur.len (by assumption)) ⟨_, ?_, rfl, Cur.mono (by assumption) (by omega)⟩; exact List.getElem_mem hi)
end Go.Proofs.YthocihmhljmgdaaGreatDoor
namespace Go.Proofs.YthocihmhljmgdaaGreatDoor
open Go.ChangeShapes Go.WideShapes Go.ChangeAt Go.RowKit Go.Deep

def datY (n : Int) : List D := [.int .u8 n]
section
variable {H : Type} {enc : TypeId × Value → H} {w : World} {base : Nat} {spare : Nat → Bool} {held : Bool}
theorem OpenK.byte {P : Program} {t : TypeId} (ht : P.underlying t = some (.int .u8)) : OpenK enc P w base spare held datY (fun n => 0 ≤ n ∧ n ≤ 255) t 1 := by
  refine ⟨fun _ => rfl, fun fuel cs y h => ?_⟩
  obtain ⟨n, rfl, _, hw⟩ := DataW.trod_int ht h
  have hw' : (decide (IntKind.u8.min ≤ n) && decide (n ≤ IntKind.u8.max)) = true := hw
  rw [Bool.and_eq_true, decide_eq_true_eq, decide_eq_true_eq] at hw'
  have e1 : IntKind.u8.min = 0 := by decide
  have e2 : IntKind.u8.max = 255 := by decide
  refine ⟨n, ⟨by omega, by omega⟩, rfl, fun j d u hd hu => ?_⟩
  cases j with
  | zero => simp [datY] at hd hu; subst hd hu; exact .int _ _
  | succ j => simp [datY] at hd
set_option maxRecDepth 100000 in
theorem open_bytes : OpenK enc Tryz.prog w base spare held (datL 1 datY) (fun xs => xs.length ≤ maxLen ∧ ∀ x ∈ xs, 0 ≤ x ∧ x ≤ 255) 22 1 :=
  OpenK.slc (OpenK.byte Tryz.underlying5) Tryz.underlying22 (by kernel_rfl) (by decide)
end
theorem bytes_map {xs : List Int} (h : ∀ x ∈ xs, 0 ≤ x ∧ x ≤ 255) : Bytes (xs.map datY) := by
  intro e he
  obtain ⟨n, hn, rfl⟩ := List.mem_map.1 he
  exact ⟨n, rfl, h n hn⟩
/-- a cursor at its start -/
theorem cur0 {xs : List Int} (h : ∀ x ∈ xs, 0 ≤ x ∧ x ≤ 255) (hn : xs.length ≤ 9223372036854775807) : Cur 0 [.lst 1 (xs.map datY), .int .i64 0, .int .u64 0] :=
  ⟨_, 0, 0, rfl, bytes_map h, by simpa using hn, Int.le_refl _, Int.le_refl _⟩
theorem big_ok (xs ys : List Int) (hx : xs.length ≤ maxLen) (hy : ys.length ≤ maxLen) : FnEq Tryz.prog 5 [.d (.lst 1 (xs.map datY)), .d (.lst 1 (ys.map datY))] [.d (.bool (decide (1048576 < xs.length + ys.length)))] := by
  unfold maxLen at hx hy
  refine fn_ok G_ok Tryz.func5 rfl rfl ?_; simp only [Tryz.ntmps5, List.length_cons, List.length_nil, Nat.reduceAdd, Nat.reduceSub, enm]
  repeat' (first | ((with_reducible first | (refine hK _ ?_; clear hK K) | refine stq fun K' hK' => ?_ | refine stc ?_); try simp only [go_sem]) | (with_reducible first | refine stp ?_ | (refine hK' _ ?_; clear hK' K') | refine kN kl5 fun K hK => ?_ | refine kO fun K hK => ?_) | (refine xS rfl fun K' hK' => ?_; simp only [go_sem]) | (with_reducible refine pK_mk ?_ ?_ <;> (intro hc; (try simp only [go_sem]); (try simp at hc); try (exfalso; omega))) | with_reducible refine And.intro (by first | omega | (unfold inI; omega)) ?_)
  all_goals first
    | (exfalso; omega)
    | (refine retQ_ret rfl rfl (by simp [rowsOf, lk]) ?_; rw [decide_eq_true (by omega)])
    | (refine retQ_ret rfl rfl (by simp [rowsOf, lk]) ?_; rw [decide_eq_false (by omega)])
    | (refine retQ_ret rfl rfl (by simp [rowsOf, lk]) ?_; congr 3; rw [Bool.eq_iff_iff]; simp; omega)
theorem sameInts_ok (xs ys : List Int) (hn : xs.length ≤ 1048576) (hn' : ys.length ≤ 1048576) : FnEq Tryz.prog 14 [.d (.lst 1 (xs.map datI)), .d (.lst 1 (ys.map datI))] [.d (.bool (bP (xs = ys)))] := by
  refine fn_ok G_ok Tryz.func14 rfl rfl ?_; simp only [Tryz.ntmps14, List.length_cons, List.length_nil, Nat.reduceAdd, Nat.reduceSub, enm]
  repeat' (first | ((with_reducible first | (refine hK _ ?_; clear hK K) | refine stq fun K' hK' => ?_ | refine stc ?_); try simp only [go_sem]) | (with_reducible first | refine stp ?_ | (refine hK' _ ?_; clear hK' K') | refine kN kl14 fun K hK => ?_ | refine kO fun K hK => ?_) | refine iB ?_ | (with_reducible refine pw_seq_drawK kl14 G_ok mixed (by kernel_rfl) (fun K hK => ?_)) | (with_reducible refine pw_draw G_ok mixed (by kernel_rfl) ?_) | (with_reducible refine pK_mk ?_ ?_ <;> (intro hc; (try simp only [go_sem]); (try simp at hc); try (exfalso; omega))) | with_reducible refine And.intro (by first | omega | (unfold inI; omega)) ?_)
  · refine retQ_ret rfl rfl (by simp [rowsOf, lk]) ?_; rw [bP_false fun h => absurd (congrArg List.length h) (by omega)]
  · refine pw_loop_over [4, 5, 13, 14, 15, 16, 17, 18, 19, 20, 21, 22, 23, 24, 25] (fun k : Nat => [(13, .d (.int .i64 (k : Int)))]) (fun k : Nat => []) 0 (fun k : Nat => k ≤ xs.length ∧ xs.take k = ys.take k) (fun k : Nat => xs.length - k) 0 ⟨Nat.zero_le _, by simp⟩ (fits_mk [] (by simp [renL_d, bdL_d, sg, over, wipe, wl, memN, ins, rm, lk, fitFr, fit1, ren, renL, bd, bdL, app, fitHp, hget, renB, bdB] <;> omega)) ?_
    rintro k ⟨hk, hJ⟩
    simp only [over, wipe, wl, memN, ins, rm, if_true, if_false, Nat.reduceEqDiff, Bool.false_eq_true, reduceCtorEq]
    by_cases hlt : k < xs.length
    · have hx := List.getElem?_eq_getElem hlt
      generalize xs[k] = x at hx
      have hy := List.getElem?_eq_getElem (show k < ys.length by omega)
      generalize ys[k] = y at hy
      repeat' (first | ((with_reducible first | (refine hK _ ?_; clear hK K) | refine stq fun K' hK' => ?_ | refine stc ?_); try simp only [go_sem, List.getElem?_map, hx, hy, Option.map_some, datI]) | (with_reducible first | refine stp ?_ | (refine hK' _ ?_; clear hK' K') | refine kN kl14 fun K hK => ?_ | refine kO fun K hK => ?_) | refine iB ?_ | (with_reducible refine pw_seq_drawK kl14 G_ok mixed (by kernel_rfl) (fun K hK => ?_)) | (with_reducible refine pw_draw G_ok mixed (by kernel_rfl) ?_) | (with_reducible refine pK_mk ?_ ?_ <;> (intro hc; (try simp only [go_sem, List.getElem?_map, hx, hy, Option.map_some, datI]); (try simp at hc); try (exfalso; omega))) | with_reducible refine And.intro (by first | omega | (unfold inI; omega)) ?_)
      · refine retQ_ret rfl rfl (by simp [rowsOf, lk]) ?_; rw [bP_false fun h => by rw [h, hy] at hx; exact absurd (Option.some.inj hx).symm (by assumption)]
      · exact ⟨k + 1, ⟨by omega, by rw [take_snoc hx, take_snoc hy, hJ, hc]⟩, by omega, (fits_mk [] (by simp [renL_d, bdL_d, sg, over, wipe, wl, memN, ins, rm, lk, fitFr, fit1, ren, renL, bd, bdL, app, fitHp, hget, renB, bdB] <;> omega))⟩
    · repeat' (first | ((with_reducible first | (refine hK _ ?_; clear hK K) | refine stq fun K' hK' => ?_ | refine stc ?_); try simp only [go_sem]) | (with_reducible first | refine stp ?_ | (refine hK' _ ?_; clear hK' K') | refine kN kl14 fun K hK => ?_ | refine kO fun K hK => ?_) | refine iB ?_ | (with_reducible refine pw_seq_drawK kl14 G_ok mixed (by kernel_rfl) (fun K hK => ?_)) | (with_reducible refine pw_draw G_ok mixed (by kernel_rfl) ?_) | (with_reducible refine pK_mk ?_ ?_ <;> (intro hc; (try simp only [go_sem]); (try simp at hc); try (exfalso; omega))) | with_reducible refine And.intro (by first | omega | (unfold inI; omega)) ?_)
      refine retQ_ret rfl rfl (by simp [rowsOf, lk]) ?_; rw [bP_true (by rwa [List.take_of_length_le (by omega), List.take_of_length_le (by omega)] at hJ)]
end Go.Proofs.YthocihmhljmgdaaGreatDoor

/-
  An append that is tried: the old row stays in use beside the new one. No program is named here.
-/
namespace Go.Proofs.YthocihmhljmgdaaGreatDoor
open Go.RowKit

theorem append_run_two {P : Program} {w : World} {t ty e : TypeId} {i : TypeInfo} {z : Value} (ht : P.underlying t = some (.slice e)) (hi : P.info? e = some i) (hz : i.zero = some z) {sz bytes : Nat} (hsz : i.size = sz) (hby : i.bytes = bytes) (hzs : z.cells.size = sz)
    {l : Loc} {v : Value} {n : Nat} {xs : List Value} (hl : Lies w e sz l v n xs) {A : Option Addr} {m c' : Nat} {news : List Value} (hn : news.length = m * sz) (hA : A = none → m = 0) (hnews : ∀ a, A = some a → ∀ (j : Nat) u, news[j]? = some u → w.cell? (a.add j) = some u)
    (h1 : ∀ u ∈ news, u.oneCell' = true) (hm0 : 0 < m) (h63 : n + m ≤ maxLen) (hb : (n + m) * bytes ≤ 140737488355328) :
    ∃ v' w' l', (Builtin.append_ #[t, t] ty #[v, .slice A m c']).run P w = .ok v' w' ∧ Lies w' e sz l' v' (n + m) (xs ++ news) ∧ w'.os = w.os ∧ w'.tape = w.tape ∧ w'.output = w.output ∧ (w.heap.size ≤ w'.heap.size ∧ w.drawn ≤ w'.drawn) ∧
      (((∃ b c, l = .blk b c ∧ l' = .blk b c ∧ b < w.heap.size) ∧ ∀ k, k < w.heap.size → (∀ c, l ≠ .blk k c) → w'.heap[k]? = w.heap[k]?) ∨
       ((∃ g c, l' = .blk g c ∧ w.heap.size ≤ g ∧ g < w'.heap.size) ∧ ∀ k, k < w.heap.size → w'.heap[k]? = w.heap[k]?)) := by
  subst hsz
  subst hby
  have hlen : (xs ++ news).length = (n + m) * i.size := by rw [List.length_append, hl.len, hn, Nat.add_mul]
  have hsmall : n + m ≤ 9223372036854775807 := by simp only [maxLen] at h63; omega
  have grown : ∀ (old : Nat), old < n + m → Lies (w.drew.alloc (.cells (xs.toArray ++ news.toArray ++ Builtin.zeroCells z.cells (grownCap w (n + m) old e - (n + m))) e)) e i.size (.blk w.heap.size (grownCap w (n + m) old e)) (.slice (some ⟨w.heap.size, 0, none⟩) (n + m) (grownCap w (n + m) old e)) (n + m) (xs ++ news) := by
    intro old ho
    have hge := grownCap_ge w (n + m) old e
    refine ⟨rfl, _, heap_alloc_new w.drew _, ?_, hge, grownCap_le_maxLen w (n + m) old e h63, ?_⟩
    · simp only [Array.size_append, List.size_toArray, size_zeroCells, hzs, hl.len, hn, ← Nat.add_mul]
      congr 1
      omega
    · simp only [Array.toList_append, List.append_assoc]
      rw [← List.append_assoc, ← hlen]
      exact List.take_left
  have same : ∀ o k, k < w.heap.size → (w.drew.alloc o).heap[k]? = w.heap[k]? := fun o k hk => Below.heap_alloc w.drew o k hk
  obtain ⟨a, rfl⟩ : ∃ a, A = some a := by
    cases A with
    | none => have := hA rfl; omega
    | some a => exact ⟨a, rfl⟩
  cases l with
  | nil =>
    obtain ⟨rfl, rfl, rfl⟩ := hl
    have hr := Go.run_append_nil (P := P) w t ty e i z ht hi hz a m c' news hn (hnews a rfl) hm0 (by omega) (by have hb := hb; simp only [Nat.zero_add] at hb; omega)
    have hgr := grown 0 (by omega)
    simp only [Nat.zero_add, List.nil_append, Array.empty_append] at hgr ⊢
    exact ⟨_, _, _, hr, hgr, rfl, rfl, rfl, ⟨by simp, Nat.le_succ _⟩, .inr ⟨⟨_, _, rfl, Nat.le_refl _, by simp⟩, fun k hk => same _ k hk⟩⟩
  | blk b c =>
    have hl' := hl
    obtain ⟨rfl, arr, h2, h3, h4, h5, h6⟩ := hl
    have hlt : b < w.heap.size := by
      rcases Nat.lt_or_ge b w.heap.size with h | h
      · exact h
      · rw [Array.getElem?_eq_none h] at h2; cases h2
    by_cases hroom : n + m ≤ c
    · have hfit : n * i.size + news.length ≤ arr.size := by rw [hn, h3, ← Nat.add_mul]; exact Nat.mul_le_mul_right _ hroom
      have hr := run_append_room (P := P) w t ty e i ht hi b n c arr h2 a m c' news hn (hnews a rfl) h1 hroom hfit
      refine ⟨_, _, .blk b c, hr, ⟨rfl, _, setRow_heap w b arr _ e _ h2, ?_, hroom, h5, ?_⟩, rfl, rfl, rfl, ⟨by simp [World.setRow], Nat.le_refl _⟩, .inl ⟨⟨b, c, rfl, rfl, hlt⟩, fun k hk hne => setRow_other w b k _ (fun e => hne c (by rw [e]))⟩⟩
      · simp only [List.size_toArray, List.length_append, List.length_take, List.length_drop, Array.length_toList]
        omega
      · show (arr.toList.take (n * i.size) ++ news ++ arr.toList.drop (n * i.size + news.length)).toArray.toList.take ((n + m) * i.size) = _
        rw [h6, ← hlen]
        exact List.take_left
    · have holds : ∀ j u, xs[j]? = some u → w.cell? ((⟨b, 0, none⟩ : Addr).add j) = some u := by
        intro j u hu
        have hj : j < n * i.size := by rw [← hl'.len]; exact (List.getElem?_eq_some_iff.1 hu).1
        rw [← h6, List.getElem?_take_of_lt hj] at hu
        rw [Addr.add_lit]
        simp only [World.cell?, h2, Nat.zero_add]
        simpa using hu
      have hr := run_append_grow (P := P) w t ty e i z ht hi hz ⟨b, 0, none⟩ n c xs hl'.len holds a m c' news hn (hnews a rfl) (by omega) (by omega) (growslice_fits (by omega) hb)
      exact ⟨_, _, _, hr, grown c (by omega), rfl, rfl, rfl, ⟨by simp, Nat.le_succ _⟩, .inr ⟨⟨_, _, rfl, Nat.le_refl _, by simp⟩, fun k hk => same _ k hk⟩⟩
/-- an append whose old row stays in use: in place (the same row, longer; the old slot's length is stale), or into new memory (two rows) -/
theorem po_tryappend {P : Program} {o : Oper} {s : AS} {K : AS → Prop} {x y : Operand} {t e : TypeId} {sz bytes id n ty : Nat} {z : List D} {es fs : List (List D)} (ho : o.op = .call { callee := .builtin .append, args := #[x, y], argTypes := #[t, t] }) (ht : tiB P t (.slc e sz bytes z) = true)
    (hx : s.get x = .row id n) (hg : hget s.hp id = some (.row ty sz es)) (hty : ty = e) (hn : es.length = n) (hy : srcL s.hp (s.get y) = some (sz, fs)) (hlen : es.length + fs.length ≤ 16777216) (hfs : 0 < fs.length)
    (hK1 : K (AS.put ⟨s.fr, hset s.hp id (.row e sz (es ++ fs)), s.nx⟩ o.dst (.row id (n + fs.length))))
    (hK2 : K (AS.put ⟨s.fr, (s.nx, .row e sz (es ++ fs)) :: s.hp, s.nx + 1⟩ o.dst (.row s.nx (n + fs.length)))) : PO P o s K :=
  PO.mk fun X0 w0 m a w hs => by
    subst hty
    have h1 := hs.get x
    rw [hx] at h1
    obtain ⟨l, xs, h2, h3, h4⟩ := row_lies hs hg hn h1
    have hsrc := hs.src hy (hs.get y)
    obtain ⟨A, c', news, h5, h6, h7, h8, h9, h10⟩ := hsrc.news
    obtain ⟨g1, ⟨i, v, g2, g3, g4, g5, g6⟩, g7, g8, g9, _⟩ := tiB_slc ht
    have hzs : v.cells.size = sz := by rw [(zB_rd g6).1, g7]
    have hbig : (n + fs.length) * bytes ≤ 140737488355328 := Nat.le_trans (Nat.mul_le_mul (show n + fs.length ≤ 16777216 by omega) g9) (by decide)
    obtain ⟨v', w', l', r1, r2, r3, r4, r5, r6, r7⟩ := append_run_two (P := P) (ty := o.type) (c' := c') g1 g2 g5 g3 g4 hzs h3 h6 h7 h8 h9 hfs (by unfold maxLen; omega) hbig
    have hbe : ∀ b c, l = .blk b c → (w0.w.heap.size ≤ b ∨ w0.chg b) ∧ b < w.heap.size := fun b c e => hs.owns hg (by rw [h2, e])
    have e1 : (execOp a.eval o) = (do let r ← Builtin.append_ #[t, t] o.type #[a.eval x, a.eval y]; pure (Next.value r)) := by
      simp [execOp, ho, resolve, invoke, builtin]
    have hrun : (execOp a.eval o).run P w = .ok (.value v') w' := by
      rw [e1, Sem.run_bind, h5, r1]
      rfl
    have hok : ∀ {m' : Nat → Option Loc} {X' : Nat → Prop}, Stay w w' (Owned X0 m s.hp) X' → (Blk.row ty sz (es ++ fs)).ok m' X' w' l' := by
      intro m' X' hst
      refine lies_ok r2 (by simp [hn]) (fun e' he' => ?_) (fun k e' j d u he' hd hu => ?_)
      · rcases List.mem_append.1 he' with h | h
        · obtain ⟨lb, hlb, hok⟩ := hs.hp id _ hg
          cases lb with
          | nil => have : es = [] := hok; rw [this] at h; simp at h
          | blk b c => obtain ⟨arr, _, hc⟩ := hok; exact hc.2.2.2.1 e' h
        · exact hsrc.1 e' h
      · have hxl : xs.length = n * sz := h3.len
        by_cases hk : k < es.length
        · rw [List.getElem?_append_left hk] at he'
          have hj : j < sz := by
            have := (List.getElem?_eq_some_iff.1 hd).1
            obtain ⟨lb, hlb, hok⟩ := hs.hp id _ hg
            cases lb with
            | nil => have h0 : es = [] := hok; rw [h0] at hk; simp at hk
            | blk b c => obtain ⟨arr, _, hc⟩ := hok; rw [hc.2.2.2.1 e' (List.mem_of_getElem? he')] at this; exact this
          rw [List.getElem?_append_left (by rw [hxl]; exact mul_apart (by omega) hj)] at hu
          exact (h4 k e' j d u he' hd hu).mono hst
        · rw [List.getElem?_append_right (by omega)] at he'
          have e3 : n * sz ≤ k * sz + j := by
            have : n * sz ≤ k * sz := Nat.mul_le_mul_right _ (by omega)
            omega
          rw [List.getElem?_append_right (by rw [hxl]; exact e3), hxl] at hu
          have e4 : k * sz + j - n * sz = (k - es.length) * sz + j := by
            rw [Nat.sub_mul, hn]
            have : n * sz ≤ k * sz := Nat.mul_le_mul_right _ (by omega)
            omega
          rw [e4] at hu
          exact (h10 (k - es.length) e' j d u he' hd hu).mono hst
    rcases r7 with ⟨⟨b, c, el, el', hbl⟩, r7⟩ | ⟨⟨g, c, el', hg1, hg2⟩, r7⟩
    · -- in place
      subst el el'
      refine ⟨v', w', upd m id (.blk b c), ⟨s.fr, hset s.hp id (.row ty sz (es ++ fs)), s.nx⟩, .row id (n + fs.length), hrun, ?_, lies_R r2 (upd_same _ _ _), hK1⟩
      refine hs.change (i := id) (blk' := .row ty sz (es ++ fs)) (l' := .blk b c) (fun k => k = b) (.inr h2) (by rw [hget_hset]; simp [hg]) rfl (fun id' hne blk hb' => by rw [hget_hset, if_neg hne] at hb'; exact hb') (fun id' q ty' sz' es2 hd => ?_) (Nat.le_refl _) (hs.lt_nx h2) ⟨r3, r4, r5, r6.1, fun k hk hnc => r7 k (Nat.lt_of_lt_of_le hk hs.below.size) (fun c2 e => by cases e; rcases (hbe b c rfl).1 with h | h; omega; exact hnc h), .of_le r6.2⟩ (fun k hk hne => r7 k hk (fun c2 e => by cases e; exact hne rfl)) ?_ ?_ ?_
      · have hne : id' ≠ id := fun e => by subst e; rw [hg] at hd; cases hd
        exact ⟨hne, by rw [hget_hset, if_neg hne]⟩
      · rintro k rfl
        exact ⟨id, _, hg, ⟨c, h2⟩, .inl rfl⟩
      · intro b' c' e
        cases e
        exact ⟨(hbe b c rfl).1, Nat.lt_of_lt_of_le hbl r6.1, .inr rfl⟩
      · intro hst
        exact hok hst
    · -- new memory
      subst el'
      refine ⟨v', w', upd m s.nx (.blk g c), ⟨s.fr, (s.nx, .row ty sz (es ++ fs)) :: s.hp, s.nx + 1⟩, .row s.nx (n + fs.length), hrun, ?_, lies_R r2 (upd_same _ _ _), hK2⟩
      have hidn : id ≠ s.nx := fun e => by subst e; rw [hs.hget_nx] at hg; cases hg
      refine hs.change (i := s.nx) (blk' := .row ty sz (es ++ fs)) (l' := .blk g c) (fun _ => False) (.inl hs.hnx) (by simp [hget]) rfl (fun id' hne blk hb => by simpa [hget, hne] using hb) (fun id' q ty' sz' es' hd => ?_) (by omega) (by omega) ⟨r3, r4, r5, r6.1, fun k hk hn => r7 k (by have := hs.below.size; omega), .of_le r6.2⟩ (fun k hk _ => r7 k hk) ?_ ?_ ?_
      · have hne2 : id' ≠ s.nx := fun e => by subst e; rw [hs.hget_nx] at hd; cases hd
        exact ⟨hne2, by rw [hget, if_neg hne2]⟩
      · intro k h
        exact h.elim
      · intro b' c' e
        cases e
        exact ⟨.inl (Nat.le_trans hs.below.size hg1), hg2, .inl hg1⟩
      · intro hst
        exact hok hst
/-- the end of a row is forgotten -/
theorem pw_cut {P : Program} {c : Code} {Q : Exit → AS → Prop} {s : AS} {id ty sz : Nat} {es fs : List (List D)} (hg : hget s.hp id = some (.row ty sz (es ++ fs))) (h : PW P c Q ⟨s.fr, hset s.hp id (.row ty sz es), s.nx⟩) : PW P c Q s := by
  intro X0 w0 m a w hs
  obtain ⟨l, hl, hok⟩ := hs.hp id _ hg
  refine h X0 w0 (upd m id l) a w ?_
  refine hs.change (i := id) (blk' := .row ty sz es) (l' := l) (fun k => ∃ c, l = .blk k c) (.inr hl) (by rw [hget_hset]; simp [hg]) rfl (fun id' hne blk hb' => by rw [hget_hset, if_neg hne] at hb'; exact hb') (fun id' q ty' sz' es2 hd => ?_) (Nat.le_refl _) (hs.lt_nx hl) (KeepB.refl _ _) (fun k _ _ => rfl) ?_ ?_ ?_
  · have hne : id' ≠ id := fun e => by subst e; rw [hg] at hd; cases hd
    exact ⟨hne, by rw [hget_hset, if_neg hne]⟩
  · rintro k ⟨c, e⟩
    exact ⟨id, _, hg, ⟨c, by rw [hl, e]⟩, .inl rfl⟩
  · intro b c e
    have := hs.owns hg (by rw [hl, e])
    exact ⟨this.1, this.2, .inr ⟨c, e⟩⟩
  · intro hst
    cases l with
    | nil =>
      have h0 : es ++ fs = [] := hok
      exact (List.append_eq_nil_iff.1 h0).1
    | blk b c =>
      obtain ⟨arr, q1, q2, q3, q4, q5, q6⟩ := hok
      refine ⟨arr, q1, ⟨q2, by simp at q3; omega, q4, fun e he => q5 e (List.mem_append_left _ he), fun k e j d v he hd hv => ?_⟩⟩
      exact (q6 k e j d v (by rw [List.getElem?_append_left (List.getElem?_eq_some_iff.1 he).1]; exact he) hd hv).mono hst
end Go.Proofs.YthocihmhljmgdaaGreatDoor
