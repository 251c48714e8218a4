/-
  The cursor's functions: next, pick, one, among.
-/
import Derived.Test.YthocihmhljmgdaaGreatDoorZOrd
import Derived.Test.YthocihmhljmgdaaGreatDoorZTk
import Derived.Test.YthocihmhljmgdaaGreatDoorZNq
import Derived.Test.YthocihmhljmgdaaGreatDoorZEo
set_option linter.unusedSimpArgs false
set_option linter.unusedVariables false
set_option maxHeartbeats 2000000
set_option maxRecDepth 100000
namespace Go.Proofs.YthocihmhljmgdaaGreatDoor
open Go.RowKit

/-- the bytes that a cursor reads -/
def Bytes (code : List (List D)) : Prop := ∀ e, e ∈ code → ∃ n : Int, e = [.int .u8 n] ∧ 0 ≤ n ∧ n ≤ 255
/-- the cells of a cursor that has read k bytes at most -/
def Cur (k : Nat) (cs : List D) : Prop := ∃ (code : List (List D)) (a s : Int), cs = [.lst 1 code, .int .i64 a, .int .u64 s] ∧ Bytes code ∧ code.length ≤ 9223372036854775807 ∧ 0 ≤ a ∧ a ≤ k
theorem Cur.len {k : Nat} {cs : List D} (h : Cur k cs) : cs.length = 3 := by obtain ⟨_, _, _, rfl, _⟩ := h; rfl
theorem Cur.mono {k k' : Nat} {cs : List D} (h : Cur k cs) (hk : k ≤ k') : Cur k' cs := by
  obtain ⟨code, a, s, h1, h2, h3, h4, h5⟩ := h
  exact ⟨code, a, s, h1, h2, h3, h4, by omega⟩
/-- an answer out of a class, and a cursor that has gone on -/
def PostX {α : Type} (k : Nat) (p : α → Prop) (f : α → List RV) : List D → List RV → Prop := fun cs' rs => ∃ x, p x ∧ rs = f x ∧ Cur k cs'
abbrev PostI (k : Nat) (p : Int → Prop) : List D → List RV → Prop := PostX k p fun x => [.d (.int .i64 x)]

theorem next_ok {k : Nat} {cs : List D} (hC : Cur k cs) (hk : k ≤ 1099511627776) : FnC Tryz.prog 105 3 [] cs (PostI (k + 1) fun x => 0 ≤ x ∧ x ≤ 255) := by
  have hC' := hC
  obtain ⟨code, a, s, rfl, hB, hL, ha, hak⟩ := hC'
  refine fn_okC G_ok Tryz.func105 rfl rfl hC.len fun ty => ?_; simp only [Tryz.ntmps105, List.length_cons, List.length_nil, Nat.reduceAdd, Nat.reduceSub, List.map_cons, List.map_nil, List.length_map, enm]
  by_cases hlt : a < code.length
  · obtain ⟨n, rfl⟩ : ∃ n : Nat, a = n := ⟨a.toNat, by omega⟩
    have hn : n < code.length := by omega
    obtain ⟨b, hbn, hb0, hb1⟩ := hB code[n] (List.getElem_mem hn)
    have hgn : code[n]? = some [.int .u8 b] := by rw [List.getElem?_eq_getElem hn, hbn]
    repeat' (first | ((with_reducible first | (refine hK _ ?_; clear hK K) | refine stq fun K' hK' => ?_ | refine stc ?_); try simp only [go_sem, hgn, hlt]) | (with_reducible first | refine stp ?_ | (refine hK' _ ?_; clear hK' K') | refine kN kl105 fun K hK => ?_ | refine kO fun K hK => ?_) | (with_reducible refine pw_seq_drawK kl105 G_ok mixed (by kernel_rfl) (fun K hK => ?_)) | (with_reducible refine pw_draw G_ok mixed (by kernel_rfl) ?_) | (with_reducible refine pK_mk ?_ ?_ <;> (intro hc; (try simp only [go_sem, hgn, hlt]); (try simp at hc); try (exfalso; omega))) | with_reducible refine And.intro (by first | omega | (unfold inI; omega) | exact andI_inI _) ?_)
    all_goals (refine retC_ret (id := 0) [_, _, _] rfl rfl (by simp [rowsOf, lk]) rfl rfl ⟨_, ?_, rfl, code, _, _, rfl, hB, hL, ?_, ?_⟩ <;> first | omega | exact andI_255 _)
  · repeat' (first | ((with_reducible first | (refine hK _ ?_; clear hK K) | refine stq fun K' hK' => ?_ | refine stc ?_); try simp only [go_sem, hlt]) | (with_reducible first | refine stp ?_ | (refine hK' _ ?_; clear hK' K') | refine kN kl105 fun K hK => ?_ | refine kO fun K hK => ?_) | (with_reducible refine pw_seq_drawK kl105 G_ok mixed (by kernel_rfl) (fun K hK => ?_)) | (with_reducible refine pw_draw G_ok mixed (by kernel_rfl) ?_) | (with_reducible refine pK_mk ?_ ?_ <;> (intro hc; (try simp only [go_sem, hlt]); (try simp at hc); try (exfalso; omega))) | with_reducible refine And.intro (by first | omega | (unfold inI; omega) | exact andI_inI _) ?_)
    all_goals (refine retC_ret (id := 0) [_, _, _] rfl rfl (by simp [rowsOf, lk]) rfl rfl ⟨_, ?_, rfl, code, _, _, rfl, hB, hL, ?_, ?_⟩ <;> first | omega | exact andI_255 _)
theorem tmod_pick {x n : Int} (hx : 0 ≤ x) (hn : 0 < n) : 0 ≤ x.tmod n ∧ x.tmod n < n := ⟨Int.tmod_nonneg n hx, Int.tmod_lt_of_pos x hn⟩
theorem pick_ok {k : Nat} {cs : List D} {n : Int} (hC : Cur k cs) (hk : k ≤ 1099511627775) : FnC Tryz.prog 59 3 [.int .i64 n] cs (PostI (k + 2) fun x => 0 ≤ x ∧ (x = 0 ∨ x < n)) := by
  refine fn_okC G_ok Tryz.func59 rfl rfl hC.len fun ty => ?_; simp only [Tryz.ntmps59, List.length_cons, List.length_nil, Nat.reduceAdd, Nat.reduceSub, List.map_cons, List.map_nil, List.length_map, enm]
  repeat' (first | ((with_reducible first | (refine hK _ ?_; clear hK K) | refine stq fun K' hK' => ?_ | refine stc ?_); try simp only [go_sem]) | (with_reducible first | refine stp ?_ | (refine hK' _ ?_; clear hK' K') | refine kN kl59 fun K hK => ?_ | refine kO fun K hK => ?_) | ((first | refine CallK.cur (some 0) (next_ok (by assumption) (by omega)) rfl rfl rfl rfl rfl rfl ?_); rintro c2 _ ⟨x, hx, rfl, hC⟩; try simp only [mkB, go_sem]) | ((first | refine CallK.cur (some 0) (next_ok (by assumption) (by omega)) rfl rfl rfl rfl rfl rfl ?_); rintro c2 _ ⟨x, hx, rfl, hC⟩; try simp only [mkB, go_sem]) | (with_reducible refine pK_mk ?_ ?_ <;> (intro hc; (try simp only [go_sem]); (try simp at hc); try (exfalso; omega))) | with_reducible refine And.intro (by first | omega | (unfold inI; omega)) ?_)
  all_goals refine retC_ret (id := 0) _ rfl rfl (by simp [rowsOf, lk]) rfl (Cur.len (by assumption)) ⟨_, ?_, rfl, Cur.mono (by assumption) (by omega)⟩
  · omega
  · rename_i z hz _; have := tmod_pick (x := z * 256 + x) (n := n) (by omega) (by omega); omega
  · have := tmod_pick (x := x) (n := n) (by omega) (by omega); omega
theorem onec_ok {k : Nat} {cs : List D} {n : Int} (hC : Cur k cs) (hk : k ≤ 1099511627775) : FnC Tryz.prog 58 3 [.int .i64 n] cs (PostX (k + 2) (fun _ : Bool => True) fun b => [.d (.bool b)]) := by
  refine fn_okC G_ok Tryz.func58 rfl rfl hC.len fun ty => ?_; simp only [Tryz.ntmps58, List.length_cons, List.length_nil, Nat.reduceAdd, Nat.reduceSub, List.map_cons, List.map_nil, List.length_map, enm]
  repeat' (first | ((with_reducible first | (refine hK _ ?_; clear hK K) | refine stq fun K' hK' => ?_ | refine stc ?_); try simp only [go_sem]) | (with_reducible first | refine stp ?_ | (refine hK' _ ?_; clear hK' K') | refine kN kl58 fun K hK => ?_ | refine kO fun K hK => ?_) | ((first | refine CallK.cur (some 0) (pick_ok (by assumption) (by omega)) rfl rfl rfl rfl rfl rfl ?_); rintro c2 _ ⟨x, hx, rfl, hC⟩; try simp only [mkB, go_sem]) | ((first | refine CallK.cur (some 0) (pick_ok (by assumption) (by omega)) rfl rfl rfl rfl rfl rfl ?_); rintro c2 _ ⟨x, hx, rfl, hC⟩; try simp only [mkB, go_sem]) | (with_reducible refine pK_mk ?_ ?_ <;> (intro hc; (try simp only [go_sem]); (try simp at hc); try (exfalso; omega))) | with_reducible refine And.intro (by first | omega | (unfold inI; omega)) ?_)
  all_goals (refine retC_ret (id := 0) _ rfl rfl (by simp [rowsOf, lk]) rfl (Cur.len (by assumption)) ⟨_, ?_, rfl, Cur.mono (by assumption) (by omega)⟩; trivial)
theorem among_ok {k : Nat} {cs : List D} {l : List Int} (hC : Cur k cs) (hk : k ≤ 1099511627775) (h0 : 0 < l.length) (hl : l.length ≤ 1048576) : FnC Tryz.prog 71 3 [.lst 1 (l.map datI)] cs (PostI (k + 2) fun x => x ∈ l) := by
  refine fn_okC G_ok Tryz.func71 rfl rfl hC.len fun ty => ?_; simp only [Tryz.ntmps71, List.length_cons, List.length_nil, Nat.reduceAdd, Nat.reduceSub, List.map_cons, List.map_nil, List.length_map, enm]
  repeat' (first | ((with_reducible first | (refine hK _ ?_; clear hK K) | refine stq fun K' hK' => ?_ | refine stc ?_); try simp only [go_sem]) | (with_reducible first | refine stp ?_ | (refine hK' _ ?_; clear hK' K') | refine kN kl71 fun K hK => ?_ | refine kO fun K hK => ?_) | (with_reducible refine pK_mk ?_ ?_ <;> (intro hc; (try simp only [go_sem]); (try simp at hc); try (exfalso; omega))) | with_reducible refine And.intro (by first | omega | (unfold inI; omega)) ?_)
  refine CallK.cur (some 0) (pick_ok (by assumption) (by omega)) rfl rfl rfl rfl rfl rfl ?_; rintro c2 _ ⟨x, hx, rfl, hC⟩; try simp only [mkB, go_sem]
  obtain ⟨i, rfl⟩ : ∃ i : Nat, x = i := ⟨x.toNat, by omega⟩
  have hi : i < l.length := by omega
  have hg : l[i]? = some l[i] := List.getElem?_eq_getElem hi
  repeat' (first | ((with_reducible first | (refine hK _ ?_; clear hK K) | refine stq fun K' hK' => ?_ | refine stc ?_); try simp only [go_sem, hg, List.getElem?_map, Option.map_some, datI]) | (with_reducible first | refine stp ?_ | (refine hK' _ ?_; clear hK' K') | refine kN kl71 fun K hK => ?_ | refine kO fun K hK => ?_) | (with_reducible refine pK_mk ?_ ?_ <;> (intro hc; (try simp only [go_sem, hg, List.getElem?_map, Option.map_some, datI]); (try simp at hc); try (exfalso; omega))) | with_reducible refine And.intro (by first | omega | (unfold inI; omega)) ?_)
  all_goals (refine retC_ret (id := 0) _ rfl rfl (by simp [rowsOf, lk]) rfl (Cur.len (by assumption)) ⟨_, ?_, rfl, Cur.mono (by assumption) (by omega)⟩; exact List.getElem_mem hi)
end Go.Proofs.YthocihmhljmgdaaGreatDoor
namespace Go.Proofs.YthocihmhljmgdaaGreatDoor
open Go.ChangeShapes Go.WideShapes Go.ChangeAt Go.RowKit Go.Deep

def datY (n : Int) : List D := [.int .u8 n]
section
variable {H : Type} {enc : TypeId × Value → H} {w : World} {base : Nat} {spare : Nat → Bool} {held : Bool}
theorem OpenK.byte {P : Program} {t : TypeId} (ht : P.underlying t = some (.int .u8)) : OpenK enc P w base spare held datY (fun n => 0 ≤ n ∧ n ≤ 255) t 1 := by
  refine ⟨fun _ => rfl, fun fuel cs y h => ?_⟩
  obtain ⟨n, rfl, _, hw⟩ := DataW.trod_int ht h
  have hw' : (decide (IntKind.u8.min ≤ n) && decide (n ≤ IntKind.u8.max)) = true := hw
  rw [Bool.and_eq_true, decide_eq_true_eq, decide_eq_true_eq] at hw'
  have e1 : IntKind.u8.min = 0 := by decide
  have e2 : IntKind.u8.max = 255 := by decide
  refine ⟨n, ⟨by omega, by omega⟩, rfl, fun j d u hd hu => ?_⟩
  cases j with
  | zero => simp [datY] at hd hu; subst hd hu; exact .int _ _
  | succ j => simp [datY] at hd
set_option maxRecDepth 100000 in
theorem open_bytes : OpenK enc Tryz.prog w base spare held (datL 1 datY) (fun xs => xs.length ≤ maxLen ∧ ∀ x ∈ xs, 0 ≤ x ∧ x ≤ 255) 22 1 :=
  OpenK.slc (OpenK.byte Tryz.underlying5) Tryz.underlying22 (by kernel_rfl) (by decide)
end
theorem bytes_map {xs : List Int} (h : ∀ x ∈ xs, 0 ≤ x ∧ x ≤ 255) : Bytes (xs.map datY) := by
  intro e he
  obtain ⟨n, hn, rfl⟩ := List.mem_map.1 he
  exact ⟨n, rfl, h n hn⟩
/-- a cursor at its start -/
theorem cur0 {xs : List Int} (h : ∀ x ∈ xs, 0 ≤ x ∧ x ≤ 255) (hn : xs.length ≤ 9223372036854775807) : Cur 0 [.lst 1 (xs.map datY), .int .i64 0, .int .u64 0] :=
  ⟨_, 0, 0, rfl, bytes_map h, by simpa using hn, Int.le_refl _, Int.le_refl _⟩
theorem big_ok (xs ys : List Int) (hx : xs.length ≤ maxLen) (hy : ys.length ≤ maxLen) : FnEq Tryz.prog 5 [.d (.lst 1 (xs.map datY)), .d (.lst 1 (ys.map datY))] [.d (.bool (decide (1048576 < xs.length + ys.length)))] := by
  unfold maxLen at hx hy
  refine fn_ok G_ok Tryz.func5 rfl rfl ?_; simp only [Tryz.ntmps5, List.length_cons, List.length_nil, Nat.reduceAdd, Nat.reduceSub, enm]
  repeat' (first | ((with_reducible first | (refine hK _ ?_; clear hK K) | refine stq fun K' hK' => ?_ | refine stc ?_); try simp only [go_sem]) | (with_reducible first | refine stp ?_ | (refine hK' _ ?_; clear hK' K') | refine kN kl5 fun K hK => ?_ | refine kO fun K hK => ?_) | (refine xS rfl fun K' hK' => ?_; simp only [go_sem]) | (with_reducible refine pK_mk ?_ ?_ <;> (intro hc; (try simp only [go_sem]); (try simp at hc); try (exfalso; omega))) | with_reducible refine And.intro (by first | omega | (unfold inI; omega)) ?_)
  all_goals first
    | (exfalso; omega)
    | (refine retQ_ret rfl rfl (by simp [rowsOf, lk]) ?_; rw [decide_eq_true (by omega)])
    | (refine retQ_ret rfl rfl (by simp [rowsOf, lk]) ?_; rw [decide_eq_false (by omega)])
    | (refine retQ_ret rfl rfl (by simp [rowsOf, lk]) ?_; congr 3; rw [Bool.eq_iff_iff]; simp; omega)
theorem sameInts_ok (xs ys : List Int) (hn : xs.length ≤ 1048576) (hn' : ys.length ≤ 1048576) : FnEq Tryz.prog 14 [.d (.lst 1 (xs.map datI)), .d (.lst 1 (ys.map datI))] [.d (.bool (bP (xs = ys)))] := by
  refine fn_ok G_ok Tryz.func14 rfl rfl ?_; simp only [Tryz.ntmps14, List.length_cons, List.length_nil, Nat.reduceAdd, Nat.reduceSub, enm]
  repeat' (first | ((with_reducible first | (refine hK _ ?_; clear hK K) | refine stq fun K' hK' => ?_ | refine stc ?_); try simp only [go_sem]) | (with_reducible first | refine stp ?_ | (refine hK' _ ?_; clear hK' K') | refine kN kl14 fun K hK => ?_ | refine kO fun K hK => ?_) | refine iB ?_ | (with_reducible refine pw_seq_drawK kl14 G_ok mixed (by kernel_rfl) (fun K hK => ?_)) | (with_reducible refine pw_draw G_ok mixed (by kernel_rfl) ?_) | (with_reducible refine pK_mk ?_ ?_ <;> (intro hc; (try simp only [go_sem]); (try simp at hc); try (exfalso; omega))) | with_reducible refine And.intro (by first | omega | (unfold inI; omega)) ?_)
  · refine retQ_ret rfl rfl (by simp [rowsOf, lk]) ?_; rw [bP_false fun h => absurd (congrArg List.length h) (by omega)]
  · refine pw_loop_over [4, 5, 13, 14, 15, 16, 17, 18, 19, 20, 21, 22, 23, 24, 25] (fun k : Nat => [(13, .d (.int .i64 (k : Int)))]) (fun k : Nat => []) 0 (fun k : Nat => k ≤ xs.length ∧ xs.take k = ys.take k) (fun k : Nat => xs.length - k) 0 ⟨Nat.zero_le _, by simp⟩ (fits_mk [] (by simp [renL_d, bdL_d, sg, over, wipe, wl, memN, ins, rm, lk, fitFr, fit1, ren, renL, bd, bdL, app, fitHp, hget, renB, bdB] <;> omega)) ?_
    rintro k ⟨hk, hJ⟩
    simp only [over, wipe, wl, memN, ins, rm, if_true, if_false, Nat.reduceEqDiff, Bool.false_eq_true, reduceCtorEq]
    by_cases hlt : k < xs.length
    · have hx := List.getElem?_eq_getElem hlt
      generalize xs[k] = x at hx
      have hy := List.getElem?_eq_getElem (show k < ys.length by omega)
      generalize ys[k] = y at hy
      repeat' (first | ((with_reducible first | (refine hK _ ?_; clear hK K) | refine stq fun K' hK' => ?_ | refine stc ?_); try simp only [go_sem, List.getElem?_map, hx, hy, Option.map_some, datI]) | (with_reducible first | refine stp ?_ | (refine hK' _ ?_; clear hK' K') | refine kN kl14 fun K hK => ?_ | refine kO fun K hK => ?_) | refine iB ?_ | (with_reducible refine pw_seq_drawK kl14 G_ok mixed (by kernel_rfl) (fun K hK => ?_)) | (with_reducible refine pw_draw G_ok mixed (by kernel_rfl) ?_) | (with_reducible refine pK_mk ?_ ?_ <;> (intro hc; (try simp only [go_sem, List.getElem?_map, hx, hy, Option.map_some, datI]); (try simp at hc); try (exfalso; omega))) | with_reducible refine And.intro (by first | omega | (unfold inI; omega)) ?_)
      · refine retQ_ret rfl rfl (by simp [rowsOf, lk]) ?_; rw [bP_false fun h => by rw [h, hy] at hx; exact absurd (Option.some.inj hx).symm (by assumption)]
      · exact ⟨k + 1, ⟨by omega, by rw [take_snoc hx, take_snoc hy, hJ, hc]⟩, by omega, (fits_mk [] (by simp [renL_d, bdL_d, sg, over, wipe, wl, memN, ins, rm, lk, fitFr, fit1, ren, renL, bd, bdL, app, fitHp, hget, renB, bdB] <;> omega))⟩
    · repeat' (first | ((with_reducible first | (refine hK _ ?_; clear hK K) | refine stq fun K' hK' => ?_ | refine stc ?_); try simp only [go_sem]) | (with_reducible first | refine stp ?_ | (refine hK' _ ?_; clear hK' K') | refine kN kl14 fun K hK => ?_ | refine kO fun K hK => ?_) | refine iB ?_ | (with_reducible refine pw_seq_drawK kl14 G_ok mixed (by kernel_rfl) (fun K hK => ?_)) | (with_reducible refine pw_draw G_ok mixed (by kernel_rfl) ?_) | (with_reducible refine pK_mk ?_ ?_ <;> (intro hc; (try simp only [go_sem]); (try simp at hc); try (exfalso; omega))) | with_reducible refine And.intro (by first | omega | (unfold inI; omega)) ?_)
      refine retQ_ret rfl rfl (by simp [rowsOf, lk]) ?_; rw [bP_true (by rwa [List.take_of_length_le (by omega), List.take_of_length_le (by omega)] at hJ)]
end Go.Proofs.YthocihmhljmgdaaGreatDoor
