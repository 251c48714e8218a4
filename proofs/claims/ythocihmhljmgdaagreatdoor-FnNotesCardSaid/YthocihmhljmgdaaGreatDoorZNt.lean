/-
  Notes: when they are valid, which note of a skater holds in a segment; the program's functions and the reference's, in the abstract machine.
-/
import Derived.Test.YthocihmhljmgdaaGreatDoorZNoteW
import Derived.Test.YthocihmhljmgdaaGreatDoorZGl
set_option linter.unusedSimpArgs false
set_option linter.unusedVariables false
set_option maxHeartbeats 2000000
set_option maxRecDepth 100000
namespace Go.Proofs.YthocihmhljmgdaaGreatDoor
open Go.RowKit

def NoteD.dat (x : NoteD) : List D := [.int .i64 x.skater, .int .i64 x.before, .int .i64 x.inn]
/-- what is asked of a note but for its substitute's being among those who withdraw -/
def NoteLo (l : List NoteD) (k : Nat) (x : NoteD) : Prop := 1 ≤ x.skater ∧ x.skater ≤ 999 ∧ 0 ≤ x.before ∧ x.before ≤ 2 ∧ 0 ≤ x.inn ∧ x.inn ≤ 999 ∧ x.skater ∉ (l.take k).map NoteD.skater ∧ (x.inn = 0 ∨ (x.before ≤ 0 ∧ x.inn ∉ (l.take k).map NoteD.inn))
def NoteAt (l : List NoteD) (k : Nat) (x : NoteD) : Prop := NoteLo l k x ∧ (x.inn = 0 ∨ x.inn ∉ l.map NoteD.skater)
def NotesOk (l : List NoteD) : Prop := l.length ≤ 40 ∧ All (NoteAt l) l
theorem NotesOk.not_at {l : List NoteD} {k : Nat} {x : NoteD} (hx : l[k]? = some x) (hf : ¬ NoteAt l k x) : ¬ NotesOk l := fun h => hf (h.2 k x hx)
/-- those who come in -/
def insOf (l : List NoteD) : List Int := fm (fun x => decide (0 < x.inn)) NoteD.inn l
theorem insOf_mem {l : List NoteD} {n : Int} : n ∈ insOf l ↔ 0 < n ∧ n ∈ l.map NoteD.inn := by
  unfold insOf
  rw [fm_mem, List.mem_map]
  constructor
  · rintro ⟨x, hx, hp, rfl⟩; exact ⟨by simpa using hp, x, hx, rfl⟩
  · rintro ⟨hp, x, hx, rfl⟩; exact ⟨x, hx, by simpa using hp, rfl⟩
theorem notes_end {l : List NoteD} (h1 : Upto (NoteLo l) l l.length) (h2 : ∀ n ∈ insOf l, n ∉ l.map NoteD.skater) : bP (NotesOk l) = decide ((l.length : Int) ≤ 40) := by
  by_cases h : l.length ≤ 40
  · have hall : All (NoteAt l) l := fun k x hx => ⟨h1.all (Nat.le_refl _) k x hx, by
      have h3 := h1.all (Nat.le_refl _) k x hx
      by_cases h4 : x.inn = 0
      · exact .inl h4
      · exact .inr (h2 _ (insOf_mem.2 ⟨by have := h3.2.2.2.2.1; omega, List.mem_map.2 ⟨x, List.mem_of_getElem? hx, rfl⟩⟩))⟩
    rw [bP_true ⟨h, hall⟩]
    exact (decide_eq_true (by omega)).symm
  · rw [bP_false fun h' => h h'.1]; exact (decide_eq_false (by omega)).symm
theorem notes_end2 {l : List NoteD} {k : Nat} (h1 : Upto (NoteAt l) l k) (hk : l.length ≤ k) : bP (NotesOk l) = decide ((l.length : Int) ≤ 40) := by
  by_cases h : l.length ≤ 40
  · rw [bP_true ⟨h, h1.all hk⟩]; exact (decide_eq_true (by omega)).symm
  · rw [bP_false fun h' => h h'.1]; exact (decide_eq_false (by omega)).symm
/-- who withdraws, who comes in -/
def skB (l : List NoteD) (n : Int) : Bool := l.any fun x => x.skater == n
def inB (l : List NoteD) (n : Int) : Bool := l.any fun x => x.inn == n
theorem skB_iff {l : List NoteD} {n : Int} : skB l n = true ↔ n ∈ l.map NoteD.skater := by unfold skB; rw [List.any_eq_true, List.mem_map]; simp
theorem inB_iff {l : List NoteD} {n : Int} : inB l n = true ↔ n ∈ l.map NoteD.inn := by unfold inB; rw [List.any_eq_true, List.mem_map]; simp
theorem skB_not {l : List NoteD} {n : Int} (h : skB l n = false) : n ∉ l.map NoteD.skater := fun h' => Bool.noConfusion ((skB_iff.2 h').symm.trans h)
theorem inB_not {l : List NoteD} {n : Int} (h : inB l n = false) : n ∉ l.map NoteD.inn := fun h' => Bool.noConfusion ((inB_iff.2 h').symm.trans h)
theorem notes_not {l : List NoteD} {n : Int} (hn : n ∈ insOf l) (hs : n ∈ l.map NoteD.skater) : ¬ NotesOk l := by
  intro h
  obtain ⟨h1, h2⟩ := insOf_mem.1 hn
  obtain ⟨x, hx, rfl⟩ := List.mem_map.1 h2
  obtain ⟨k, hk⟩ := List.getElem?_of_mem hx
  rcases (h.2 k x hk).2 with h3 | h3
  · omega
  · exact h3 hs
theorem ins_take {l : List NoteD} {n : Int} (k : Nat) (h : 0 < n) : n ∈ insOf (l.take k) ↔ n ∈ (l.take k).map NoteD.inn := by rw [insOf_mem]; simp [h]
/-- the note of a skater that holds in a segment -/
def hdp (n seg : Int) (x : NoteD) : Bool := decide (x.skater = n) && decide (x.before ≤ seg)
def noteD0 : NoteD := ⟨0, 0, 0⟩
def heldBy (l : List NoteD) (n seg : Int) : NoteD := (l.find? (hdp n seg)).getD noteD0
def isHeld (l : List NoteD) (n seg : Int) : Bool := (l.find? (hdp n seg)).isSome
theorem find_at {α : Type} {p : α → Bool} : ∀ {l : List α} {k : Nat} {x : α}, l[k]? = some x → p x = true → (∀ y ∈ l.take k, p y = false) → l.find? p = some x
  | [], k, x, h, _, _ => by simp at h
  | y :: r, 0, x, h, hp, _ => by simp at h; subst h; simp [hp]
  | y :: r, k + 1, x, h, hp, hn => by
    have h1 : p y = false := hn y (by simp)
    rw [List.find?_cons, h1]
    exact find_at (l := r) (by simpa using h) hp fun z hz => hn z (by rw [List.take_succ_cons]; exact List.mem_cons_of_mem _ hz)
theorem find_none {α : Type} {p : α → Bool} {l : List α} (h : ∀ y ∈ l, p y = false) : l.find? p = none := by rw [List.find?_eq_none]; intro x hx; rw [h x hx]; simp
theorem isSegment_ok (n : Int) : FnEq Tryz.prog 46 [.d (.int .i64 n)] [.d (.bool (decide (0 ≤ n) && decide (n ≤ 2)))] := by
  refine fn_ok G_ok Tryz.func46 rfl rfl ?_; simp only [Tryz.ntmps46, List.length_cons, List.length_nil, Nat.reduceAdd, Nat.reduceSub, enm]
  repeat' (first | ((with_reducible first | (refine hK _ ?_; clear hK K) | refine stq fun K' hK' => ?_ | refine stc ?_); try simp only [go_sem]) | (with_reducible first | refine stp ?_ | (refine hK' _ ?_; clear hK' K') | refine kN kl46 fun K hK => ?_ | refine kO fun K hK => ?_) | ((with_reducible apply CallK.eq); (· with_reducible first | exact within_ok _ _ _); (· simp [RV.flat, D.sc, datI]); try simp only [go_sem]) | (with_reducible refine pK_mk ?_ ?_ <;> (intro hc; (try simp only [go_sem]); (try simp at hc); try (exfalso; omega))) | with_reducible refine And.intro (by first | omega | (unfold inI; omega)) ?_)
  refine retQ_ret rfl rfl (by simp [rowsOf, lk]) ?_; rfl
theorem wdSegment_ok (n : Int) : FnEq Tryz.prog 55 [.d (.int .i64 n)] [.d (.bool (decide (0 ≤ n) && decide (n ≤ 2)))] := by
  refine fn_ok G_ok Tryz.func55 rfl rfl ?_; simp only [Tryz.ntmps55, List.length_cons, List.length_nil, Nat.reduceAdd, Nat.reduceSub, enm]
  repeat' (first | ((with_reducible first | (refine hK _ ?_; clear hK K) | refine stq fun K' hK' => ?_ | refine stc ?_); try simp only [go_sem]) | (with_reducible first | refine stp ?_ | (refine hK' _ ?_; clear hK' K') | refine kN kl55 fun K hK => ?_ | refine kO fun K hK => ?_) | ((with_reducible apply CallK.eq); (· with_reducible first | exact l1In_ok _ _ _); (· simp [RV.flat, D.sc, datI]); try simp only [go_sem]) | (with_reducible refine pK_mk ?_ ?_ <;> (intro hc; (try simp only [go_sem]); (try simp at hc); try (exfalso; omega))) | with_reducible refine And.intro (by first | omega | (unfold inI; omega)) ?_)
  refine retQ_ret rfl rfl (by simp [rowsOf, lk]) ?_; rfl
theorem indexNote_ok (xs : List NoteD) (fid : Nat) (caps : List PV) (p : NoteD → Bool) (hn : xs.length ≤ 16777216) (hcap : CapOK caps) (hf : ∀ x : NoteD, FnEq Tryz.prog fid (.agg [.d (.int .i64 x.skater), .d (.int .i64 x.before), .d (.int .i64 x.inn)] :: caps) [.d (.bool (p x))]) :
    FnEq Tryz.prog 100 [.d (.lst 3 (xs.map NoteD.dat)), .fn fid caps] [.d (.int .i64 (fIx p xs 0))] := by
  refine fn_ok G_ok Tryz.func100 rfl rfl ?_; simp only [Tryz.ntmps100, List.length_cons, List.length_nil, Nat.reduceAdd, Nat.reduceSub, enm]
  repeat' (first | ((with_reducible first | (refine hK _ ?_; clear hK K) | refine stq fun K' hK' => ?_ | refine stc ?_); try simp only [go_sem]) | (with_reducible first | refine stp ?_ | (refine hK' _ ?_; clear hK' K') | refine kN kl100 fun K hK => ?_ | refine kO fun K hK => ?_) | refine iB ?_ | (with_reducible refine pK_mk ?_ ?_ <;> (intro hc; (try simp only [go_sem]); (try simp at hc); try (exfalso; omega))) | with_reducible refine And.intro (by first | omega | (unfold inI; omega)) ?_)
  refine pw_loop_over [4, 5, 8, 9, 10, 11, 12, 13, 14, 15, 16, 17, 18] (fun k : Nat => [(8, .d (.int .i64 (k : Int)))]) (fun k : Nat => []) 0 (fun k : Nat => k ≤ xs.length ∧ ∀ y ∈ xs.take k, p y = false) (fun k : Nat => xs.length - k) 0 ⟨Nat.zero_le _, by simp⟩ (fits_mk [] (by simp [renL_d, bdL_d, sg, over, wipe, wl, memN, ins, rm, lk, fitFr, fit1, ren, renL, bd, bdL, app, fitHp, hget, renB, bdB, hcap.ren, hcap.bd] <;> omega)) ?_
  rintro k ⟨hk, hJ⟩
  simp only [over, wipe, wl, memN, ins, rm, if_true, if_false, Nat.reduceEqDiff, Bool.false_eq_true, reduceCtorEq]
  by_cases hlt : k < xs.length
  · have hx := List.getElem?_eq_getElem hlt
    generalize xs[k] = x at hx
    repeat' (first | ((with_reducible first | (refine hK _ ?_; clear hK K) | refine stq fun K' hK' => ?_ | refine stc ?_); try simp only [go_sem, List.getElem?_map, hx, Option.map_some, NoteD.dat, hcap.t2]) | (with_reducible first | refine stp ?_ | (refine hK' _ ?_; clear hK' K') | refine kN kl100 fun K hK => ?_ | refine kO fun K hK => ?_) | ((with_reducible apply CallK.eq); (· with_reducible first | exact hf x); (· simp [RV.flat, D.sc, datI]); try simp only [go_sem, List.getElem?_map, hx, Option.map_some, NoteD.dat, hcap.t2]) | refine iB ?_ | (with_reducible refine pK_mk ?_ ?_ <;> (intro hc; (try simp only [go_sem, List.getElem?_map, hx, Option.map_some, NoteD.dat, hcap.t2]); (try simp at hc); try (exfalso; omega))) | with_reducible refine And.intro (by first | omega | (unfold inI; omega)) ?_)
    · refine retQ_ret rfl rfl (by simp [rowsOf, lk]) ?_; rw [fIx_at (i := 0) hx hc hJ]; simp
    · exact ⟨k + 1, ⟨by omega, none_snoc hJ hx hc⟩, by omega, (fits_mk [] (by simp [renL_d, bdL_d, sg, over, wipe, wl, memN, ins, rm, lk, fitFr, fit1, ren, renL, bd, bdL, app, fitHp, hget, renB, bdB, hcap.ren, hcap.bd] <;> omega))⟩
  · repeat' (first | ((with_reducible first | (refine hK _ ?_; clear hK K) | refine stq fun K' hK' => ?_ | refine stc ?_); try simp only [go_sem]) | (with_reducible first | refine stp ?_ | (refine hK' _ ?_; clear hK' K') | refine kN kl100 fun K hK => ?_ | refine kO fun K hK => ?_) | refine iB ?_ | (with_reducible refine pK_mk ?_ ?_ <;> (intro hc; (try simp only [go_sem]); (try simp at hc); try (exfalso; omega))) | with_reducible refine And.intro (by first | omega | (unfold inI; omega)) ?_)
    refine retQ_ret rfl rfl (by simp [rowsOf, lk]) ?_; rw [fIx_none (none_all hJ (by omega))]
theorem containsNote_ok (xs : List NoteD) (fid : Nat) (caps : List PV) (p : NoteD → Bool) (hn : xs.length ≤ 16777216) (hcap : CapOK caps) (hf : ∀ x : NoteD, FnEq Tryz.prog fid (.agg [.d (.int .i64 x.skater), .d (.int .i64 x.before), .d (.int .i64 x.inn)] :: caps) [.d (.bool (p x))]) :
    FnEq Tryz.prog 49 [.d (.lst 3 (xs.map NoteD.dat)), .fn fid caps] [.d (.bool (xs.any p))] := by
  refine fn_ok G_ok Tryz.func49 rfl rfl ?_; simp only [Tryz.ntmps49, List.length_cons, List.length_nil, Nat.reduceAdd, Nat.reduceSub, enm]
  repeat' (first | ((with_reducible first | (refine hK _ ?_; clear hK K) | refine stq fun K' hK' => ?_ | refine stc ?_); try simp only [go_sem, hcap.t1]) | (with_reducible first | refine stp ?_ | (refine hK' _ ?_; clear hK' K') | refine kN kl49 fun K hK => ?_ | refine kO fun K hK => ?_) | ((with_reducible apply CallK.eq); (· with_reducible first | exact indexNote_ok xs fid caps p hn hcap hf); (· simp [RV.flat, D.sc, datI]); try simp only [go_sem, hcap.t1]) | (with_reducible refine pK_mk ?_ ?_ <;> (intro hc; (try simp only [go_sem, hcap.t1]); (try simp at hc); try (exfalso; omega))) | with_reducible refine And.intro (by first | omega | (unfold inI; omega)) ?_)
  refine retQ_ret rfl rfl (by simp [rowsOf, lk]) ?_; rw [fIx_any]
theorem withdraws1_ok (x : NoteD) (n : Int) : FnEq Tryz.prog 99 [.agg [.d (.int .i64 x.skater), .d (.int .i64 x.before), .d (.int .i64 x.inn)], .eptr [.int .i64 n]] [.d (.bool (x.skater == n))] := by
  refine fn_ok G_ok Tryz.func99 rfl rfl ?_; simp only [Tryz.ntmps99, List.length_cons, List.length_nil, Nat.reduceAdd, Nat.reduceSub, enm]
  repeat' (first | ((with_reducible first | (refine hK _ ?_; clear hK K) | refine stq fun K' hK' => ?_ | refine stc ?_); try simp only [go_sem]) | (with_reducible first | refine stp ?_ | (refine hK' _ ?_; clear hK' K') | refine kN kl99 fun K hK => ?_ | refine kO fun K hK => ?_) | (with_reducible refine pK_mk ?_ ?_ <;> (intro hc; (try simp only [go_sem]); (try simp at hc); try (exfalso; omega))) | with_reducible refine And.intro (by first | omega | (unfold inI; omega)) ?_)
  refine retQ_ret rfl rfl (by simp [rowsOf, lk]) ?_; rfl
theorem withdraws_ok (xs : List NoteD) (n : Int) (hn : xs.length ≤ 16777216) : FnEq Tryz.prog 48 [.d (.lst 3 (xs.map NoteD.dat)), .d (.int .i64 n)] [.d (.bool (skB xs n))] := by
  refine fn_ok G_ok Tryz.func48 rfl rfl ?_; simp only [Tryz.ntmps48, List.length_cons, List.length_nil, Nat.reduceAdd, Nat.reduceSub, enm]
  repeat' (first | ((with_reducible first | (refine hK _ ?_; clear hK K) | refine stq fun K' hK' => ?_ | refine stc ?_); try simp only [go_sem]) | (with_reducible first | refine stp ?_ | (refine hK' _ ?_; clear hK' K') | refine kN kl48 fun K hK => ?_ | refine kO fun K hK => ?_) | ((with_reducible apply CallK.eq); (· with_reducible first | exact containsNote_ok xs _ _ _ hn (eptrCap _) (fun x => withdraws1_ok x n)); (· simp [RV.flat, D.sc, datI]); try simp only [go_sem]) | (with_reducible refine pK_mk ?_ ?_ <;> (intro hc; (try simp only [go_sem]); (try simp at hc); try (exfalso; omega))) | with_reducible refine And.intro (by first | omega | (unfold inI; omega)) ?_)
  refine retQ_ret rfl rfl (by simp [rowsOf, lk]) ?_; rfl
theorem AreNotes1_ok (x y : NoteD) : FnEq Tryz.prog 50 [.agg [.d (.int .i64 x.skater), .d (.int .i64 x.before), .d (.int .i64 x.inn)], .eptr [.int .i64 y.skater, .int .i64 y.before, .int .i64 y.inn]] [.d (.bool (x.inn == y.inn))] := by
  refine fn_ok G_ok Tryz.func50 rfl rfl ?_; simp only [Tryz.ntmps50, List.length_cons, List.length_nil, Nat.reduceAdd, Nat.reduceSub, enm]
  repeat' (first | ((with_reducible first | (refine hK _ ?_; clear hK K) | refine stq fun K' hK' => ?_ | refine stc ?_); try simp only [go_sem]) | (with_reducible first | refine stp ?_ | (refine hK' _ ?_; clear hK' K') | refine kN kl50 fun K hK => ?_ | refine kO fun K hK => ?_) | (with_reducible refine pK_mk ?_ ?_ <;> (intro hc; (try simp only [go_sem]); (try simp at hc); try (exfalso; omega))) | with_reducible refine And.intro (by first | omega | (unfold inI; omega)) ?_)
  refine retQ_ret rfl rfl (by simp [rowsOf, lk]) ?_; rfl
theorem containsIn_ok (xs : List NoteD) (y : NoteD) (hn : xs.length ≤ 16777216) : FnEq Tryz.prog 49 [.d (.lst 3 (xs.map NoteD.dat)), .fn 50 [.eptr [.int .i64 y.skater, .int .i64 y.before, .int .i64 y.inn]]] [.d (.bool (inB xs y.inn))] :=
  containsNote_ok xs _ _ _ hn (eptrCap _) (fun x => AreNotes1_ok x y)

abbrev ansAreNotes (l : List NoteD) : Prop := NotesOk l
theorem impl_AreNotes_ok (xs0 : List NoteD) (hn0 : xs0.length ≤ 1048576) : FnEq Tryz.prog 9 [.d (.lst 3 (xs0.map NoteD.dat))] [.d (.bool (bP (ansAreNotes xs0)))] := by
  refine fn_ok G_ok Tryz.func9 rfl rfl ?_; simp only [Tryz.ntmps9, List.length_cons, List.length_nil, Nat.reduceAdd, Nat.reduceSub, enm]
  generalize hl : xs0 = l
  subst hl
  repeat' (first | ((with_reducible first | (refine hK _ ?_; clear hK K) | refine stq fun K' hK' => ?_ | refine stc ?_); try simp only [go_sem]) | (with_reducible first | refine stp ?_ | (refine hK' _ ?_; clear hK' K') | refine kN kl9 fun K hK => ?_ | refine kO fun K hK => ?_) | (refine xS rfl fun K' hK' => ?_; simp only [go_sem]) | (refine qS rfl fun K' hK' => ?_; simp only [go_sem]) | refine iB ?_ | (with_reducible refine pw_seq_drawK kl9 G_ok mixed (by kernel_rfl) (fun K hK => ?_)) | (with_reducible refine pw_draw G_ok mixed (by kernel_rfl) ?_) | (with_reducible refine pK_mk ?_ ?_ <;> (intro hc; (try simp only [go_sem]); (try simp at hc); try (exfalso; omega))) | with_reducible refine And.intro (by first | omega | (unfold inI; omega)) ?_)
  refine pw_loop_over [2, 3, 4, 7, 8, 9, 10, 11, 12, 13, 14, 15, 16, 17, 18, 19, 20, 21, 22, 23, 24, 25, 26, 27, 28, 29, 30, 31, 32, 33, 34, 35, 36, 37, 38, 39, 40, 41, 42, 43, 44, 45, 46, 47, 48, 49, 50, 51, 52, 53, 54, 55] (fun k : Nat => [(7, .d (.int .i64 (k : Int)))]) (fun k : Nat => []) 0 (fun k : Nat => k ≤ xs0.length ∧ Upto (NoteAt xs0) xs0 k) (fun k : Nat => xs0.length - k) 0 ⟨Nat.zero_le _, Upto.zero _ _⟩ (fits_mk [] (by simp [renL_d, bdL_d, sg, over, wipe, wl, memN, ins, rm, lk, fitFr, fit1, ren, renL, bd, bdL, app, fitHp, hget, renB, bdB] <;> omega)) ?_
  rintro k ⟨hk, hJ⟩
  simp only [over, wipe, wl, memN, ins, rm, if_true, if_false, Nat.reduceEqDiff, Bool.false_eq_true, reduceCtorEq]
  by_cases hlt : k < xs0.length
  · have hx := List.getElem?_eq_getElem hlt
    generalize xs0[k] = x at hx
    repeat' (first | ((with_reducible first | (refine hK _ ?_; clear hK K) | refine stq fun K' hK' => ?_ | refine stc ?_); try simp only [go_sem, List.getElem?_map, hx, Option.map_some, NoteD.dat, ← List.map_take]) | (with_reducible first | refine stp ?_ | (refine hK' _ ?_; clear hK' K') | refine kN kl9 fun K hK => ?_ | refine kO fun K hK => ?_) | (refine xS rfl fun K' hK' => ?_; simp only [go_sem, List.getElem?_map, hx, Option.map_some, NoteD.dat, ← List.map_take]) | (refine qS rfl fun K' hK' => ?_; simp only [go_sem, List.getElem?_map, hx, Option.map_some, NoteD.dat, ← List.map_take]) | ((with_reducible first | apply CallK.eq | apply CallQ.eqs); (· with_reducible first | exact isSkater_ok _ | exact isSegment_ok _ | exact within_ok _ _ _ | exact withdraws_ok (xs0.take k) _ (by simp; omega) | exact withdraws_ok xs0 _ (by omega) | exact containsIn_ok (xs0.take k) x (by simp; omega)); (· first | exact rfl | (simp [RV.flat, D.sc, datI]; done)); try simp only [go_sem, List.getElem?_map, hx, Option.map_some, NoteD.dat, ← List.map_take]) | refine iB ?_ | (with_reducible refine pw_seq_drawK kl9 G_ok mixed (by kernel_rfl) (fun K hK => ?_)) | (with_reducible refine pw_draw G_ok mixed (by kernel_rfl) ?_) | (with_reducible refine pK_mk ?_ ?_ <;> (intro hc; (try simp only [go_sem, List.getElem?_map, hx, Option.map_some, NoteD.dat, ← List.map_take]); (try simp at hc); try (exfalso; omega))) | with_reducible refine And.intro (by first | omega | (unfold inI; omega)) ?_)
    all_goals first
      | (refine retQ_ret rfl rfl (by simp [rowsOf, lk]) ?_; rw [bP_false (NotesOk.not_at hx (by rintro ⟨⟨h1, h2, h3, h4, h5, h6, h7, h8⟩, h9⟩; first | omega | exact h7 (skB_iff.1 (by assumption)) | exact (h9.resolve_left (by assumption)) (skB_iff.1 (by assumption)) | exact (h8.resolve_left (by assumption)).2 (inB_iff.1 (by assumption))))])
      | exact ⟨k + 1, ⟨by omega, hJ.succ hx ⟨⟨by omega, by omega, by omega, by omega, by omega, by omega, skB_not (by assumption), by first | exact .inl (by assumption) | exact .inr ⟨by omega, inB_not (by assumption)⟩⟩, by first | exact .inl (by assumption) | exact .inr (skB_not (by assumption))⟩⟩, by omega, (fits_mk [] (by simp [renL_d, bdL_d, sg, over, wipe, wl, memN, ins, rm, lk, fitFr, fit1, ren, renL, bd, bdL, app, fitHp, hget, renB, bdB] <;> omega))⟩
  · repeat' (first | ((with_reducible first | (refine hK _ ?_; clear hK K) | refine stq fun K' hK' => ?_ | refine stc ?_); try simp only [go_sem]) | (with_reducible first | refine stp ?_ | (refine hK' _ ?_; clear hK' K') | refine kN kl9 fun K hK => ?_ | refine kO fun K hK => ?_) | (refine xS rfl fun K' hK' => ?_; simp only [go_sem]) | (refine qS rfl fun K' hK' => ?_; simp only [go_sem]) | refine iB ?_ | (with_reducible refine pw_seq_drawK kl9 G_ok mixed (by kernel_rfl) (fun K hK => ?_)) | (with_reducible refine pw_draw G_ok mixed (by kernel_rfl) ?_) | (with_reducible refine pK_mk ?_ ?_ <;> (intro hc; (try simp only [go_sem]); (try simp at hc); try (exfalso; omega))) | with_reducible refine And.intro (by first | omega | (unfold inI; omega)) ?_)
    refine retQ_ret rfl rfl (by simp [rowsOf, lk]) ?_
    rw [notes_end2 hJ (by omega)]
end Go.Proofs.YthocihmhljmgdaaGreatDoor

/-
  Words on texts of numbers and of notes: written, read, and that both fit. No program is named here.
-/
namespace Go.Proofs.YthocihmhljmgdaaGreatDoor

/-- a digit -/
def dgt (d : Nat) : UInt8 := UInt8.ofNat (48 + d)
theorem dgt_nat {d : Nat} (h : d < 10) : (dgt d).toNat = 48 + d := by unfold dgt; simp; omega
/-- a number's text -/
def numL (n : Nat) : List UInt8 := if n < 10 then [dgt n] else numL (n / 10) ++ [dgt (n % 10)]
decreasing_by omega
theorem numL_lt {n : Nat} (h : n < 10) : numL n = [dgt n] := by rw [numL, if_pos h]
theorem numL_ge {n : Nat} (h : 10 ≤ n) : numL n = numL (n / 10) ++ [dgt (n % 10)] := by rw [numL, if_neg (by omega)]
/-- a text's number -/
def readL (l : List UInt8) : Nat := l.foldl (fun a b => 10 * a + (b.toNat - 48)) 0
theorem readL_nil : readL [] = 0 := rfl
theorem readL_snoc (l : List UInt8) (b : UInt8) : readL (l ++ [b]) = 10 * readL l + (b.toNat - 48) := by simp [readL]
def isDig (b : UInt8) : Prop := 48 ≤ b.toNat ∧ b.toNat ≤ 57
theorem dgt_dig {d : Nat} (h : d < 10) : isDig (dgt d) := by unfold isDig; rw [dgt_nat h]; omega
theorem dig_dgt {b : UInt8} (h : isDig b) : dgt (b.toNat - 48) = b := by
  apply UInt8.toNat_inj.1
  unfold isDig at h
  rw [dgt_nat (by omega)]
  omega
/-- a number's text as it should be: digits, no nought ahead -/
def canon (l : List UInt8) : Prop := (∀ b ∈ l, isDig b) ∧ (l.length = 1 ∨ (1 < l.length ∧ l[0]? ≠ some 48))
theorem numL_dig (n : Nat) : ∀ b ∈ numL n, isDig b := by
  by_cases h : n < 10
  · rw [numL_lt h]; intro b hb; rw [List.mem_singleton] at hb; subst hb; exact dgt_dig h
  · rw [numL_ge (by omega)]
    intro b hb
    rcases List.mem_append.1 hb with hb | hb
    · exact numL_dig (n / 10) b hb
    · rw [List.mem_singleton] at hb; subst hb; exact dgt_dig (by omega)
termination_by n
decreasing_by omega
theorem numL_pos (n : Nat) : 0 < (numL n).length := by
  by_cases h : n < 10
  · rw [numL_lt h]; simp
  · rw [numL_ge (by omega)]; simp
theorem numL_head (n : Nat) (hn : 0 < n) : (numL n)[0]? ≠ some 48 := by
  by_cases h : n < 10
  · rw [numL_lt h]
    intro h'
    have : dgt n = 48 := by simpa using h'
    have h2 := dgt_nat h
    rw [this] at h2
    simp at h2
    omega
  · rw [numL_ge (by omega), List.getElem?_append_left (numL_pos _)]
    exact numL_head (n / 10) (by omega)
termination_by n
decreasing_by omega
theorem numL_canon (n : Nat) : canon (numL n) := by
  refine ⟨numL_dig n, ?_⟩
  by_cases h : n < 10
  · left; rw [numL_lt h]; rfl
  · right
    refine ⟨?_, numL_head n (by omega)⟩
    rw [numL_ge (by omega), List.length_append]
    have := numL_pos (n / 10)
    simp; omega
theorem readL_numL (n : Nat) : readL (numL n) = n := by
  by_cases h : n < 10
  · rw [numL_lt h, ← List.nil_append [dgt n], readL_snoc, readL_nil, dgt_nat h]; omega
  · rw [numL_ge (by omega), readL_snoc, readL_numL (n / 10), dgt_nat (by omega)]; omega
termination_by n
decreasing_by omega
theorem snoc_ind {α : Type} {p : List α → Prop} (h0 : p []) (h1 : ∀ r a, p r → p (r ++ [a])) (l : List α) : p l := by
  have h : ∀ r : List α, p r.reverse := by
    intro r
    induction r with
    | nil => exact h0
    | cons a r ih => rw [List.reverse_cons]; exact h1 _ _ ih
  have := h l.reverse
  rwa [List.reverse_reverse] at this
theorem numL_readL_aux (l : List UInt8) : ∀ b, (∀ x ∈ l ++ [b], isDig x) → (l = [] ∨ (l ++ [b])[0]? ≠ some 48) → numL (readL (l ++ [b])) = l ++ [b] := by
  induction l using snoc_ind with
  | h0 =>
    intro b hd _
    have hb := hd b (by simp)
    rw [readL_snoc, readL_nil]
    have h2 := hb
    unfold isDig at h2
    rw [numL_lt (by omega), show 10 * 0 + (b.toNat - 48) = b.toNat - 48 by omega, dig_dgt hb]
    rfl
  | h1 r a ih =>
    intro b hd hh
    have hb := hd b (by simp)
    have hda : ∀ x ∈ r ++ [a], isDig x := fun x hx => hd x (List.mem_append_left _ hx)
    have hne : (r ++ [a])[0]? ≠ some 48 := by
      rcases hh with h | h
      · simp at h
      · rwa [List.getElem?_append_left (by simp)] at h
    have e := ih a hda (.inr hne)
    have hpos : 0 < readL (r ++ [a]) := by
      rcases Nat.eq_zero_or_pos (readL (r ++ [a])) with h0 | h0
      · rw [h0, numL_lt (by omega)] at e
        rw [← e] at hne
        exact absurd rfl hne
      · exact h0
    have h2 := hb
    unfold isDig at h2
    rw [readL_snoc, numL_ge (by omega), show (10 * readL (r ++ [a]) + (b.toNat - 48)) / 10 = readL (r ++ [a]) by omega, show (10 * readL (r ++ [a]) + (b.toNat - 48)) % 10 = b.toNat - 48 by omega, e, dig_dgt hb]
theorem numL_readL {l : List UInt8} (h : canon l) : numL (readL l) = l := by
  rcases List.eq_nil_or_concat l with rfl | ⟨r, b, rfl⟩
  · have := h.2; simp at this
  · rw [List.concat_eq_append] at h ⊢
    refine numL_readL_aux r b h.1 ?_
    rcases h.2 with h2 | h2
    · left
      simp at h2
      exact h2
    · exact .inr h2.2
theorem readL_lt {l : List UInt8} (hd : ∀ b ∈ l, isDig b) : readL l < 10 ^ l.length := by
  induction l using snoc_ind with
  | h0 => simp [readL]
  | h1 r a ih =>
    have h1 := ih fun x hx => hd x (List.mem_append_left _ hx)
    have h2 := hd a (by simp)
    unfold isDig at h2
    rw [readL_snoc, List.length_append, List.length_singleton, Nat.pow_succ]
    omega
theorem numL_len {n : Nat} (h : n < 1000) : (numL n).length ≤ 3 := by
  by_cases h1 : n < 10
  · rw [numL_lt h1]; simp
  · rw [numL_ge (by omega)]
    by_cases h2 : n / 10 < 10
    · rw [numL_lt h2]; simp
    · rw [numL_ge (by omega), numL_lt (show n / 10 / 10 < 10 by omega)]; simp

/-! cutting -/
theorem splL_app {c : UInt8} : ∀ {p : List UInt8} (r : List UInt8), c ∉ p → splL c (p ++ c :: r) = p :: splL c r
  | [], r, _ => by rw [List.nil_append, splL_eq]
  | b :: p, r, h => by
    have hb : b ≠ c := fun e => h (by rw [e]; exact List.mem_cons_self)
    rw [List.cons_append, splL_ne hb, splL_app r (fun hm => h (List.mem_cons_of_mem _ hm))]
    rfl
theorem splL_no {c : UInt8} : ∀ {p : List UInt8}, c ∉ p → splL c p = [p]
  | [], _ => rfl
  | b :: p, h => by
    have hb : b ≠ c := fun e => h (by rw [e]; exact List.mem_cons_self)
    rw [splL_ne hb, splL_no (fun hm => h (List.mem_cons_of_mem _ hm))]
    rfl
theorem splL_last (c : UInt8) : ∀ l : List UInt8, splL c (l ++ [c]) = splL c l ++ [[]]
  | [] => by rw [List.nil_append, splL_eq]; rfl
  | b :: l => by
    by_cases h : b = c
    · subst h; rw [List.cons_append, splL_eq, splL_eq, splL_last b l]; rfl
    · rw [List.cons_append, splL_ne h, splL_ne h, splL_last c l]
      have := splL_some c l
      cases hs : splL c l with
      | nil => exact absurd hs this
      | cons p ps => rfl
/-- pieces put together again -/
def joinL (c : UInt8) : List (List UInt8) → List UInt8
  | [] => []
  | [p] => p
  | p :: q :: r => p ++ c :: joinL c (q :: r)
theorem join_onto (c b : UInt8) (x : List (List UInt8)) : joinL c (onto [b] x) = b :: joinL c x := by
  match x with
  | [] => rfl
  | [p] => rfl
  | p :: q :: r => rfl
theorem join_splL (c : UInt8) : ∀ l : List UInt8, joinL c (splL c l) = l
  | [] => rfl
  | b :: l => by
    have ih := join_splL c l
    by_cases h : b = c
    · subst h
      rw [splL_eq]
      have := splL_some b l
      cases hs : splL b l with
      | nil => exact absurd hs this
      | cons p ps => rw [joinL, ← hs, ih]; rfl
    · rw [splL_ne h, join_onto, ih]

/-! notes -/
def numI (z : Int) : List UInt8 := numL z.toNat
/-- a note's line -/
def lineL (x : NoteD) : List UInt8 := numI x.skater ++ 32 :: (numI x.before ++ 32 :: numI x.inn)
def textL : List NoteD → List UInt8
  | [] => []
  | x :: l => lineL x ++ 10 :: textL l
theorem textL_app : ∀ (a b : List NoteD), textL (a ++ b) = textL a ++ textL b
  | [], b => rfl
  | x :: a, b => by rw [List.cons_append, textL, textL, textL_app a b]; simp
theorem no_dig {c : UInt8} (hc : c.toNat < 48) (n : Int) : c ∉ numI n := fun h => by have := numL_dig _ c h; unfold isDig at this; omega
theorem no_line (x : NoteD) : (10 : UInt8) ∉ lineL x := by
  have h1 := fun n => no_dig (c := 10) (by decide) n
  unfold lineL
  simp [h1]
theorem line_words (x : NoteD) : splL 32 (lineL x) = [numI x.skater, numI x.before, numI x.inn] := by
  have h1 := fun n => no_dig (c := 32) (by decide) n
  unfold lineL
  rw [splL_app _ (h1 _), splL_app _ (h1 _), splL_no (h1 _)]
theorem text_lines : ∀ l : List NoteD, splL 10 (textL l) = l.map lineL ++ [[]]
  | [] => rfl
  | x :: l => by rw [textL, splL_app _ (no_line x), text_lines l]; rfl
/-- what is bounded of valid notes -/
def NoteFit (x : NoteD) : Prop := 0 ≤ x.skater ∧ x.skater ≤ 999 ∧ 0 ≤ x.before ∧ x.before ≤ 999 ∧ 0 ≤ x.inn ∧ x.inn ≤ 999
theorem NotesOk.fit {l : List NoteD} (h : NotesOk l) : ∀ x ∈ l, NoteFit x := by
  intro x hx
  obtain ⟨k, hk⟩ := List.getElem?_of_mem hx
  have h1 := (h.2 k x hk).1
  unfold NoteLo at h1
  unfold NoteFit
  omega
/-- the reference's reading of a word -/
noncomputable def rdS (w : List UInt8) : Int := by
  classical exact if canon w ∧ w.length ≤ 6 then (readL w : Int) else -1
theorem rdS_yes {w : List UInt8} (h : canon w ∧ w.length ≤ 6) : rdS w = (readL w : Int) := by unfold rdS; rw [if_pos h]
theorem rdS_no {w : List UInt8} (h : ¬ (canon w ∧ w.length ≤ 6)) : rdS w = -1 := by unfold rdS; rw [if_neg h]
theorem rdS_num {n : Int} (h0 : 0 ≤ n) (h : n ≤ 999) : rdS (numI n) = n := by
  have h1 := numL_len (n := n.toNat) (by omega)
  unfold numI
  rw [rdS_yes ⟨numL_canon _, by omega⟩, readL_numL]
  omega
noncomputable def noteS (ws : List (List UInt8)) : NoteD := ⟨rdS (ws.getD 0 []), rdS (ws.getD 1 []), rdS (ws.getD 2 [])⟩
theorem noteS_line {x : NoteD} (h : NoteFit x) : noteS (splL 32 (lineL x)) = x := by
  unfold NoteFit at h
  rw [line_words]
  unfold noteS
  simp only [List.getD_cons_zero, List.getD_cons_succ]
  rw [rdS_num (by omega) (by omega), rdS_num (by omega) (by omega), rdS_num (by omega) (by omega)]
theorem text_inj {l l' : List NoteD} (h : ∀ x ∈ l, NoteFit x) (h' : ∀ x ∈ l', NoteFit x) (e : textL l = textL l') : l = l' := by
  have e1 := congrArg (splL 10) e
  rw [text_lines, text_lines] at e1
  have e2 := List.append_cancel_right e1
  have e3 := congrArg (List.map fun w => noteS (splL 32 w)) e2
  rw [List.map_map, List.map_map] at e3
  have k : ∀ l : List NoteD, (∀ x ∈ l, NoteFit x) → l.map ((fun w => noteS (splL 32 w)) ∘ lineL) = l := fun l hl => by
    conv => rhs; rw [← List.map_id l]
    exact List.map_congr_left fun x hx => noteS_line (hl x hx)
  rwa [k l h, k l' h'] at e3
/-- the notes that a text tells -/
noncomputable def ansP (s : List UInt8) : Option (List NoteD) := by
  classical exact if h : ∃ l, NotesOk l ∧ textL l = s then some h.choose else none
theorem ansP_some {s : List UInt8} {l : List NoteD} (h : NotesOk l) (e : textL l = s) : ansP s = some l := by
  have hx : ∃ l, NotesOk l ∧ textL l = s := ⟨l, h, e⟩
  unfold ansP
  rw [dif_pos hx]
  have hc := hx.choose_spec
  rw [text_inj hc.1.fit h.fit (hc.2.trans e.symm)]
theorem ansP_none {s : List UInt8} (h : ∀ l, NotesOk l → textL l ≠ s) : ansP s = none := by
  unfold ansP
  rw [dif_neg fun ⟨l, h1, h2⟩ => h l h1 h2]
/-- the reference: too many lines -/
theorem spec_many {s : List UInt8} (h : 41 < (splL 10 s).length) : ansP s = none := ansP_none fun l hl e => by
  rw [← e, text_lines, List.length_append, List.length_map] at h
  have := hl.1
  simp at h
  omega
/-- a line that has not three words -/
theorem spec_word {s : List UInt8} {k : Nat} {w : List UInt8} (hk : k + 1 < (splL 10 s).length) (hw : (splL 10 s)[k]? = some w) (h3 : (splL 32 w).length ≠ 3) : ansP s = none := ansP_none fun l hl e => by
  rw [← e, text_lines] at hw hk
  rw [List.length_append, List.length_map, List.length_singleton] at hk
  rw [List.getElem?_append_left (by rw [List.length_map]; omega), List.getElem?_map] at hw
  cases hx : l[k]? with
  | none => rw [hx] at hw; cases hw
  | some x =>
    rw [hx] at hw
    cases hw
    rw [line_words] at h3
    exact h3 rfl
/-- the reference: what it has read is the answer or there is none -/
theorem spec_no {s : List UInt8} (h : ¬ (NotesOk ((splL 10 s).dropLast.map fun w => noteS (splL 32 w)) ∧ textL ((splL 10 s).dropLast.map fun w => noteS (splL 32 w)) = s)) : ansP s = none := ansP_none fun l hl e => by
  have e2 : (splL 10 s).dropLast.map (fun w => noteS (splL 32 w)) = l := by
    rw [← e, text_lines, List.dropLast_concat, List.map_map]
    conv => rhs; rw [← List.map_id l]
    exact List.map_congr_left fun x hx => noteS_line (hl.fit x hx)
  rw [e2] at h
  exact h ⟨hl, e⟩
/-- the program's reading of a word -/
noncomputable def natV (w : List UInt8) : Option Int := by
  classical exact if canon w ∧ w.length ≤ 12 then some (readL w : Int) else none
theorem natV_yes {w : List UInt8} (h : canon w ∧ w.length ≤ 12) : natV w = some (readL w : Int) := by unfold natV; rw [if_pos h]
theorem natV_no {w : List UInt8} (h : ¬ (canon w ∧ w.length ≤ 12)) : natV w = none := by unfold natV; rw [if_neg h]
noncomputable def intV (w : List UInt8) : Option Int := match w with
  | [] => none
  | b :: r => if b = 45 then (match natV r with
      | some n => if n = 0 then none else some (-n)
      | none => none) else natV (b :: r)
theorem intV_neg {r : List UInt8} : intV (45 :: r) = (match natV r with | some n => if n = 0 then none else some (-n) | none => none) := by rw [intV, if_pos rfl]
theorem intV_pos {w : List UInt8} (h : w[0]? ≠ some 45) : intV w = natV w := by
  cases w with
  | nil => rw [natV_no (by rintro ⟨⟨_, h⟩, _⟩; simp at h)]; rfl
  | cons b r =>
    rw [intV, if_neg (by simpa using h)]
theorem natV_ge {w : List UInt8} {n : Int} (h : natV w = some n) : 0 ≤ n ∧ n ≤ 999999999999 ∧ numI n = w := by
  by_cases hc : canon w ∧ w.length ≤ 12
  · rw [natV_yes hc] at h
    cases h
    have h1 := readL_lt hc.1.1
    have h2 : (10 : Nat) ^ w.length ≤ 10 ^ 12 := Nat.pow_le_pow_right (by decide) hc.2
    refine ⟨by omega, by omega, ?_⟩
    unfold numI
    rw [Int.toNat_natCast, numL_readL hc.1]
  · rw [natV_no hc] at h; cases h
theorem intV_bd {w : List UInt8} {n : Int} (h : intV w = some n) : -999999999999 ≤ n ∧ n ≤ 999999999999 ∧ (0 ≤ n → numI n = w) := by
  by_cases h1 : w[0]? = some 45
  · cases w with
    | nil => simp at h1
    | cons b r =>
      have hb : b = 45 := by simpa using h1
      subst hb
      rw [intV_neg] at h
      cases hn : natV r with
      | none => rw [hn] at h; cases h
      | some m =>
        rw [hn] at h
        have := natV_ge hn
        by_cases h0 : m = 0
        · simp [h0] at h
        · simp [h0] at h
          subst h
          exact ⟨by omega, by omega, fun h3 => by omega⟩
  · rw [intV_pos h1] at h
    have := natV_ge h
    exact ⟨by omega, by omega, fun _ => this.2.2⟩
theorem intV_num {n : Int} (h0 : 0 ≤ n) (h : n ≤ 999) : intV (numI n) = some n := by
  have h1 := numL_len (n := n.toNat) (by omega)
  rw [intV_pos]
  · unfold numI
    rw [natV_yes ⟨numL_canon _, by omega⟩, readL_numL]
    congr 1
    omega
  · intro h2
    have := no_dig (c := 45) (by decide) n
    exact this (List.mem_of_getElem? h2)
/-- the words' numbers, if all of them are numbers -/
noncomputable def intsV (ws : List (List UInt8)) : Option (List Int) := optP (∀ w ∈ ws, (intV w).isSome = true) (ws.map fun w => (intV w).getD 0)
/-- a line's note -/
noncomputable def lineV (w : List UInt8) : Option NoteD := match intsV (splL 32 w) with
  | some [a, b, c] => some ⟨a, b, c⟩
  | _ => none
noncomputable def vV (w : List UInt8) : NoteD := (lineV w).getD noteD0
theorem lineV_line {x : NoteD} (h : NoteFit x) : lineV (lineL x) = some x := by
  unfold NoteFit at h
  have h1 := intV_num (n := x.skater) (by omega) (by omega)
  have h2 := intV_num (n := x.before) (by omega) (by omega)
  have h3 := intV_num (n := x.inn) (by omega) (by omega)
  have e : intsV (splL 32 (lineL x)) = some [x.skater, x.before, x.inn] := by
    unfold intsV
    rw [line_words, optP_pos (by simp [h1, h2, h3])]
    simp [h1, h2, h3]
  unfold lineV
  rw [e]
theorem lineV_back {w : List UInt8} {x : NoteD} (h : lineV w = some x) (hf : NoteFit x) : lineL x = w := by
  unfold lineV at h
  unfold NoteFit at hf
  by_cases ha : ∀ v ∈ splL 32 w, (intV v).isSome = true
  · unfold intsV at h
    rw [optP_pos ha] at h
    have hj := join_splL 32 w
    match hs : splL 32 w with
    | [] => rw [hs] at h; simp at h
    | [_] => rw [hs] at h; simp at h
    | [_, _] => rw [hs] at h; simp at h
    | [a, b, c] =>
      rw [hs] at h hj ha
      simp only [List.map_cons, List.map_nil, Option.some.injEq] at h
      subst h
      simp only at hf
      have k : ∀ v ∈ [a, b, c], 0 ≤ (intV v).getD 0 → numI ((intV v).getD 0) = v := by
        intro v hv h0
        have := ha v hv
        cases hn : intV v with
        | none => rw [hn] at this; cases this
        | some n => rw [hn] at h0; exact (intV_bd hn).2.2 h0
      unfold lineL
      rw [k a (by simp) (by omega), k b (by simp) (by omega), k c (by simp) (by omega), ← hj]
      rfl
    | _ :: _ :: _ :: _ :: _ => rw [hs] at h; simp at h
  · unfold intsV at h; rw [optP_neg ha] at h; cases h
theorem text_end (l : List NoteD) : textL l = [] ∨ ∃ t, textL l = t ++ [10] := by
  induction l using snoc_ind with
  | h0 => left; rfl
  | h1 r x _ => right; exact ⟨textL r ++ lineL x, by rw [textL_app]; simp [textL]⟩
theorem notesOk_nil : NotesOk [] := ⟨by simp, fun k x h => by simp at h⟩
theorem ansP_nil : ansP [] = some [] := ansP_some notesOk_nil rfl
theorem impl_open {s : List UInt8} (h0 : s ≠ []) (h : ∀ t, s ≠ t ++ [10]) : ansP s = none := ansP_none fun l _ e => by
  rcases text_end l with h1 | ⟨t, h1⟩
  · exact h0 (e.symm.trans h1)
  · exact h t (e.symm.trans h1)
theorem impl_lines {t : List UInt8} {l : List NoteD} (e : textL l = t ++ [10]) : splL 10 t = l.map lineL := by
  have h := congrArg (splL 10) e
  rw [text_lines, splL_last] at h
  exact (List.append_cancel_right h).symm
theorem impl_line {t w : List UInt8} (hw : w ∈ splL 10 t) (h : lineV w = none) : ansP (t ++ [10]) = none := ansP_none fun l hl e => by
  rw [impl_lines e] at hw
  obtain ⟨x, hx, rfl⟩ := List.mem_map.1 hw
  rw [lineV_line (hl.fit x hx)] at h
  cases h
theorem impl_many {t : List UInt8} (h : 40 < (splL 10 t).length) : ansP (t ++ [10]) = none := spec_many (by rw [splL_last, List.length_append]; simp; omega)
theorem impl_no {t : List UInt8} (h : ¬ NotesOk ((splL 10 t).map vV)) : ansP (t ++ [10]) = none := ansP_none fun l hl e => by
  rw [impl_lines e, List.map_map] at h
  have : l.map (vV ∘ lineL) = l := by
    conv => rhs; rw [← List.map_id l]
    exact List.map_congr_left fun x hx => by show (lineV (lineL x)).getD noteD0 = id x; rw [lineV_line (hl.fit x hx)]; rfl
  rw [this] at h
  exact h hl
/-- lines with their ends -/
def endL : List (List UInt8) → List UInt8
  | [] => []
  | w :: r => w ++ 10 :: endL r
theorem endL_splL : ∀ t : List UInt8, endL (splL 10 t) = t ++ [10]
  | [] => rfl
  | b :: t => by
    have ih := endL_splL t
    by_cases h : b = 10
    · subst h; rw [splL_eq, endL, ih]; rfl
    · rw [splL_ne h]
      have := splL_some 10 t
      cases hs : splL 10 t with
      | nil => exact absurd hs this
      | cons p ps => rw [hs, endL] at ih; rw [onto, endL, List.cons_append, List.cons_append, List.nil_append, ih, List.cons_append]
theorem impl_yes {t : List UInt8} (hv : ∀ w ∈ splL 10 t, (lineV w).isSome = true) (h : NotesOk ((splL 10 t).map vV)) : ansP (t ++ [10]) = some ((splL 10 t).map vV) := by
  refine ansP_some h ?_
  have key : ∀ ws : List (List UInt8), (∀ w ∈ ws, (lineV w).isSome = true) → (∀ x ∈ ws.map vV, NoteFit x) → textL (ws.map vV) = endL ws := by
    intro ws
    induction ws with
    | nil => intro _ _; rfl
    | cons w r ih =>
      intro h1 h2
      have h3 := h1 w (by simp)
      cases hx : lineV w with
      | none => rw [hx] at h3; cases h3
      | some x =>
        have ev : vV w = x := by unfold vV; rw [hx]; rfl
        have hf := h2 (vV w) (by simp)
        rw [ev] at hf
        rw [List.map_cons, textL, endL, ev, lineV_back hx hf, ih (fun v hv => h1 v (List.mem_cons_of_mem _ hv)) (fun y hy => h2 y (by rw [List.map_cons]; exact List.mem_cons_of_mem _ hy))]
  rw [key _ hv h.fit, endL_splL]
/-- a text's bytes -/
def bl (s : ByteArray) : List UInt8 := s.data.toList
def ba (l : List UInt8) : ByteArray := ⟨l.toArray⟩
theorem bl_ba (l : List UInt8) : bl (ba l) = l := rfl
theorem ba_bl (s : ByteArray) : ba (bl s) = s := rfl
theorem bl_len (s : ByteArray) : (bl s).length = s.size := (Lib.size_eq s).symm
theorem ba_size (l : List UInt8) : (ba l).size = l.length := by rw [← bl_len, bl_ba]
theorem bl_get (s : ByteArray) (k : Nat) : (bl s)[k]? = s[k]? := by
  by_cases hk : k < s.size
  · rw [getElem?_pos s k hk, List.getElem?_eq_getElem (by rw [bl_len]; exact hk)]
    rfl
  · rw [getElem?_neg s k hk, List.getElem?_eq_none (by rw [bl_len]; omega)]
theorem bl_app (a b : ByteArray) : bl (a ++ b) = bl a ++ bl b := by unfold bl; simp
theorem ba_app (a b : List UInt8) : ba a ++ ba b = ba (a ++ b) := by
  have h := bl_app (ba a) (ba b)
  rw [bl_ba, bl_ba] at h
  rw [← ba_bl (ba a ++ ba b), h]
theorem bl_inj {a b : ByteArray} (h : bl a = bl b) : a = b := by rw [← ba_bl a, ← ba_bl b, h]
theorem splB_bl (c : UInt8) (s : ByteArray) : (splB c s).map bl = splL c (bl s) := by
  unfold splB
  rw [List.map_map]
  conv => rhs; rw [← List.map_id (splL c (bl s))]
  exact List.map_congr_left fun x _ => rfl
theorem splB_len2 (c : UInt8) (s : ByteArray) : (splB c s).length = (splL c (bl s)).length := by rw [← splB_bl, List.length_map]
theorem bl_extract (s : ByteArray) (a b : Nat) : bl (s.extract a b) = ((bl s).drop a).take (b - a) := Lib.extract_data s a b
end Go.Proofs.YthocihmhljmgdaaGreatDoor
