/-
  Notes: when they are valid, which note of a skater holds in a segment; the program's functions and the reference's, in the abstract machine.
-/
import Derived.Test.YtjgpbbdapjjmiaaDoorOrd
import Derived.Test.YtjgpbbdapjjmiaaDoorNoteW
set_option linter.unusedSimpArgs false
set_option linter.unusedVariables false
set_option maxHeartbeats 2000000
set_option maxRecDepth 100000
namespace Go.Proofs.YtjgpbbdapjjmiaaDoor
open Go.RowKit

def NoteD.dat (x : NoteD) : List D := [.int .i64 x.skater, .int .i64 x.before, .int .i64 x.inn]
theorem NoteD.dat_ok : EncOK NoteD.enc NoteD.dat 3 := by
  refine ⟨fun _ => rfl, fun _ => rfl, fun x j d u hd hu w X => ?_, fun x j d u hd hu w X v hv => ?_⟩
  · match j with
    | 0 => simp [NoteD.dat, NoteD.enc] at hd hu; subst hd hu; exact .int _ _
    | 1 => simp [NoteD.dat, NoteD.enc] at hd hu; subst hd hu; exact .int _ _
    | 2 => simp [NoteD.dat, NoteD.enc] at hd hu; subst hd hu; exact .int _ _
    | j + 3 => simp [NoteD.dat] at hd
  · match j with
    | 0 => simp [NoteD.dat, NoteD.enc] at hd hu; subst hd hu; cases hv; rfl
    | 1 => simp [NoteD.dat, NoteD.enc] at hd hu; subst hd hu; cases hv; rfl
    | 2 => simp [NoteD.dat, NoteD.enc] at hd hu; subst hd hu; cases hv; rfl
    | j + 3 => simp [NoteD.dat] at hd

/-- what is asked of a note but for its substitute's being among those who withdraw -/
def NoteLo (l : List NoteD) (k : Nat) (x : NoteD) : Prop := 1 ≤ x.skater ∧ x.skater ≤ 999 ∧ 0 ≤ x.before ∧ x.before ≤ 2 ∧ 0 ≤ x.inn ∧ x.inn ≤ 999 ∧ x.skater ∉ (l.take k).map NoteD.skater ∧ (x.inn = 0 ∨ (x.before ≤ 0 ∧ x.inn ∉ (l.take k).map NoteD.inn))
def NoteAt (l : List NoteD) (k : Nat) (x : NoteD) : Prop := NoteLo l k x ∧ (x.inn = 0 ∨ x.inn ∉ l.map NoteD.skater)
def NotesOk (l : List NoteD) : Prop := l.length ≤ 40 ∧ All (NoteAt l) l
theorem NotesOk.not_at {l : List NoteD} {k : Nat} {x : NoteD} (hx : l[k]? = some x) (hf : ¬ NoteAt l k x) : ¬ NotesOk l := fun h => hf (h.2 k x hx)
/-- those who come in -/
def insOf (l : List NoteD) : List Int := fm (fun x => decide (0 < x.inn)) NoteD.inn l
theorem insOf_mem {l : List NoteD} {n : Int} : n ∈ insOf l ↔ 0 < n ∧ n ∈ l.map NoteD.inn := by
  unfold insOf
  rw [fm_mem, List.mem_map]
  constructor
  · rintro ⟨x, hx, hp, rfl⟩; exact ⟨by simpa using hp, x, hx, rfl⟩
  · rintro ⟨hp, x, hx, rfl⟩; exact ⟨x, hx, by simpa using hp, rfl⟩
theorem notes_end {l : List NoteD} (h1 : Upto (NoteLo l) l l.length) (h2 : ∀ n ∈ insOf l, n ∉ l.map NoteD.skater) : bP (NotesOk l) = decide ((l.length : Int) ≤ 40) := by
  by_cases h : l.length ≤ 40
  · have hall : All (NoteAt l) l := fun k x hx => ⟨h1.all (Nat.le_refl _) k x hx, by
      have h3 := h1.all (Nat.le_refl _) k x hx
      by_cases h4 : x.inn = 0
      · exact .inl h4
      · exact .inr (h2 _ (insOf_mem.2 ⟨by have := h3.2.2.2.2.1; omega, List.mem_map.2 ⟨x, List.mem_of_getElem? hx, rfl⟩⟩))⟩
    rw [bP_true ⟨h, hall⟩]
    exact (decide_eq_true (by omega)).symm
  · rw [bP_false fun h' => h h'.1]; exact (decide_eq_false (by omega)).symm
theorem notes_end2 {l : List NoteD} {k : Nat} (h1 : Upto (NoteAt l) l k) (hk : l.length ≤ k) : bP (NotesOk l) = decide ((l.length : Int) ≤ 40) := by
  by_cases h : l.length ≤ 40
  · rw [bP_true ⟨h, h1.all hk⟩]; exact (decide_eq_true (by omega)).symm
  · rw [bP_false fun h' => h h'.1]; exact (decide_eq_false (by omega)).symm
/-- who withdraws, who comes in -/
def skB (l : List NoteD) (n : Int) : Bool := l.any fun x => x.skater == n
def inB (l : List NoteD) (n : Int) : Bool := l.any fun x => x.inn == n
theorem skB_iff {l : List NoteD} {n : Int} : skB l n = true ↔ n ∈ l.map NoteD.skater := by unfold skB; rw [List.any_eq_true, List.mem_map]; simp
theorem inB_iff {l : List NoteD} {n : Int} : inB l n = true ↔ n ∈ l.map NoteD.inn := by unfold inB; rw [List.any_eq_true, List.mem_map]; simp
theorem skB_not {l : List NoteD} {n : Int} (h : skB l n = false) : n ∉ l.map NoteD.skater := fun h' => Bool.noConfusion ((skB_iff.2 h').symm.trans h)
theorem inB_not {l : List NoteD} {n : Int} (h : inB l n = false) : n ∉ l.map NoteD.inn := fun h' => Bool.noConfusion ((inB_iff.2 h').symm.trans h)
theorem notes_not {l : List NoteD} {n : Int} (hn : n ∈ insOf l) (hs : n ∈ l.map NoteD.skater) : ¬ NotesOk l := by
  intro h
  obtain ⟨h1, h2⟩ := insOf_mem.1 hn
  obtain ⟨x, hx, rfl⟩ := List.mem_map.1 h2
  obtain ⟨k, hk⟩ := List.getElem?_of_mem hx
  rcases (h.2 k x hk).2 with h3 | h3
  · omega
  · exact h3 hs
theorem ins_take {l : List NoteD} {n : Int} (k : Nat) (h : 0 < n) : n ∈ insOf (l.take k) ↔ n ∈ (l.take k).map NoteD.inn := by rw [insOf_mem]; simp [h]
/-- the note of a skater that holds in a segment -/
def hdp (n seg : Int) (x : NoteD) : Bool := decide (x.skater = n) && decide (x.before ≤ seg)
def noteD0 : NoteD := ⟨0, 0, 0⟩
def heldBy (l : List NoteD) (n seg : Int) : NoteD := (l.find? (hdp n seg)).getD noteD0
def isHeld (l : List NoteD) (n seg : Int) : Bool := (l.find? (hdp n seg)).isSome
theorem find_at {α : Type} {p : α → Bool} : ∀ {l : List α} {k : Nat} {x : α}, l[k]? = some x → p x = true → (∀ y ∈ l.take k, p y = false) → l.find? p = some x
  | [], k, x, h, _, _ => by simp at h
  | y :: r, 0, x, h, hp, _ => by simp at h; subst h; simp [hp]
  | y :: r, k + 1, x, h, hp, hn => by
    have h1 : p y = false := hn y (by simp)
    rw [List.find?_cons, h1]
    exact find_at (l := r) (by simpa using h) hp fun z hz => hn z (by rw [List.take_succ_cons]; exact List.mem_cons_of_mem _ hz)
theorem find_none {α : Type} {p : α → Bool} {l : List α} (h : ∀ y ∈ l, p y = false) : l.find? p = none := by rw [List.find?_eq_none]; intro x hx; rw [h x hx]; simp
theorem held_cases (l : List NoteD) (n seg : Int) : (fIx (hdp n seg) l 0 = -1 ∧ isHeld l n seg = false) ∨ ∃ (k : Nat) (x : NoteD), fIx (hdp n seg) l 0 = ((k : Nat) : Int) ∧ l[(k : Nat)]? = some x ∧ isHeld l n seg = true ∧ heldBy l n seg = x := by
  rcases fIx_inv (p := hdp n seg) l 0 with ⟨h1, h2⟩ | ⟨k, x, h1, h2, h3, h4⟩
  · exact .inl ⟨h1, by unfold isHeld; rw [find_none h2]; rfl⟩
  · exact .inr ⟨k, x, h1, h2, by unfold isHeld; rw [find_at h2 h3 h4]; rfl, by unfold heldBy; rw [find_at h2 h3 h4]; rfl⟩

theorem isSegment_ok (n : Int) : FnEq Tryd.prog 39 [.d (.int .i64 n)] [.d (.bool (decide (0 ≤ n) && decide (n ≤ 2)))] := by
  refine fn_ok G_ok Tryd.func39 rfl rfl ?_; simp only [Tryd.ntmps39, List.length_cons, List.length_nil, Nat.reduceAdd, Nat.reduceSub, enm]
  repeat' (first | ((with_reducible first | (refine hK _ ?_; clear hK K) | refine stq fun K' hK' => ?_ | refine stc ?_); try simp only [go_sem]) | (with_reducible first | refine stp ?_ | (refine hK' _ ?_; clear hK' K') | refine kN kl39 fun K hK => ?_ | refine kO fun K hK => ?_) | ((with_reducible apply CallK.eq); (· with_reducible first | exact within_ok _ _ _); (· simp [RV.flat, D.sc, datI]); try simp only [go_sem]) | (with_reducible refine pK_mk ?_ ?_ <;> (intro hc; (try simp only [go_sem]); (try simp at hc); try (exfalso; omega))) | with_reducible refine And.intro (by first | omega | (unfold inI; omega)) ?_)
  refine retQ_ret rfl rfl (by simp [rowsOf, lk]) ?_; rfl
theorem indexNote_ok (xs : List NoteD) (fid : Nat) (caps : List PV) (p : NoteD → Bool) (hn : xs.length ≤ 16777216) (hcap : CapOK caps) (hf : ∀ x : NoteD, FnEq Tryd.prog fid (.agg [.d (.int .i64 x.skater), .d (.int .i64 x.before), .d (.int .i64 x.inn)] :: caps) [.d (.bool (p x))]) :
    FnEq Tryd.prog 52 [.d (.lst 3 (xs.map NoteD.dat)), .fn fid caps] [.d (.int .i64 (fIx p xs 0))] := by
  refine fn_ok G_ok Tryd.func52 rfl rfl ?_; simp only [Tryd.ntmps52, List.length_cons, List.length_nil, Nat.reduceAdd, Nat.reduceSub, enm]
  repeat' (first | ((with_reducible first | (refine hK _ ?_; clear hK K) | refine stq fun K' hK' => ?_ | refine stc ?_); try simp only [go_sem]) | (with_reducible first | refine stp ?_ | (refine hK' _ ?_; clear hK' K') | refine kN kl52 fun K hK => ?_ | refine kO fun K hK => ?_) | refine iB ?_ | (with_reducible refine pK_mk ?_ ?_ <;> (intro hc; (try simp only [go_sem]); (try simp at hc); try (exfalso; omega))) | with_reducible refine And.intro (by first | omega | (unfold inI; omega)) ?_)
  refine pw_loop_over [4, 5, 8, 9, 10, 11, 12, 13, 14, 15, 16, 17, 18] (fun k : Nat => [(8, .d (.int .i64 (k : Int)))]) (fun k : Nat => []) 0 (fun k : Nat => k ≤ xs.length ∧ ∀ y ∈ xs.take k, p y = false) (fun k : Nat => xs.length - k) 0 ⟨Nat.zero_le _, by simp⟩ (fits_mk [] (by simp [renL_d, bdL_d, sg, over, wipe, wl, memN, ins, rm, lk, fitFr, fit1, ren, renL, bd, bdL, app, fitHp, hget, renB, bdB, hcap.ren, hcap.bd] <;> omega)) ?_
  rintro k ⟨hk, hJ⟩
  simp only [over, wipe, wl, memN, ins, rm, if_true, if_false, Nat.reduceEqDiff, Bool.false_eq_true, reduceCtorEq]
  by_cases hlt : k < xs.length
  · have hx := List.getElem?_eq_getElem hlt
    generalize xs[k] = x at hx
    repeat' (first | ((with_reducible first | (refine hK _ ?_; clear hK K) | refine stq fun K' hK' => ?_ | refine stc ?_); try simp only [go_sem, List.getElem?_map, hx, Option.map_some, NoteD.dat, hcap.t2]) | (with_reducible first | refine stp ?_ | (refine hK' _ ?_; clear hK' K') | refine kN kl52 fun K hK => ?_ | refine kO fun K hK => ?_) | ((with_reducible apply CallK.eq); (· with_reducible first | exact hf x); (· simp [RV.flat, D.sc, datI]); try simp only [go_sem, List.getElem?_map, hx, Option.map_some, NoteD.dat, hcap.t2]) | refine iB ?_ | (with_reducible refine pK_mk ?_ ?_ <;> (intro hc; (try simp only [go_sem, List.getElem?_map, hx, Option.map_some, NoteD.dat, hcap.t2]); (try simp at hc); try (exfalso; omega))) | with_reducible refine And.intro (by first | omega | (unfold inI; omega)) ?_)
    · refine retQ_ret rfl rfl (by simp [rowsOf, lk]) ?_; rw [fIx_at (i := 0) hx hc hJ]; simp
    · exact ⟨k + 1, ⟨by omega, none_snoc hJ hx hc⟩, by omega, (fits_mk [] (by simp [renL_d, bdL_d, sg, over, wipe, wl, memN, ins, rm, lk, fitFr, fit1, ren, renL, bd, bdL, app, fitHp, hget, renB, bdB, hcap.ren, hcap.bd] <;> omega))⟩
  · repeat' (first | ((with_reducible first | (refine hK _ ?_; clear hK K) | refine stq fun K' hK' => ?_ | refine stc ?_); try simp only [go_sem]) | (with_reducible first | refine stp ?_ | (refine hK' _ ?_; clear hK' K') | refine kN kl52 fun K hK => ?_ | refine kO fun K hK => ?_) | refine iB ?_ | (with_reducible refine pK_mk ?_ ?_ <;> (intro hc; (try simp only [go_sem]); (try simp at hc); try (exfalso; omega))) | with_reducible refine And.intro (by first | omega | (unfold inI; omega)) ?_)
    refine retQ_ret rfl rfl (by simp [rowsOf, lk]) ?_; rw [fIx_none (none_all hJ (by omega))]
theorem containsNote_ok (xs : List NoteD) (fid : Nat) (caps : List PV) (p : NoteD → Bool) (hn : xs.length ≤ 16777216) (hcap : CapOK caps) (hf : ∀ x : NoteD, FnEq Tryd.prog fid (.agg [.d (.int .i64 x.skater), .d (.int .i64 x.before), .d (.int .i64 x.inn)] :: caps) [.d (.bool (p x))]) :
    FnEq Tryd.prog 42 [.d (.lst 3 (xs.map NoteD.dat)), .fn fid caps] [.d (.bool (xs.any p))] := by
  refine fn_ok G_ok Tryd.func42 rfl rfl ?_; simp only [Tryd.ntmps42, List.length_cons, List.length_nil, Nat.reduceAdd, Nat.reduceSub, enm]
  repeat' (first | ((with_reducible first | (refine hK _ ?_; clear hK K) | refine stq fun K' hK' => ?_ | refine stc ?_); try simp only [go_sem, hcap.t1]) | (with_reducible first | refine stp ?_ | (refine hK' _ ?_; clear hK' K') | refine kN kl42 fun K hK => ?_ | refine kO fun K hK => ?_) | ((with_reducible apply CallK.eq); (· with_reducible first | exact indexNote_ok xs fid caps p hn hcap hf); (· simp [RV.flat, D.sc, datI]); try simp only [go_sem, hcap.t1]) | (with_reducible refine pK_mk ?_ ?_ <;> (intro hc; (try simp only [go_sem, hcap.t1]); (try simp at hc); try (exfalso; omega))) | with_reducible refine And.intro (by first | omega | (unfold inI; omega)) ?_)
  refine retQ_ret rfl rfl (by simp [rowsOf, lk]) ?_; rw [fIx_any]
theorem withdraws1_ok (x : NoteD) (n : Int) : FnEq Tryd.prog 51 [.agg [.d (.int .i64 x.skater), .d (.int .i64 x.before), .d (.int .i64 x.inn)], .eptr [.int .i64 n]] [.d (.bool (x.skater == n))] := by
  refine fn_ok G_ok Tryd.func51 rfl rfl ?_; simp only [Tryd.ntmps51, List.length_cons, List.length_nil, Nat.reduceAdd, Nat.reduceSub, enm]
  repeat' (first | ((with_reducible first | (refine hK _ ?_; clear hK K) | refine stq fun K' hK' => ?_ | refine stc ?_); try simp only [go_sem]) | (with_reducible first | refine stp ?_ | (refine hK' _ ?_; clear hK' K') | refine kN kl51 fun K hK => ?_ | refine kO fun K hK => ?_) | (with_reducible refine pK_mk ?_ ?_ <;> (intro hc; (try simp only [go_sem]); (try simp at hc); try (exfalso; omega))) | with_reducible refine And.intro (by first | omega | (unfold inI; omega)) ?_)
  refine retQ_ret rfl rfl (by simp [rowsOf, lk]) ?_; rfl
theorem withdraws_ok (xs : List NoteD) (n : Int) (hn : xs.length ≤ 16777216) : FnEq Tryd.prog 41 [.d (.lst 3 (xs.map NoteD.dat)), .d (.int .i64 n)] [.d (.bool (skB xs n))] := by
  refine fn_ok G_ok Tryd.func41 rfl rfl ?_; simp only [Tryd.ntmps41, List.length_cons, List.length_nil, Nat.reduceAdd, Nat.reduceSub, enm]
  repeat' (first | ((with_reducible first | (refine hK _ ?_; clear hK K) | refine stq fun K' hK' => ?_ | refine stc ?_); try simp only [go_sem]) | (with_reducible first | refine stp ?_ | (refine hK' _ ?_; clear hK' K') | refine kN kl41 fun K hK => ?_ | refine kO fun K hK => ?_) | ((with_reducible apply CallK.eq); (· with_reducible first | exact containsNote_ok xs _ _ _ hn (eptrCap _) (fun x => withdraws1_ok x n)); (· simp [RV.flat, D.sc, datI]); try simp only [go_sem]) | (with_reducible refine pK_mk ?_ ?_ <;> (intro hc; (try simp only [go_sem]); (try simp at hc); try (exfalso; omega))) | with_reducible refine And.intro (by first | omega | (unfold inI; omega)) ?_)
  refine retQ_ret rfl rfl (by simp [rowsOf, lk]) ?_; rfl
theorem AreNotes1_ok (x y : NoteD) : FnEq Tryd.prog 43 [.agg [.d (.int .i64 x.skater), .d (.int .i64 x.before), .d (.int .i64 x.inn)], .eptr [.int .i64 y.skater, .int .i64 y.before, .int .i64 y.inn]] [.d (.bool (x.inn == y.inn))] := by
  refine fn_ok G_ok Tryd.func43 rfl rfl ?_; simp only [Tryd.ntmps43, List.length_cons, List.length_nil, Nat.reduceAdd, Nat.reduceSub, enm]
  repeat' (first | ((with_reducible first | (refine hK _ ?_; clear hK K) | refine stq fun K' hK' => ?_ | refine stc ?_); try simp only [go_sem]) | (with_reducible first | refine stp ?_ | (refine hK' _ ?_; clear hK' K') | refine kN kl43 fun K hK => ?_ | refine kO fun K hK => ?_) | (with_reducible refine pK_mk ?_ ?_ <;> (intro hc; (try simp only [go_sem]); (try simp at hc); try (exfalso; omega))) | with_reducible refine And.intro (by first | omega | (unfold inI; omega)) ?_)
  refine retQ_ret rfl rfl (by simp [rowsOf, lk]) ?_; rfl
theorem containsIn_ok (xs : List NoteD) (y : NoteD) (hn : xs.length ≤ 16777216) : FnEq Tryd.prog 42 [.d (.lst 3 (xs.map NoteD.dat)), .fn 43 [.eptr [.int .i64 y.skater, .int .i64 y.before, .int .i64 y.inn]]] [.d (.bool (inB xs y.inn))] :=
  containsNote_ok xs _ _ _ hn (eptrCap _) (fun x => AreNotes1_ok x y)

abbrev ansAreNotes (l : List NoteD) : Prop := NotesOk l
theorem impl_AreNotes_ok (xs0 : List NoteD) (hn0 : xs0.length ≤ 1048576) : FnEq Tryd.prog 26 [.d (.lst 3 (xs0.map NoteD.dat))] [.d (.bool (bP (ansAreNotes xs0)))] := by
  refine fn_ok G_ok Tryd.func26 rfl rfl ?_; simp only [Tryd.ntmps26, List.length_cons, List.length_nil, Nat.reduceAdd, Nat.reduceSub, enm]
  generalize hl : xs0 = l
  subst hl
  repeat' (first | ((with_reducible first | (refine hK _ ?_; clear hK K) | refine stq fun K' hK' => ?_ | refine stc ?_); try simp only [go_sem]) | (with_reducible first | refine stp ?_ | (refine hK' _ ?_; clear hK' K') | refine kN kl26 fun K hK => ?_ | refine kO fun K hK => ?_) | (refine xS rfl fun K' hK' => ?_; simp only [go_sem]) | (refine qS rfl fun K' hK' => ?_; simp only [go_sem]) | refine iB ?_ | (with_reducible refine pw_seq_drawK kl26 G_ok mixed (by kernel_rfl) (fun K hK => ?_)) | (with_reducible refine pw_draw G_ok mixed (by kernel_rfl) ?_) | (with_reducible refine pK_mk ?_ ?_ <;> (intro hc; (try simp only [go_sem]); (try simp at hc); try (exfalso; omega))) | with_reducible refine And.intro (by first | omega | (unfold inI; omega)) ?_)
  refine pw_loop_over [2, 3, 4, 7, 8, 9, 10, 11, 12, 13, 14, 15, 16, 17, 18, 19, 20, 21, 22, 23, 24, 25, 26, 27, 28, 29, 30, 31, 32, 33, 34, 35, 36, 37, 38, 39, 40, 41, 42, 43, 44, 45, 46, 47, 48, 49, 50, 51, 52, 53, 54, 55] (fun k : Nat => [(7, .d (.int .i64 (k : Int)))]) (fun k : Nat => []) 0 (fun k : Nat => k ≤ xs0.length ∧ Upto (NoteAt xs0) xs0 k) (fun k : Nat => xs0.length - k) 0 ⟨Nat.zero_le _, Upto.zero _ _⟩ (fits_mk [] (by simp [renL_d, bdL_d, sg, over, wipe, wl, memN, ins, rm, lk, fitFr, fit1, ren, renL, bd, bdL, app, fitHp, hget, renB, bdB] <;> omega)) ?_
  rintro k ⟨hk, hJ⟩
  simp only [over, wipe, wl, memN, ins, rm, if_true, if_false, Nat.reduceEqDiff, Bool.false_eq_true, reduceCtorEq]
  by_cases hlt : k < xs0.length
  · have hx := List.getElem?_eq_getElem hlt
    generalize xs0[k] = x at hx
    repeat' (first | ((with_reducible first | (refine hK _ ?_; clear hK K) | refine stq fun K' hK' => ?_ | refine stc ?_); try simp only [go_sem, List.getElem?_map, hx, Option.map_some, NoteD.dat, ← List.map_take]) | (with_reducible first | refine stp ?_ | (refine hK' _ ?_; clear hK' K') | refine kN kl26 fun K hK => ?_ | refine kO fun K hK => ?_) | (refine xS rfl fun K' hK' => ?_; simp only [go_sem, List.getElem?_map, hx, Option.map_some, NoteD.dat, ← List.map_take]) | (refine qS rfl fun K' hK' => ?_; simp only [go_sem, List.getElem?_map, hx, Option.map_some, NoteD.dat, ← List.map_take]) | ((with_reducible first | apply CallK.eq | apply CallQ.eqs); (· with_reducible first | exact isSkater_ok _ | exact isSegment_ok _ | exact within_ok _ _ _ | exact withdraws_ok (xs0.take k) _ (by simp; omega) | exact withdraws_ok xs0 _ (by omega) | exact containsIn_ok (xs0.take k) x (by simp; omega)); (· first | exact rfl | (simp [RV.flat, D.sc, datI]; done)); try simp only [go_sem, List.getElem?_map, hx, Option.map_some, NoteD.dat, ← List.map_take]) | refine iB ?_ | (with_reducible refine pw_seq_drawK kl26 G_ok mixed (by kernel_rfl) (fun K hK => ?_)) | (with_reducible refine pw_draw G_ok mixed (by kernel_rfl) ?_) | (with_reducible refine pK_mk ?_ ?_ <;> (intro hc; (try simp only [go_sem, List.getElem?_map, hx, Option.map_some, NoteD.dat, ← List.map_take]); (try simp at hc); try (exfalso; omega))) | with_reducible refine And.intro (by first | omega | (unfold inI; omega)) ?_)
    all_goals first
      | (refine retQ_ret rfl rfl (by simp [rowsOf, lk]) ?_; rw [bP_false (NotesOk.not_at hx (by rintro ⟨⟨h1, h2, h3, h4, h5, h6, h7, h8⟩, h9⟩; first | omega | exact h7 (skB_iff.1 (by assumption)) | exact (h9.resolve_left (by assumption)) (skB_iff.1 (by assumption)) | exact (h8.resolve_left (by assumption)).2 (inB_iff.1 (by assumption))))])
      | exact ⟨k + 1, ⟨by omega, hJ.succ hx ⟨⟨by omega, by omega, by omega, by omega, by omega, by omega, skB_not (by assumption), by first | exact .inl (by assumption) | exact .inr ⟨by omega, inB_not (by assumption)⟩⟩, by first | exact .inl (by assumption) | exact .inr (skB_not (by assumption))⟩⟩, by omega, (fits_mk [] (by simp [renL_d, bdL_d, sg, over, wipe, wl, memN, ins, rm, lk, fitFr, fit1, ren, renL, bd, bdL, app, fitHp, hget, renB, bdB] <;> omega))⟩
  · repeat' (first | ((with_reducible first | (refine hK _ ?_; clear hK K) | refine stq fun K' hK' => ?_ | refine stc ?_); try simp only [go_sem]) | (with_reducible first | refine stp ?_ | (refine hK' _ ?_; clear hK' K') | refine kN kl26 fun K hK => ?_ | refine kO fun K hK => ?_) | (refine xS rfl fun K' hK' => ?_; simp only [go_sem]) | (refine qS rfl fun K' hK' => ?_; simp only [go_sem]) | refine iB ?_ | (with_reducible refine pw_seq_drawK kl26 G_ok mixed (by kernel_rfl) (fun K hK => ?_)) | (with_reducible refine pw_draw G_ok mixed (by kernel_rfl) ?_) | (with_reducible refine pK_mk ?_ ?_ <;> (intro hc; (try simp only [go_sem]); (try simp at hc); try (exfalso; omega))) | with_reducible refine And.intro (by first | omega | (unfold inI; omega)) ?_)
    refine retQ_ret rfl rfl (by simp [rowsOf, lk]) ?_
    rw [notes_end2 hJ (by omega)]
end Go.Proofs.YtjgpbbdapjjmiaaDoor
