/-
  Notes undone: the program's function and the reference's, in the abstract machine.
-/
import Derived.Test.YthocihmhljmgdaaGreatDoorZNu
import Derived.Test.YthocihmhljmgdaaGreatDoorZNoteW
import Derived.Lib.OwnBridge
import Derived.Test.YthocihmhljmgdaaGreatDoorShelf
import Derived.Sort.OwnSortedInts
set_option linter.unusedSimpArgs false
set_option linter.unusedVariables false
set_option maxHeartbeats 2000000
set_option maxRecDepth 100000
namespace Go.Proofs.YthocihmhljmgdaaGreatDoor
open Go.RowKit

/-- the notes but for a skater's -/
def noN (n : Int) (l : List NoteD) : List NoteD := fm (fun x => decide (x.skater ≠ n)) id l
noncomputable abbrev ansUndoNote (l : List NoteD) (n : Int) : Option (List NoteD) := optP (NotesOk l ∧ n ∈ l.map NoteD.skater) (noN n l)
theorem noN_len (n : Int) (l : List NoteD) : (noN n l).length = l.length ↔ n ∉ l.map NoteD.skater := by
  unfold noN fm
  rw [List.length_map, List.length_filter_eq_length_iff, List.mem_map]
  simp
theorem noN_take (n : Int) (l : List NoteD) (k : Nat) : (noN n (l.take k)).length ≤ k := fm_take_len _ _ _ _
theorem noN_yes {n : Int} {l : List NoteD} {k : Nat} {x : NoteD} (hx : l[k]? = some x) (h : ¬ x.skater = n) : noN n (l.take (k + 1)) = noN n (l.take k) ++ [x] := fm_yes hx (by simpa using h)
theorem noN_no {n : Int} {l : List NoteD} {k : Nat} {x : NoteD} (hx : l[k]? = some x) (h : x.skater = n) : noN n (l.take (k + 1)) = noN n (l.take k) := fm_no hx (by simpa using h)
theorem noN_nil (n : Int) : noN n [] = [] := rfl
theorem impl_UndoNote_ok (xs0 : List NoteD) (a1 : Int) (hn0 : xs0.length ≤ 1048576) : FnEq Tryz.prog 16 [.d (.lst 3 (xs0.map NoteD.dat)), .d (.int .i64 a1)] [.row 64 3 (((ansUndoNote xs0 a1).getD []).map NoteD.dat), .d (.bool (ansUndoNote xs0 a1).isSome)] := by
  refine fn_ok G_ok Tryz.func16 rfl rfl ?_; simp only [Tryz.ntmps16, List.length_cons, List.length_nil, Nat.reduceAdd, Nat.reduceSub, enm]
  repeat' (first | ((with_reducible first | (refine hK _ ?_; clear hK K) | refine stq fun K' hK' => ?_ | refine stc ?_); try simp only [go_sem]) | (with_reducible first | refine stp ?_ | (refine hK' _ ?_; clear hK' K') | refine kN kl16 fun K hK => ?_ | refine kO fun K hK => ?_) | (refine xS rfl fun K' hK' => ?_; simp only [go_sem]) | ((with_reducible apply CallK.eq); (· with_reducible first | exact impl_AreNotes_ok xs0 (by omega) | exact withdraws_ok xs0 _ (by omega)); (· simp [RV.flat, D.sc, datI]); try simp only [go_sem]) | refine iB ?_ | (with_reducible refine pK_mk ?_ ?_ <;> (intro hc; (try simp only [go_sem]); (try simp at hc); try (exfalso; omega))) | with_reducible refine And.intro (by first | omega | (unfold inI; omega)) ?_)
  · refine retQ_ret rfl (by simp only [retL, ret1, hget, lk, List.length_map, List.length_nil, List.length_append, List.length_take, if_true, if_false, Nat.reduceEqDiff, Nat.reduceBEq, Bool.false_eq_true, Option.some.injEq]; rfl) (by simp [rowsOf, lk]) ?_; simp only [ansUndoNote]; rw [optP_neg (fun h => skB_not (by assumption) h.2)]; rfl
  · refine pw_loop_over [4, 5, 6, 8, 21, 22, 23, 24, 25, 26, 27, 28, 29, 30, 31, 32, 33] (fun k : Nat => [(21, .d (.int .i64 (k : Int))), (6, .row 0 (noN a1 (xs0.take k)).length)]) (fun k : Nat => [(0, .row 64 3 ((noN a1 (xs0.take k)).map NoteD.dat))]) 1 (fun k : Nat => k ≤ xs0.length) (fun k : Nat => xs0.length - k) 0 (Nat.zero_le _) (fits_mk [] (by simp [renL_d, bdL_d, sg, over, wipe, wl, memN, ins, rm, lk, fitFr, fit1, ren, renL, bd, bdL, app, fitHp, hget, renB, bdB, noN_nil] <;> omega)) ?_
    intro k hk
    have hL := noN_take a1 xs0 k
    simp only [over, wipe, wl, memN, ins, rm, if_true, if_false, Nat.reduceEqDiff, Bool.false_eq_true, reduceCtorEq]
    by_cases hlt : k < xs0.length
    · have hx := List.getElem?_eq_getElem hlt
      generalize xs0[k] = x at hx
      repeat' (first | ((with_reducible first | (refine hK _ ?_; clear hK K) | refine stq fun K' hK' => ?_ | refine stc ?_); try simp only [go_sem, List.getElem?_map, hx, Option.map_some, NoteD.dat]) | (with_reducible first | refine stp ?_ | (refine hK' _ ?_; clear hK' K') | refine kN kl16 fun K hK => ?_ | refine kO fun K hK => ?_) | (refine xS rfl fun K' hK' => ?_; simp only [go_sem, List.getElem?_map, hx, Option.map_some, NoteD.dat]) | refine iB ?_ | (with_reducible refine pK_mk ?_ ?_ <;> (intro hc; (try simp only [go_sem, List.getElem?_map, hx, Option.map_some, NoteD.dat]); (try simp at hc); try (exfalso; omega))) | with_reducible refine And.intro (by first | omega | (unfold inI; omega)) ?_)
      · exact ⟨k + 1, by omega, by omega, (fits_mk [] (by simp [renL_d, bdL_d, sg, over, wipe, wl, memN, ins, rm, lk, fitFr, fit1, ren, renL, bd, bdL, app, fitHp, hget, renB, bdB, noN_yes hx hc, NoteD.dat] <;> omega))⟩
      · exact ⟨k + 1, by omega, by omega, (fits_mk [] (by simp [renL_d, bdL_d, sg, over, wipe, wl, memN, ins, rm, lk, fitFr, fit1, ren, renL, bd, bdL, app, fitHp, hget, renB, bdB, noN_no hx hc] <;> omega))⟩
    · have e : xs0.take k = xs0 := List.take_of_length_le (by omega)
      repeat' (first | ((with_reducible first | (refine hK _ ?_; clear hK K) | refine stq fun K' hK' => ?_ | refine stc ?_); try simp only [go_sem, e]) | (with_reducible first | refine stp ?_ | (refine hK' _ ?_; clear hK' K') | refine kN kl16 fun K hK => ?_ | refine kO fun K hK => ?_) | (refine xS rfl fun K' hK' => ?_; simp only [go_sem, e]) | refine iB ?_ | (with_reducible refine pK_mk ?_ ?_ <;> (intro hc; (try simp only [go_sem, e]); (try simp at hc); try (exfalso; omega))) | with_reducible refine And.intro (by first | omega | (unfold inI; omega)) ?_)
      refine retQ_ret rfl (by simp only [retL, ret1, hget, lk, List.length_map, List.length_nil, List.length_append, List.length_take, if_true, if_false, Nat.reduceEqDiff, Nat.reduceBEq, Bool.false_eq_true, Option.some.injEq]; rfl) (by simp [rowsOf, lk]) ?_; simp only [ansUndoNote]; rw [optP_pos ⟨of_bP (by assumption), skB_iff.1 (by assumption)⟩]; rfl
  · refine retQ_ret rfl (by simp only [retL, ret1, hget, lk, List.length_map, List.length_nil, List.length_append, List.length_take, if_true, if_false, Nat.reduceEqDiff, Nat.reduceBEq, Bool.false_eq_true, Option.some.injEq]; rfl) (by simp [rowsOf, lk]) ?_; simp only [ansUndoNote]; rw [optP_neg (fun h => not_bP (by assumption) h.1)]; rfl
theorem spec_UndoNote_ok (xs0 : List NoteD) (a1 : Int) (hn0 : xs0.length ≤ 1048576) : FnEq Tryz.prog 17 [.d (.lst 3 (xs0.map NoteD.dat)), .d (.int .i64 a1)] [.row 64 3 (((ansUndoNote xs0 a1).getD []).map NoteD.dat), .d (.bool (ansUndoNote xs0 a1).isSome)] := by
  refine fn_ok G_ok Tryz.func17 rfl rfl ?_; simp only [Tryz.ntmps17, List.length_cons, List.length_nil, Nat.reduceAdd, Nat.reduceSub, enm]
  repeat' (first | ((with_reducible first | (refine hK _ ?_; clear hK K) | refine stq fun K' hK' => ?_ | refine stc ?_); try simp only [go_sem]) | (with_reducible first | refine stp ?_ | (refine hK' _ ?_; clear hK' K') | refine kN kl17 fun K hK => ?_ | refine kO fun K hK => ?_) | ((with_reducible apply CallK.eq); (· with_reducible first | exact wdGood_ok xs0 (by omega)); (· simp [RV.flat, D.sc, datI]); try simp only [go_sem]) | refine iB ?_ | (with_reducible refine pK_mk ?_ ?_ <;> (intro hc; (try simp only [go_sem]); (try simp at hc); try (exfalso; omega))) | with_reducible refine And.intro (by first | omega | (unfold inI; omega)) ?_)
  · refine retQ_ret rfl (by simp only [retL, ret1, hget, lk, List.length_map, List.length_nil, List.length_append, List.length_take, if_true, if_false, Nat.reduceEqDiff, Nat.reduceBEq, Bool.false_eq_true, Option.some.injEq]; rfl) (by simp [rowsOf, lk]) ?_; simp only [ansUndoNote]; rw [optP_neg (fun h => not_bP (by assumption) h.1)]; rfl
  · refine pw_loop_over [4, 5, 6, 8, 14, 15, 16, 17, 18, 19, 20, 21, 22, 23, 24, 25, 26] (fun k : Nat => [(14, .d (.int .i64 (k : Int))), (6, .row 2 (noN a1 (xs0.take k)).length)]) (fun k : Nat => [(2, .row 64 3 ((noN a1 (xs0.take k)).map NoteD.dat))]) 3 (fun k : Nat => k ≤ xs0.length) (fun k : Nat => xs0.length - k) 0 (Nat.zero_le _) (fits_mk [] (by simp [renL_d, bdL_d, sg, over, wipe, wl, memN, ins, rm, lk, fitFr, fit1, ren, renL, bd, bdL, app, fitHp, hget, renB, bdB, noN_nil] <;> omega)) ?_
    intro k hk
    have hL := noN_take a1 xs0 k
    simp only [over, wipe, wl, memN, ins, rm, if_true, if_false, Nat.reduceEqDiff, Bool.false_eq_true, reduceCtorEq]
    by_cases hlt : k < xs0.length
    · have hx := List.getElem?_eq_getElem hlt
      generalize xs0[k] = x at hx
      repeat' (first | ((with_reducible first | (refine hK _ ?_; clear hK K) | refine stq fun K' hK' => ?_ | refine stc ?_); try simp only [go_sem, List.getElem?_map, hx, Option.map_some, NoteD.dat]) | (with_reducible first | refine stp ?_ | (refine hK' _ ?_; clear hK' K') | refine kN kl17 fun K hK => ?_ | refine kO fun K hK => ?_) | refine iB ?_ | (with_reducible refine pK_mk ?_ ?_ <;> (intro hc; (try simp only [go_sem, List.getElem?_map, hx, Option.map_some, NoteD.dat]); (try simp at hc); try (exfalso; omega))) | with_reducible refine And.intro (by first | omega | (unfold inI; omega)) ?_)
      · exact ⟨k + 1, by omega, by omega, (fits_mk [] (by simp [renL_d, bdL_d, sg, over, wipe, wl, memN, ins, rm, lk, fitFr, fit1, ren, renL, bd, bdL, app, fitHp, hget, renB, bdB, noN_yes hx hc, NoteD.dat] <;> omega))⟩
      · exact ⟨k + 1, by omega, by omega, (fits_mk [] (by simp [renL_d, bdL_d, sg, over, wipe, wl, memN, ins, rm, lk, fitFr, fit1, ren, renL, bd, bdL, app, fitHp, hget, renB, bdB, noN_no hx hc] <;> omega))⟩
    · have e : xs0.take k = xs0 := List.take_of_length_le (by omega)
      rw [e] at hL
      have hiff := noN_len a1 xs0
      repeat' (first | ((with_reducible first | (refine hK _ ?_; clear hK K) | refine stq fun K' hK' => ?_ | refine stc ?_); try simp only [go_sem, e]) | (with_reducible first | refine stp ?_ | (refine hK' _ ?_; clear hK' K') | refine kN kl17 fun K hK => ?_ | refine kO fun K hK => ?_) | refine iB ?_ | (with_reducible refine pK_mk ?_ ?_ <;> (intro hc; (try simp only [go_sem, e]); (try simp at hc); try (exfalso; omega))) | with_reducible refine And.intro (by first | omega | (unfold inI; omega)) ?_)
      · refine retQ_ret rfl (by simp only [retL, ret1, hget, lk, List.length_map, List.length_nil, List.length_append, List.length_take, if_true, if_false, Nat.reduceEqDiff, Nat.reduceBEq, Bool.false_eq_true, Option.some.injEq]; rfl) (by simp [rowsOf, lk]) ?_; simp only [ansUndoNote]; rw [optP_neg (fun h => hiff.1 (by omega) h.2)]; rfl
      · refine retQ_ret rfl (by simp only [retL, ret1, hget, lk, List.length_map, List.length_nil, List.length_append, List.length_take, if_true, if_false, Nat.reduceEqDiff, Nat.reduceBEq, Bool.false_eq_true, Option.some.injEq]; rfl) (by simp [rowsOf, lk]) ?_; simp only [ansUndoNote]; rw [optP_pos ⟨of_bP (by assumption), Classical.not_not.1 fun h => absurd (hiff.2 h) (by omega)⟩]; rfl

end Go.Proofs.YthocihmhljmgdaaGreatDoor

/-
  Rows of numbers and their cells. No program is named here.
-/
namespace Go.Proofs.YthocihmhljmgdaaGreatDoor
open Go.RowKit Go.Sort

theorem hset_same2 : ∀ {hp : List (Nat × Blk)} {id : Nat} {b : Blk}, hget hp id = some b → hset hp id b = hp
  | [], _, _, h => by simp [hget] at h
  | (k, c) :: r, id, b, h => by
    simp only [hget] at h
    simp only [hset]
    split at h
    · rename_i e; subst e; cases h; simp
    · rename_i e; rw [if_neg e, hset_same2 h]
theorem flat_encI2 (xs : List Int) : xs.flatMap encI = xs.map (Value.int .i64) := by
  induction xs with
  | nil => rfl
  | cons x xs ih => simp only [List.flatMap_cons, List.map_cons, ih]; rfl
theorem cells_of_own2 {w : World} {g n c : Nat} {ty : TypeId} {xs : List Int} (h : OwnS encI 1 ty w g (.slice (some ⟨g, 0, none⟩) n c) xs) : ∃ arr, w.heap[g]? = some (.cells arr ty (0, 0)) ∧ ∀ m X, (Blk.row ty 1 (xs.map datI)).cellsOk m X w arr c := by
  rcases h.2 with ⟨hv, _⟩ | ⟨g', cap, cur, hv, hb, hh, hc, hm, hs, ht⟩
  · cases hv
  · cases hv
    refine ⟨cur, hh, fun m X => ⟨hs, by simpa using hc, hm, fun e he => ?_, fun k e j d u he hd hu => ?_⟩⟩
    · obtain ⟨x, _, rfl⟩ := List.mem_map.1 he; rfl
    · rw [List.getElem?_map] at he
      cases hk : xs[k]? with
      | none => rw [hk] at he; cases he
      | some x =>
        rw [hk] at he
        cases he
        cases j with
        | succ j => simp [datI] at hd
        | zero =>
          simp [datI] at hd
          subst hd
          have hklt := (List.getElem?_eq_some_iff.1 hk).1
          have h1 : (xs.flatMap encI)[k]? = some (.int .i64 x) := by rw [flat_encI2, List.getElem?_map, hk]; rfl
          rw [← ht, List.getElem?_take_of_lt (by omega)] at h1
          have h2 : cur[k]? = some u := by simpa using hu
          have h3 : cur[k]? = some (.int .i64 x) := by simpa using h1
          rw [h3] at h2
          cases h2
          exact .int _ _
end Go.Proofs.YthocihmhljmgdaaGreatDoor

/-
  The abstract machine: slices.Sort on a row of numbers.
-/
namespace Go.Proofs.YthocihmhljmgdaaGreatDoor
open Go.RowKit Go.Sort

def sortUp (xs : List Int) : List Int := xs.mergeSort fun x y => decide (x ≤ y)
theorem sortUp_len (xs : List Int) : (sortUp xs).length = xs.length := List.length_mergeSort _
theorem sortUp_perm (xs : List Int) : (sortUp xs).Perm xs := List.mergeSort_perm _ _
theorem sortUp_sorted (xs : List Int) : (sortUp xs).Pairwise (· ≤ ·) := by
  have h := List.pairwise_mergeSort (le := fun x y : Int => decide (x ≤ y)) (by simp; omega) (by simp; omega) xs
  exact h.imp (by simp)
theorem po_rewriteS {P : Program} {o : Oper} {s : AS} {K : AS → Prop} {f x : Operand} {ts : Array TypeId} {fid : FuncId} {id n : Nat} {ty : TypeId} {xs ys : List Int} (ho : o.op = .call { callee := .value f, args := #[x], argTypes := ts }) (hf : s.get f = .fn fid []) (hx : s.get x = .row id n) (hg : hget s.hp id = some (.row ty 1 (xs.map datI))) (hn : n = xs.length) (hent : Enters P fid) (hy : ys.length = xs.length)
    (hc : ∀ (w : World) (g c : Nat), OwnS encI 1 ty w g (.slice (some ⟨g, 0, none⟩) n c) xs → Calls P fid #[.slice (some ⟨g, 0, none⟩) n c] w fun e w' => e = .returned (.tuple #[]) ∧ OwnS encI 1 ty w' g (.slice (some ⟨g, 0, none⟩) n c) ys ∧ w.grownBy w' (some g) ∧ w.drawn ≤ w'.drawn)
    (hc0 : ∀ (w : World), Calls P fid #[.slice none 0 0] w fun e w' => e = .returned (.tuple #[]) ∧ w' = w)
    (hK : K (AS.put ⟨s.fr, hset s.hp id (.row ty 1 (ys.map datI)), s.nx⟩ o.dst (.tup []))) : PO P o s K := by
  intro X0 w0 m a w Q hs
  obtain ⟨fn, e1, e2, e3⟩ := hent
  have hfv := hs.get f
  rw [hf] at hfv
  have hfe : a.eval f = .func (.func fid) #[] #[] := by
    generalize a.eval f = v at hfv
    cases hfv with
    | fn _ _ vs hl h => have : vs = #[] := Array.eq_empty_of_size_eq_zero hl; subst this; rfl
  have hrun : (execOp a.eval o).run P w = .ok (.enter fid #[a.eval x]) w := by
    have e2' : ¬ fn.name = "runtime.NumGoroutine" := by simpa using e2
    have e3' : ¬ fn.body = none := fun h => by rw [h] at e3; cases e3
    simp [execOp, ho, resolve, hfe, Deferred.ofValue, invoke, callFunc, e1]
    rw [if_neg e2', if_neg e3']
  unfold Oper.wp
  rw [hrun]
  simp only [Oper.upon_enter]
  have h1 := hs.get x
  rw [hx] at h1
  have htup : ∀ m' X' (w' : World), R m' X' w' (.tup []) (.tuple #[]) := fun m' X' w' => .tup _ _ rfl fun i x v h => by simp at h
  rcases h1.row_inv with ⟨q1, q2, q3⟩ | ⟨b, c, q1, q2, q3⟩
  · rw [q3]
    refine (hc0 w).mono ?_
    rintro e w' ⟨rfl, rfl⟩
    have hx0 : xs = [] := List.eq_nil_of_length_eq_zero (by omega)
    have hy0 : ys = [] := List.eq_nil_of_length_eq_zero (by omega)
    subst hx0 hy0
    rw [hset_same2 hg] at hK
    exact ⟨m, _, hK, hs.put (htup _ _ _) o.dst⟩
  · rw [q3]
    obtain ⟨arr, hh, hok⟩ := hs.blk hg q1
    have hown : OwnS encI 1 ty w b (.slice (some ⟨b, 0, none⟩) n c) xs := by
      have hrr : RR (Owned X0 m s.hp) b w (.row ty 1 (xs.map datI)) (.slice (some ⟨b, 0, none⟩) (xs.map datI).length c) _ := .row ty 1 _ b c arr (Nat.le_refl _) hh ⟨hok.1, hok.2.1, hok.2.2.1, hok.2.2.2.1, hok.2.2.2.2⟩
      have := own_of_rr datI_ok hrr
      rwa [List.length_map, ← hn] at this
    have hbe := hs.owns hg q1
    refine (hc w b c hown).mono ?_
    rintro e w' ⟨rfl, ho', hgr, hdr⟩
    obtain ⟨arr', hh', hok'⟩ := cells_of_own2 ho'
    refine ⟨upd m id (.blk b c), _, hK, Sim.put ?_ (htup _ _ _) o.dst⟩
    refine hs.change (i := id) (blk' := .row ty 1 (ys.map datI)) (l' := .blk b c) (fun k => k = b) (.inr q1) (by rw [hget_hset]; simp [hg]) rfl (fun id' hne blk hb' => by rw [hget_hset, if_neg hne] at hb'; exact hb') (fun id' q ty' sz' es2 hd => ?_) (Nat.le_refl _) (hs.lt_nx q1) ⟨hgr.os, hgr.tape, hgr.output, hgr.size, fun k hk hnc => hgr.block k (Nat.lt_of_lt_of_le hk hs.below.size) (fun e => by cases e; rcases hbe.1 with h | h; omega; exact hnc h), .of_le hdr⟩ (fun k hk hne => hgr.block k hk (fun e => by cases e; exact hne rfl)) ?_ ?_ ?_
    · have hne : id' ≠ id := fun e => by subst e; rw [hg] at hd; cases hd
      exact ⟨hne, by rw [hget_hset, if_neg hne]⟩
    · rintro k rfl
      exact ⟨id, _, hg, ⟨c, q1⟩, .inl rfl⟩
    · intro b' c' e
      cases e
      exact ⟨hbe.1, Nat.lt_of_lt_of_le hbe.2 hgr.size, .inr rfl⟩
    · intro _
      exact ⟨arr', hh', hok' _ _⟩
theorem po_sortUp {o : Oper} {s : AS} {K : AS → Prop} {f x : Operand} {ts : Array TypeId} {id n : Nat} {xs : List Int} (ho : o.op = .call { callee := .value f, args := #[x], argTypes := ts }) (hf : s.get f = .fn 54 []) (hx : s.get x = .row id n) (hg : hget s.hp id = some (.row 3 1 (xs.map datI))) (hn : n = xs.length) (hl : xs.length ≤ 16777216)
    (hK : K (AS.put ⟨s.fr, hset s.hp id (.row 3 1 ((sortUp xs).map datI)), s.nx⟩ o.dst (.tup []))) : PO Tryz.prog o s K := by
  refine po_rewriteS ho hf hx hg hn ⟨_, Tryz.func54, rfl, rfl⟩ (sortUp_len xs) (fun w g c h => ?_) (fun w => ?_) hK
  · subst hn
    have h' : w.ownsRow g 3 1 (.slice (some ⟨g, 0, none⟩) xs.length c) xs.length (xs.map (Value.int .i64)) := by
      have := h
      unfold OwnS at this
      rwa [flat_encI2] at this
    obtain ⟨g', cap', hv', _, hlt, _, _, _, hH⟩ := Go.Lib.holds_of_ownsRow h' (by simp)
    cases hv'
    refine (Tryz.slices_Sort_int g 0 c xs w hH hlt (by omega)).mono fun e w' ⟨he, q, os, hw⟩ => ?_
    subst hw
    refine ⟨he, ?_, Go.grownBy_sortedI _, Nat.le_add_right _ _⟩
    have h1 := Go.Lib.ownsRow_putRow (q := q) (k := xs.length) h' (sortUp_len xs) (Nat.le_refl _)
    rw [List.take_of_length_le (by rw [sortUp_len]; exact Nat.le_refl _)] at h1
    have hgb : ∀ W : World, Go.RowKit.Below W.heap.size W (Go.Sort.grow W os) := fun W => ⟨rfl, rfl, rfl, by simp [Go.Sort.grow], fun k hk => by simp [Go.Sort.grow, Array.getElem?_append_left hk]⟩
    have h2 : OwnS encI 1 3 (Go.Sort.putRow (Value.int .i64) (Go.Sort.ahead w q) g 0 (sortUp xs).toArray) g (.slice (some ⟨g, 0, none⟩) xs.length c) (sortUp xs) := by
      unfold OwnS
      rw [flat_encI2, sortUp_len]
      exact h1
    exact h2.ext (hgb _)
  · exact (Tryz.slices_Sort_int_none _ _ w).mono fun e w' ⟨he, hw⟩ => ⟨he, hw⟩
end Go.Proofs.YthocihmhljmgdaaGreatDoor
