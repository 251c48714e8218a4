/-
  WithdrawnBefore: who has withdrawn, in ascending order; the program's function and the reference's, in the abstract machine.
-/
import Derived.Test.YthocihmhljmgdaaGreatDoorZSo
import Derived.Test.YthocihmhljmgdaaGreatDoorZOo
import Derived.Test.YthocihmhljmgdaaGreatDoorZNu
import Derived.Test.YthocihmhljmgdaaGreatDoorZMf
import Derived.Test.YthocihmhljmgdaaGreatDoorZG
import Derived.Test.YthocihmhljmgdaaGreatDoorZNoteW
set_option linter.unusedSimpArgs false
set_option linter.unusedVariables false
set_option maxHeartbeats 2000000
set_option maxRecDepth 100000
namespace Go.Proofs.YthocihmhljmgdaaGreatDoor
open Go.RowKit

def ltI (a b : Int) : Bool := decide (a < b)
theorem ltI_tot : TotOn ltI (fun _ => True) := ⟨fun _ _ h => by simp [ltI] at h ⊢; omega, fun _ _ _ h1 h2 => by simp [ltI] at h1 h2 ⊢; omega, fun _ _ h1 h2 => by simp [ltI] at h1 h2; omega⟩
def insAll (xs : List Int) : List Int := xs.foldl (fun acc x => insO ltI x acc) []
theorem insAll_snoc (xs : List Int) (x : Int) : insAll (xs ++ [x]) = insO ltI x (insAll xs) := by unfold insAll; rw [List.foldl_append]; rfl
theorem insAll_aux : ∀ (xs acc : List Int), acc.Pairwise (fun a b => ltI a b = true) → (∀ x ∈ xs, x ∉ acc) → xs.Pairwise (· ≠ ·) → (xs.foldl (fun acc x => insO ltI x acc) acc).Pairwise (fun a b => ltI a b = true) ∧ (xs.foldl (fun acc x => insO ltI x acc) acc).Perm (acc ++ xs)
  | [], acc, h, _, _ => ⟨h, by simp⟩
  | x :: xs, acc, h, hd, hp => by
    have hp1 := List.pairwise_cons.1 hp
    have h1 := insO_sorted ltI_tot (x := x) trivial (l := acc) (fun _ _ => trivial) (fun y hy e => hd x (by simp) (e ▸ hy)) h
    have hm : ∀ y, y ∈ insO ltI x acc ↔ y = x ∨ y ∈ acc := fun y => by rw [(insO_perm ltI x acc).mem_iff, List.mem_cons]
    obtain ⟨h2, h3⟩ := insAll_aux xs (insO ltI x acc) h1 (fun y hy hy2 => by
      rcases (hm y).1 hy2 with e | e
      · exact hp1.1 y hy e.symm
      · exact hd y (List.mem_cons_of_mem _ hy) e) hp1.2
    refine ⟨h2, h3.trans ?_⟩
    have h4 : (insO ltI x acc ++ xs).Perm ((x :: acc) ++ xs) := (insO_perm ltI x acc).append_right xs
    exact h4.trans (by simpa using (List.perm_middle (a := x) (l₁ := acc) (l₂ := xs)).symm)
theorem insAll_sorted {xs : List Int} (h : xs.Pairwise (· ≠ ·)) : (insAll xs).Pairwise (fun a b => ltI a b = true) := (insAll_aux xs [] List.Pairwise.nil (by simp) h).1
theorem insAll_perm {xs : List Int} (h : xs.Pairwise (· ≠ ·)) : (insAll xs).Perm xs := by have h1 := (insAll_aux xs [] List.Pairwise.nil (by simp) h).2; rwa [List.nil_append] at h1
theorem sortUp_ins {xs : List Int} (h : xs.Pairwise (· ≠ ·)) : sortUp xs = insAll xs := by
  have hp := insAll_perm h
  refine List.Perm.eq_of_pairwise (le := fun a b : Int => a ≤ b) (fun a b _ _ h1 h2 => by omega) (sortUp_sorted xs) ((insAll_sorted h).imp fun h => by simp [ltI] at h; omega) ((sortUp_perm xs).trans hp.symm)
def wbP (s : Int) (x : NoteD) : Bool := decide (x.before ≤ s)
def wbL (l : List NoteD) (s : Int) : List Int := fm (wbP s) NoteD.skater l
theorem notes_ne {l : List NoteD} (h : NotesOk l) : (l.map NoteD.skater).Pairwise (· ≠ ·) := by
  rw [List.pairwise_iff_getElem]
  intro i j hi hj hij e
  rw [List.length_map] at hi hj
  simp only [List.getElem_map] at e
  have hx := List.getElem?_eq_getElem hi
  have hy := List.getElem?_eq_getElem hj
  have h1 := (h.2 j _ hy).1
  refine h1.2.2.2.2.2.2.1 ?_
  rw [← e]
  refine List.mem_map.2 ⟨l[i], List.mem_of_getElem? (i := i) ?_, rfl⟩
  rw [List.getElem?_take_of_lt hij]
  exact hx
theorem wbL_ne {l : List NoteD} (h : NotesOk l) (s : Int) (k : Nat) : (wbL (l.take k) s).Pairwise (· ≠ ·) := by
  refine List.Pairwise.sublist ?_ (notes_ne h)
  unfold wbL fm
  exact ((List.filter_sublist (p := wbP s) (l := l.take k)).trans (List.take_sublist k l)).map NoteD.skater
noncomputable abbrev ansWithdrawnBefore (l : List NoteD) (s : Int) : Option (List Int) := optP (NotesOk l ∧ 0 ≤ s ∧ s ≤ 2) (insAll (wbL l s))
theorem l1Put_ok (xs : List Int) (n : Int) (hxs : xs.length ≤ 1048576) (hs : xs.Pairwise (fun a b => ltI a b = true)) (hne : n ∉ xs) : FnEq Tryz.prog 56 [.d (.lst 1 (xs.map datI)), .d (.int .i64 n)] [.row 3 1 ((insO ltI n xs).map datI)] := by
  refine fn_ok G_ok Tryz.func56 rfl rfl ?_; simp only [Tryz.ntmps56, List.length_cons, List.length_nil, Nat.reduceAdd, Nat.reduceSub, enm]
  repeat' (first | ((with_reducible first | (refine hK _ ?_; clear hK K) | refine stq fun K' hK' => ?_ | refine stc ?_); try simp only [go_sem]) | (with_reducible first | refine stp ?_ | (refine hK' _ ?_; clear hK' K') | refine kN kl56 fun K hK => ?_ | refine kO fun K hK => ?_) | (refine xS rfl fun K' hK' => ?_; simp only [go_sem]) | refine iB ?_ | (with_reducible refine pK_mk ?_ ?_ <;> (intro hc; (try simp only [go_sem]); (try simp at hc); try (exfalso; omega))) | with_reducible refine And.intro (by first | omega | (unfold inI; omega)) ?_)
  refine (fun (key : ∀ (i : Nat), i ≤ xs.length → (∀ j y, j < i → xs[j]? = some y → y < n) → (∀ y, xs[i]? = some y → n < y) → insO ltI n xs = xs.take i ++ n :: xs.drop i) => ?main) ?key
  case key =>
    intro i hi h1 h2
    refine insO_at ltI_tot trivial xs i (fun _ _ => trivial) hs hi (fun j y hj hy => ?_) (fun y h0 hy => by simp [ltI]; exact h1 _ y (by omega) hy)
    have hil : i < xs.length := by have := (List.getElem?_eq_some_iff.1 hy).1; omega
    have hz := List.getElem?_eq_getElem hil
    have h3 := h2 _ hz
    rcases Nat.eq_or_lt_of_le hj with e | e
    · subst e
      rw [hz] at hy
      cases hy
      simp [ltI]
      omega
    · have h4 := List.pairwise_iff_getElem.1 hs i j hil (List.getElem?_eq_some_iff.1 hy).1 e
      rw [(List.getElem?_eq_some_iff.1 hy).2] at h4
      simp [ltI] at h4 ⊢
      omega
  case main =>
    refine pw_loop_over [4, 5, 7, 8, 9, 10, 11, 12, 13, 14, 15, 16, 17, 18, 19, 20] (fun i : Nat => [(5, .d (.int .i64 (i : Int)))]) (fun _ => []) 0 (fun i => i ≤ xs.length ∧ ∀ j y, j < i → xs[j]? = some y → y < n) (fun i => xs.length - i) 0 ⟨by omega, fun j y h => absurd h (by omega)⟩ (fits_mk [] (by simp [renL_d, bdL_d, sg, over, wipe, wl, memN, ins, rm, lk, fitFr, fit1, ren, renL, bd, bdL, app, fitHp, hget, renB, bdB] <;> omega)) ?_
    rintro i ⟨hi, hJ⟩
    simp only [over, wipe, wl, memN, ins, rm, if_true, if_false, Nat.reduceEqDiff, Bool.false_eq_true, reduceCtorEq]
    by_cases hlt : i < xs.length
    · have hx := List.getElem?_eq_getElem hlt
      generalize xs[i] = y at hx
      have hny : y ≠ n := fun e => hne (e ▸ List.mem_of_getElem? hx)
      by_cases hyn : y < n
      · have hlt' : (i : Int) < (xs.length : Int) := by omega
        repeat' (first | ((with_reducible first | (refine hK _ ?_; clear hK K) | refine stq fun K' hK' => ?_ | refine stc ?_); try simp only [go_sem, List.getElem?_map, hx, Option.map_some, datI, hlt, hlt', hyn]) | (with_reducible first | refine stp ?_ | (refine hK' _ ?_; clear hK' K') | refine kN kl56 fun K hK => ?_ | refine kO fun K hK => ?_) | (refine xS rfl fun K' hK' => ?_; simp only [go_sem, List.getElem?_map, hx, Option.map_some, datI, hlt, hlt', hyn]) | refine iB ?_ | (with_reducible refine pK_mk ?_ ?_ <;> (intro hc; (try simp only [go_sem, List.getElem?_map, hx, Option.map_some, datI, hlt, hlt', hyn]); (try simp at hc); try (exfalso; omega))) | with_reducible refine And.intro (by first | omega | (unfold inI; omega)) ?_)
        all_goals exact ⟨i + 1, ⟨by omega, fun j z hj hz => by
          by_cases e : j = i
          · subst e; rw [hx] at hz; cases hz; exact hyn
          · exact hJ j z (by omega) hz⟩, by omega, (fits_mk [] (by simp [renL_d, bdL_d, sg, over, wipe, wl, memN, ins, rm, lk, fitFr, fit1, ren, renL, bd, bdL, app, fitHp, hget, renB, bdB] <;> omega))⟩
      · have hins := key i hi hJ fun z hz => by rw [hx] at hz; cases hz; omega
        have hlt' : (i : Int) < (xs.length : Int) := by omega
        have hin : i ≤ xs.length := hi
        have htl : (List.take i (List.map datI xs)).length = i := by simp; omega
        have htx : List.take xs.length (List.map datI xs) = List.map datI xs := List.take_of_length_le (by simp)
        have hdl : (List.drop i (List.map datI xs)).length = xs.length - i := by simp
        have hcont : List.take i (List.map datI xs) ++ [[D.int .i64 n]] ++ List.drop i (List.map datI xs) = (insO ltI n xs).map datI := by rw [hins]; simp [datI]
        have hcont2 : List.take i (List.map datI xs) ++ ([D.int .i64 n] :: List.drop i (List.map datI xs)) = (insO ltI n xs).map datI := by rw [hins]; simp [datI]
        have hil : (insO ltI n xs).length = i + 1 + (xs.length - i) := by rw [(insO_perm ltI n xs).length_eq, List.length_cons]; omega
        repeat' (first | ((with_reducible first | (refine hK _ ?_; clear hK K) | refine stq fun K' hK' => ?_ | refine stc ?_); try simp only [go_sem, List.getElem?_map, hx, Option.map_some, datI, hlt, hlt', hyn, hny, hin, htl, htx, hdl, List.length_append, List.length_cons, List.length_nil, Nat.zero_add]) | (with_reducible first | refine stp ?_ | (refine hK' _ ?_; clear hK' K') | refine kN kl56 fun K hK => ?_ | refine kO fun K hK => ?_) | (refine xS rfl fun K' hK' => ?_; simp only [go_sem, List.getElem?_map, hx, Option.map_some, datI, hlt, hlt', hyn, hny, hin, htl, htx, hdl, List.length_append, List.length_cons, List.length_nil, Nat.zero_add]) | refine iB ?_ | (with_reducible refine pK_mk ?_ ?_ <;> (intro hc; (try simp only [go_sem, List.getElem?_map, hx, Option.map_some, datI, hlt, hlt', hyn, hny, hin, htl, htx, hdl, List.length_append, List.length_cons, List.length_nil, Nat.zero_add]); (try simp at hc); try (exfalso; omega))) | with_reducible refine And.intro (by first | omega | (unfold inI; omega)) ?_)
        all_goals first
          | (exfalso; omega)
          | (refine retQ_ret rfl (by simp only [hcont, hcont2, hil, retL, ret1, hget, lk, List.length_map, List.length_nil, List.length_append, List.length_take, if_true, if_false, Nat.reduceEqDiff, Nat.reduceBEq, Bool.false_eq_true, Option.some.injEq]; rfl) (by simp [rowsOf, lk]) ?_; rfl)
          | skip
    · have hins := key i hi hJ fun z hz => by rw [List.getElem?_eq_none (by omega)] at hz; cases hz
      have hlt' : ¬ (i : Int) < (xs.length : Int) := by omega
      have hin : i ≤ xs.length := hi
      have htl : (List.take i (List.map datI xs)).length = i := by simp; omega
      have htx : List.take xs.length (List.map datI xs) = List.map datI xs := List.take_of_length_le (by simp)
      have hdl : (List.drop i (List.map datI xs)).length = xs.length - i := by simp
      have hcont : List.take i (List.map datI xs) ++ [[D.int .i64 n]] ++ List.drop i (List.map datI xs) = (insO ltI n xs).map datI := by rw [hins]; simp [datI]
      have hcont2 : List.take i (List.map datI xs) ++ ([D.int .i64 n] :: List.drop i (List.map datI xs)) = (insO ltI n xs).map datI := by rw [hins]; simp [datI]
      have hil : (insO ltI n xs).length = i + 1 + (xs.length - i) := by rw [(insO_perm ltI n xs).length_eq, List.length_cons]; omega
      repeat' (first | ((with_reducible first | (refine hK _ ?_; clear hK K) | refine stq fun K' hK' => ?_ | refine stc ?_); try simp only [go_sem, hlt, hlt', hin, htl, htx, hdl, List.length_append, List.length_cons, List.length_nil, Nat.zero_add]) | (with_reducible first | refine stp ?_ | (refine hK' _ ?_; clear hK' K') | refine kN kl56 fun K hK => ?_ | refine kO fun K hK => ?_) | (refine xS rfl fun K' hK' => ?_; simp only [go_sem, hlt, hlt', hin, htl, htx, hdl, List.length_append, List.length_cons, List.length_nil, Nat.zero_add]) | refine iB ?_ | (with_reducible refine pK_mk ?_ ?_ <;> (intro hc; (try simp only [go_sem, hlt, hlt', hin, htl, htx, hdl, List.length_append, List.length_cons, List.length_nil, Nat.zero_add]); (try simp at hc); try (exfalso; omega))) | with_reducible refine And.intro (by first | omega | (unfold inI; omega)) ?_)
      all_goals first
        | (exfalso; omega)
        | (refine retQ_ret rfl (by simp only [hcont, hcont2, hil, retL, ret1, hget, lk, List.length_map, List.length_nil, List.length_append, List.length_take, if_true, if_false, Nat.reduceEqDiff, Nat.reduceBEq, Bool.false_eq_true, Option.some.injEq]; rfl) (by simp [rowsOf, lk]) ?_; rfl)
        | skip
theorem impl_WithdrawnBefore_ok (xs0 : List NoteD) (a1 : Int) (hl0 : xs0.length ≤ 1048576) : FnEq Tryz.prog 11 [.d (.lst 3 (xs0.map NoteD.dat)), .d (.int .i64 a1)] [.row 3 1 (((ansWithdrawnBefore xs0 a1).getD []).map datI), .d (.bool (ansWithdrawnBefore xs0 a1).isSome)] := by
  refine fn_ok G_ok Tryz.func11 rfl rfl ?_; simp only [Tryz.ntmps11, List.length_cons, List.length_nil, Nat.reduceAdd, Nat.reduceSub, enm]
  by_cases hv : NotesOk xs0
  · have hb := bP_true hv
    have h40 := hv.1
    by_cases hf : 0 ≤ a1 ∧ a1 ≤ 2
    · have hans : ansWithdrawnBefore xs0 a1 = some (insAll (wbL xs0 a1)) := optP_pos ⟨hv, hf⟩
      have hne := wbL_ne hv a1 xs0.length
      rw [List.take_length] at hne
      have hsi := sortUp_ins hne
      have hwl : (wbL xs0 a1).length ≤ xs0.length := fm_len _ _ _
      repeat' (first | ((with_reducible first | (refine hK _ ?_; clear hK K) | refine stq fun K' hK' => ?_ | refine stc ?_); try simp only [go_sem, hb]) | (with_reducible first | refine stp ?_ | (refine hK' _ ?_; clear hK' K') | refine kN kl11 fun K hK => ?_ | refine kO fun K hK => ?_) | (refine xS rfl fun K' hK' => ?_; simp only [go_sem, hb]) | ((with_reducible apply CallK.eq); (· with_reducible first | exact impl_AreNotes_ok xs0 hl0 | exact isSegment_ok _); (· simp [RV.flat, D.sc, datI]); try simp only [go_sem, hb]) | refine iB ?_ | (with_reducible refine pK_mk ?_ ?_ <;> (intro hc; (try simp only [go_sem, hb]); (try simp at hc); try (exfalso; omega))) | with_reducible refine And.intro (by first | omega | (unfold inI; omega)) ?_)
      all_goals first
        | (exfalso; omega)
        | skip
      refine pw_loop_over [4, 5, 6, 8, 20, 21, 22, 23, 24, 25, 26, 27, 28, 29, 30, 31, 32, 33] (fun k : Nat => [(20, .d (.int .i64 (k : Int))), (6, .row 0 (wbL (xs0.take k) a1).length)]) (fun k : Nat => [(0, .row 3 1 ((wbL (xs0.take k) a1).map datI))]) 1 (fun k : Nat => k ≤ xs0.length) (fun k : Nat => xs0.length - k) 0 (Nat.zero_le _) (fits_mk [] (by simp [renL_d, bdL_d, sg, over, wipe, wl, memN, ins, rm, lk, fitFr, fit1, ren, renL, bd, bdL, app, fitHp, hget, renB, bdB, wbL, fm_nil] <;> omega)) ?_
      intro k hk
      have hL : (wbL (xs0.take k) a1).length ≤ k := fm_take_len _ _ xs0 k
      simp only [over, wipe, wl, memN, ins, rm, if_true, if_false, Nat.reduceEqDiff, Bool.false_eq_true, reduceCtorEq]
      by_cases hlt : k < xs0.length
      · have hx := List.getElem?_eq_getElem hlt
        generalize xs0[k] = x at hx
        repeat' (first | ((with_reducible first | (refine hK _ ?_; clear hK K) | refine stq fun K' hK' => ?_ | refine stc ?_); try simp only [go_sem, hlt, List.getElem?_map, hx, Option.map_some, datI, NoteD.dat]) | (with_reducible first | refine stp ?_ | (refine hK' _ ?_; clear hK' K') | refine kN kl11 fun K hK => ?_ | refine kO fun K hK => ?_) | (refine xS rfl fun K' hK' => ?_; simp only [go_sem, hlt, List.getElem?_map, hx, Option.map_some, datI, NoteD.dat]) | refine iB ?_ | (with_reducible refine pK_mk ?_ ?_ <;> (intro hc; (try simp only [go_sem, hlt, List.getElem?_map, hx, Option.map_some, datI, NoteD.dat]); (try simp at hc); try (exfalso; omega))) | with_reducible refine And.intro (by first | omega | (unfold inI; omega)) ?_)
        · have e1 : wbL (xs0.take (k + 1)) a1 = wbL (xs0.take k) a1 ++ [x.skater] := fm_yes hx (by simpa [wbP] using hc)
          exact ⟨k + 1, by omega, by omega, (fits_mk [] (by simp [renL_d, bdL_d, sg, over, wipe, wl, memN, ins, rm, lk, fitFr, fit1, ren, renL, bd, bdL, app, fitHp, hget, renB, bdB, e1, datI] <;> omega))⟩
        · have e1 : wbL (xs0.take (k + 1)) a1 = wbL (xs0.take k) a1 := fm_no hx (by simpa [wbP] using hc)
          exact ⟨k + 1, by omega, by omega, (fits_mk [] (by simp [renL_d, bdL_d, sg, over, wipe, wl, memN, ins, rm, lk, fitFr, fit1, ren, renL, bd, bdL, app, fitHp, hget, renB, bdB, e1] <;> omega))⟩
      · have e : xs0.take k = xs0 := List.take_of_length_le (by omega)
        repeat' (first | ((with_reducible first | (refine hK _ ?_; clear hK K) | refine stq fun K' hK' => ?_ | refine stc ?_); try simp only [go_sem, e]) | (with_reducible first | refine stp ?_ | (refine hK' _ ?_; clear hK' K') | refine kN kl11 fun K hK => ?_ | refine kO fun K hK => ?_) | (refine xS rfl fun K' hK' => ?_; simp only [go_sem, e]) | refine iB ?_ | (with_reducible refine pK_mk ?_ ?_ <;> (intro hc; (try simp only [go_sem, e]); (try simp at hc); try (exfalso; omega))) | with_reducible refine And.intro (by first | omega | (unfold inI; omega)) ?_)
        refine CallK.po (po_sortUp rfl rfl rfl rfl rfl (by omega) ?_)
        have hsl := sortUp_len (wbL xs0 a1)
        repeat' (first | ((with_reducible first | (refine hK _ ?_; clear hK K) | refine stq fun K' hK' => ?_ | refine stc ?_); try simp only [go_sem, hsl]) | (with_reducible first | refine stp ?_ | (refine hK' _ ?_; clear hK' K') | refine kN kl11 fun K hK => ?_ | refine kO fun K hK => ?_) | (refine xS rfl fun K' hK' => ?_; simp only [go_sem, hsl]) | refine iB ?_ | (with_reducible refine pK_mk ?_ ?_ <;> (intro hc; (try simp only [go_sem, hsl]); (try simp at hc); try (exfalso; omega))) | with_reducible refine And.intro (by first | omega | (unfold inI; omega)) ?_)
        have hsl2 : (insAll (wbL xs0 a1)).length = (wbL xs0 a1).length := by rw [← hsi]; exact hsl
        refine retQ_ret rfl (by simp only [hsi, hsl2, retL, ret1, hget, lk, List.length_map, List.length_nil, List.length_append, List.length_take, if_true, if_false, Nat.reduceEqDiff, Nat.reduceBEq, Bool.false_eq_true, Option.some.injEq]; rfl) (by simp [rowsOf, lk]) ?_; rw [hans]; rfl
    · have hans : ansWithdrawnBefore xs0 a1 = none := optP_neg fun h => hf h.2
      repeat' (first | ((with_reducible first | (refine hK _ ?_; clear hK K) | refine stq fun K' hK' => ?_ | refine stc ?_); try simp only [go_sem, hb]) | (with_reducible first | refine stp ?_ | (refine hK' _ ?_; clear hK' K') | refine kN kl11 fun K hK => ?_ | refine kO fun K hK => ?_) | (refine xS rfl fun K' hK' => ?_; simp only [go_sem, hb]) | ((with_reducible apply CallK.eq); (· with_reducible first | exact impl_AreNotes_ok xs0 hl0 | exact isSegment_ok _); (· simp [RV.flat, D.sc, datI]); try simp only [go_sem, hb]) | refine iB ?_ | (with_reducible refine pK_mk ?_ ?_ <;> (intro hc; (try simp only [go_sem, hb]); (try simp at hc); try (exfalso; omega))) | with_reducible refine And.intro (by first | omega | (unfold inI; omega)) ?_)
      all_goals first
        | (exfalso; omega)
        | (refine retQ_ret rfl (by simp only [retL, ret1, hget, lk, List.length_map, List.length_nil, List.length_append, List.length_take, if_true, if_false, Nat.reduceEqDiff, Nat.reduceBEq, Bool.false_eq_true, Option.some.injEq]; rfl) (by simp [rowsOf, lk]) ?_; rw [hans]; rfl)
  · have hb := bP_false hv
    have hans : ansWithdrawnBefore xs0 a1 = none := optP_neg fun h => hv h.1
    repeat' (first | ((with_reducible first | (refine hK _ ?_; clear hK K) | refine stq fun K' hK' => ?_ | refine stc ?_); try simp only [go_sem, hb]) | (with_reducible first | refine stp ?_ | (refine hK' _ ?_; clear hK' K') | refine kN kl11 fun K hK => ?_ | refine kO fun K hK => ?_) | (refine xS rfl fun K' hK' => ?_; simp only [go_sem, hb]) | ((with_reducible apply CallK.eq); (· with_reducible first | exact impl_AreNotes_ok xs0 hl0); (· simp [RV.flat, D.sc, datI]); try simp only [go_sem, hb]) | refine iB ?_ | (with_reducible refine pK_mk ?_ ?_ <;> (intro hc; (try simp only [go_sem, hb]); (try simp at hc); try (exfalso; omega))) | with_reducible refine And.intro (by first | omega | (unfold inI; omega)) ?_)
    all_goals (refine retQ_ret rfl (by simp only [retL, ret1, hget, lk, List.length_map, List.length_nil, List.length_append, List.length_take, if_true, if_false, Nat.reduceEqDiff, Nat.reduceBEq, Bool.false_eq_true, Option.some.injEq]; rfl) (by simp [rowsOf, lk]) ?_; rw [hans]; rfl)
theorem spec_WithdrawnBefore_ok (xs0 : List NoteD) (a1 : Int) (hl0 : xs0.length ≤ 1048576) : FnEq Tryz.prog 12 [.d (.lst 3 (xs0.map NoteD.dat)), .d (.int .i64 a1)] [.row 3 1 (((ansWithdrawnBefore xs0 a1).getD []).map datI), .d (.bool (ansWithdrawnBefore xs0 a1).isSome)] := by
  refine fn_ok G_ok Tryz.func12 rfl rfl ?_; simp only [Tryz.ntmps12, List.length_cons, List.length_nil, Nat.reduceAdd, Nat.reduceSub, enm]
  by_cases hv : NotesOk xs0
  · have hb := bP_true hv
    have h40 := hv.1
    by_cases hf : 0 ≤ a1 ∧ a1 ≤ 2
    · have hans : ansWithdrawnBefore xs0 a1 = some (insAll (wbL xs0 a1)) := optP_pos ⟨hv, hf⟩
      repeat' (first | ((with_reducible first | (refine hK _ ?_; clear hK K) | refine stq fun K' hK' => ?_ | refine stc ?_); try simp only [go_sem, hb]) | (with_reducible first | refine stp ?_ | (refine hK' _ ?_; clear hK' K') | refine kN kl12 fun K hK => ?_ | refine kO fun K hK => ?_) | (refine xS rfl fun K' hK' => ?_; simp only [go_sem, hb]) | ((with_reducible apply CallK.eq); (· with_reducible first | exact wdGood_ok xs0 hl0 | exact wdSegment_ok _); (· simp [RV.flat, D.sc, datI]); try simp only [go_sem, hb]) | refine iB ?_ | (with_reducible refine pK_mk ?_ ?_ <;> (intro hc; (try simp only [go_sem, hb]); (try simp at hc); try (exfalso; omega))) | with_reducible refine And.intro (by first | omega | (unfold inI; omega)) ?_)
      all_goals first
        | (exfalso; omega)
        | skip
      refine pw_loop_over [4, 5, 6, 8, 19, 20, 21, 22, 23, 24, 25, 26, 27, 28, 29, 30, 31] (fun k : Nat => [(19, .d (.int .i64 (k : Int))), (6, .row 0 (insAll (wbL (xs0.take k) a1)).length)]) (fun k : Nat => [(0, .row 3 1 ((insAll (wbL (xs0.take k) a1)).map datI))]) 1 (fun k : Nat => k ≤ xs0.length) (fun k : Nat => xs0.length - k) 0 (Nat.zero_le _) (fits_mk [] (by simp [renL_d, bdL_d, sg, over, wipe, wl, memN, ins, rm, lk, fitFr, fit1, ren, renL, bd, bdL, app, fitHp, hget, renB, bdB, wbL, fm_nil, insAll, List.foldl_nil] <;> omega)) ?_
      intro k hk
      have hw1 := wbL_ne hv a1 k
      have hw2 := insAll_sorted hw1
      have hw3 := insAll_perm hw1
      have hw4 : (wbL (xs0.take k) a1).length ≤ k := fm_take_len _ _ xs0 k
      have hw5 := hw3.length_eq
      simp only [over, wipe, wl, memN, ins, rm, if_true, if_false, Nat.reduceEqDiff, Bool.false_eq_true, reduceCtorEq]
      by_cases hlt : k < xs0.length
      · have hx := List.getElem?_eq_getElem hlt
        generalize xs0[k] = x at hx
        by_cases hp : x.before ≤ a1
        · have e0 : wbL (xs0.take (k + 1)) a1 = wbL (xs0.take k) a1 ++ [x.skater] := fm_yes hx (by simpa [wbP] using hp)
          have e1 : insAll (wbL (xs0.take (k + 1)) a1) = insO ltI x.skater (insAll (wbL (xs0.take k) a1)) := by rw [e0, insAll_snoc]
          have hw6 := wbL_ne hv a1 (k + 1)
          rw [e0] at hw6
          have hni : x.skater ∉ insAll (wbL (xs0.take k) a1) := fun hm => by
            have hm' := hw3.mem_iff.1 hm
            exact (List.pairwise_append.1 hw6).2.2 _ hm' _ (by simp) rfl
          have hlo := (insO_perm ltI x.skater (insAll (wbL (xs0.take k) a1))).length_eq
          generalize insAll (wbL (xs0.take k) a1) = acc at hw2 hw3 hw5 hni e1 hlo
          repeat' (first | ((with_reducible first | (refine hK _ ?_; clear hK K) | refine stq fun K' hK' => ?_ | refine stc ?_); try simp only [go_sem, hlt, List.getElem?_map, hx, Option.map_some, datI, NoteD.dat, hp]) | (with_reducible first | refine stp ?_ | (refine hK' _ ?_; clear hK' K') | refine kN kl12 fun K hK => ?_ | refine kO fun K hK => ?_) | (refine xS rfl fun K' hK' => ?_; simp only [go_sem, hlt, List.getElem?_map, hx, Option.map_some, datI, NoteD.dat, hp]) | ((with_reducible apply CallK.eq); (· with_reducible first | exact l1Put_ok acc x.skater (by omega) hw2 hni); (· simp [RV.flat, D.sc, datI]); try simp only [go_sem, hlt, List.getElem?_map, hx, Option.map_some, datI, NoteD.dat, hp]) | refine iB ?_ | (with_reducible refine pK_mk ?_ ?_ <;> (intro hc; (try simp only [go_sem, hlt, List.getElem?_map, hx, Option.map_some, datI, NoteD.dat, hp]); (try simp at hc); try (exfalso; omega))) | with_reducible refine And.intro (by first | omega | (unfold inI; omega)) ?_)
          all_goals first
            | (exfalso; omega)
            | exact ⟨k + 1, by omega, by omega, (fits_mk [] (by simp [renL_d, bdL_d, sg, over, wipe, wl, memN, ins, rm, lk, fitFr, fit1, ren, renL, bd, bdL, app, fitHp, hget, renB, bdB, e1, List.length_map] <;> omega))⟩
        · have e1 : wbL (xs0.take (k + 1)) a1 = wbL (xs0.take k) a1 := fm_no hx (by simpa [wbP] using hp)
          repeat' (first | ((with_reducible first | (refine hK _ ?_; clear hK K) | refine stq fun K' hK' => ?_ | refine stc ?_); try simp only [go_sem, hlt, List.getElem?_map, hx, Option.map_some, datI, NoteD.dat, hp]) | (with_reducible first | refine stp ?_ | (refine hK' _ ?_; clear hK' K') | refine kN kl12 fun K hK => ?_ | refine kO fun K hK => ?_) | (refine xS rfl fun K' hK' => ?_; simp only [go_sem, hlt, List.getElem?_map, hx, Option.map_some, datI, NoteD.dat, hp]) | refine iB ?_ | (with_reducible refine pK_mk ?_ ?_ <;> (intro hc; (try simp only [go_sem, hlt, List.getElem?_map, hx, Option.map_some, datI, NoteD.dat, hp]); (try simp at hc); try (exfalso; omega))) | with_reducible refine And.intro (by first | omega | (unfold inI; omega)) ?_)
          all_goals first
            | (exfalso; omega)
            | exact ⟨k + 1, by omega, by omega, (fits_mk [] (by simp [renL_d, bdL_d, sg, over, wipe, wl, memN, ins, rm, lk, fitFr, fit1, ren, renL, bd, bdL, app, fitHp, hget, renB, bdB, e1] <;> omega))⟩
      · have e : xs0.take k = xs0 := List.take_of_length_le (by omega)
        repeat' (first | ((with_reducible first | (refine hK _ ?_; clear hK K) | refine stq fun K' hK' => ?_ | refine stc ?_); try simp only [go_sem, e]) | (with_reducible first | refine stp ?_ | (refine hK' _ ?_; clear hK' K') | refine kN kl12 fun K hK => ?_ | refine kO fun K hK => ?_) | (refine xS rfl fun K' hK' => ?_; simp only [go_sem, e]) | refine iB ?_ | (with_reducible refine pK_mk ?_ ?_ <;> (intro hc; (try simp only [go_sem, e]); (try simp at hc); try (exfalso; omega))) | with_reducible refine And.intro (by first | omega | (unfold inI; omega)) ?_)
        refine retQ_ret rfl (by simp only [e, retL, ret1, hget, lk, List.length_map, List.length_nil, List.length_append, List.length_take, if_true, if_false, Nat.reduceEqDiff, Nat.reduceBEq, Bool.false_eq_true, Option.some.injEq]; rfl) (by simp [rowsOf, lk]) ?_; rw [hans]; rfl
    · have hans : ansWithdrawnBefore xs0 a1 = none := optP_neg fun h => hf h.2
      repeat' (first | ((with_reducible first | (refine hK _ ?_; clear hK K) | refine stq fun K' hK' => ?_ | refine stc ?_); try simp only [go_sem, hb]) | (with_reducible first | refine stp ?_ | (refine hK' _ ?_; clear hK' K') | refine kN kl12 fun K hK => ?_ | refine kO fun K hK => ?_) | (refine xS rfl fun K' hK' => ?_; simp only [go_sem, hb]) | ((with_reducible apply CallK.eq); (· with_reducible first | exact wdGood_ok xs0 hl0 | exact wdSegment_ok _); (· simp [RV.flat, D.sc, datI]); try simp only [go_sem, hb]) | refine iB ?_ | (with_reducible refine pK_mk ?_ ?_ <;> (intro hc; (try simp only [go_sem, hb]); (try simp at hc); try (exfalso; omega))) | with_reducible refine And.intro (by first | omega | (unfold inI; omega)) ?_)
      all_goals first
        | (exfalso; omega)
        | (refine retQ_ret rfl (by simp only [retL, ret1, hget, lk, List.length_map, List.length_nil, List.length_append, List.length_take, if_true, if_false, Nat.reduceEqDiff, Nat.reduceBEq, Bool.false_eq_true, Option.some.injEq]; rfl) (by simp [rowsOf, lk]) ?_; rw [hans]; rfl)
  · have hb := bP_false hv
    have hans : ansWithdrawnBefore xs0 a1 = none := optP_neg fun h => hv h.1
    repeat' (first | ((with_reducible first | (refine hK _ ?_; clear hK K) | refine stq fun K' hK' => ?_ | refine stc ?_); try simp only [go_sem, hb]) | (with_reducible first | refine stp ?_ | (refine hK' _ ?_; clear hK' K') | refine kN kl12 fun K hK => ?_ | refine kO fun K hK => ?_) | (refine xS rfl fun K' hK' => ?_; simp only [go_sem, hb]) | ((with_reducible apply CallK.eq); (· with_reducible first | exact wdGood_ok xs0 hl0); (· simp [RV.flat, D.sc, datI]); try simp only [go_sem, hb]) | refine iB ?_ | (with_reducible refine pK_mk ?_ ?_ <;> (intro hc; (try simp only [go_sem, hb]); (try simp at hc); try (exfalso; omega))) | with_reducible refine And.intro (by first | omega | (unfold inI; omega)) ?_)
    all_goals (refine retQ_ret rfl (by simp only [retL, ret1, hget, lk, List.length_map, List.length_nil, List.length_append, List.length_take, if_true, if_false, Nat.reduceEqDiff, Nat.reduceBEq, Bool.false_eq_true, Option.some.injEq]; rfl) (by simp [rowsOf, lk]) ?_; rw [hans]; rfl)
end Go.Proofs.YthocihmhljmgdaaGreatDoor

/-
  Rows of results that the call makes.
-/
namespace Go.Proofs.YthocihmhljmgdaaGreatDoor
open Go.RowKit

/-- the row of the first k: it owns its parts once there is one -/
def ownB (l : List ResultD) (k : Nat) : Blk := if k = 0 then .row 92 2 [] else .deep 0 92 2 ((l.take k).map ResultD.dat)
theorem ownB_zero (l : List ResultD) : ownB l 0 = .row 92 2 [] := rfl
theorem ownB_pos {l : List ResultD} {k : Nat} (h : 0 < k) : ownB l k = .deep 0 92 2 ((l.take k).map ResultD.dat) := by unfold ownB; rw [if_neg (by omega)]
theorem ownB_z {l : List ResultD} {k : Nat} (h : k = 0) : ownB l k = .row 92 2 [] := by unfold ownB; rw [if_pos h]
end Go.Proofs.YthocihmhljmgdaaGreatDoor

/-
  The abstract machine: a region that draws its order, by a table of all that may be done so far and the state then.
-/
set_option linter.unusedSimpArgs false
set_option linter.unusedVariables false
set_option maxHeartbeats 2000000
set_option maxRecDepth 100000
namespace Go.Proofs.YthocihmhljmgdaaGreatDoor
open Go.RowKit

theorem any_fits {P : Program} {ops : Array Oper} {K : AS → Prop} {fuel : Nat} {listed : Array Bool} {s s0 : AS} (hf : Fits s s0) (h : AnyP P ops K fuel listed s0) : AnyP P ops K fuel listed s :=
  fun X0 w0 _ a w Q' hQ hs =>
    let ⟨m0, h0⟩ := hs.fits hf
    h X0 w0 m0 a w Q' hQ h0
/-- one row of the table: what is done, and for each operation that may come next what is done behind it -/
abbrev Node := List Bool × List (Nat × List Bool)
def nfree (L : List Bool) : Nat := L.countP (fun b => !b)
/-- the table is right about the order of the region -/
def tabOk (l : List Oper) (tab : List Node) : Bool :=
  tab.all fun nd => (Region.ready .any l.toArray nd.1.toArray == nd.2.map (·.1)) && nd.2.all fun e => (tab.any fun nd' => nd'.1 == e.2) && (e.2.toArray == nd.1.toArray.setIfInBounds e.1 true) && (nfree e.2 + 1 == nfree nd.1)
/-- operation r leads from s to what fits s2 -/
def StepTo (P : Program) (G : List (Nat × TI)) (l : List Oper) (r : Nat) (s s2 : AS) : Prop :=
  ∃ o, l[r]? = some o ∧ ∀ K' : AS → Prop, (∀ s', Fits s' s2 → K' s') → step1 false P G l.toArray o s K'
def EdgeOk (P : Program) (G : List (Nat × TI)) (l : List Oper) (S : List Bool → AS) (L : List Bool) : List (Nat × List Bool) → Prop
  | [] => True
  | (r, L2) :: es => StepTo P G l r (S L) (S L2) ∧ EdgeOk P G l S L es
/-- all steps of the table, each with the states before and behind -/
def StepsOk (P : Program) (G : List (Nat × TI)) (l : List Oper) (S : List Bool → AS) (K : AS → Prop) : List Node → Prop
  | [] => True
  | (L, []) :: t => (∀ s', Fits s' (S L) → K s') ∧ StepsOk P G l S K t
  | (L, e :: es) :: t => EdgeOk P G l S L (e :: es) ∧ StepsOk P G l S K t
theorem steps_at {P : Program} {G : List (Nat × TI)} {l : List Oper} {S : List Bool → AS} {K : AS → Prop} : ∀ {t : List Node}, StepsOk P G l S K t → ∀ L es, (L, es) ∈ t → (es = [] → ∀ s', Fits s' (S L) → K s') ∧ ∀ r L2, (r, L2) ∈ es → StepTo P G l r (S L) (S L2)
  | [], _, L, es, h => by simp at h
  | (L1, es1) :: t, h, L, es, hm => by
    have hedge : ∀ es' : List (Nat × List Bool), EdgeOk P G l S L es' → ∀ r L2, (r, L2) ∈ es' → StepTo P G l r (S L) (S L2) := by
      intro es'
      induction es' with
      | nil => intro _ r L2 h; simp at h
      | cons e es' ih =>
        rintro ⟨h1, h2⟩ r L2 hm
        rcases List.mem_cons.1 hm with e1 | e1
        · cases e1; exact h1
        · exact ih h2 r L2 e1
    cases es1 with
    | nil =>
      obtain ⟨h1, h2⟩ := h
      rcases List.mem_cons.1 hm with e | e
      · cases e
        exact ⟨fun _ => h1, fun r L2 h => by simp at h⟩
      · exact steps_at h2 L es e
    | cons e0 es0 =>
      obtain ⟨h1, h2⟩ := h
      rcases List.mem_cons.1 hm with e | e
      · cases e
        exact ⟨fun h => by simp at h, hedge _ h1⟩
      · exact steps_at h2 L es e
theorem any_tab {P : Program} {G : List (Nat × TI)} (hG : GOK P G) {l : List Oper} {K : AS → Prop} (tab : List Node) (S : List Bool → AS) (hc : tabOk l tab = true) (hs : StepsOk P G l S K tab) :
    ∀ (f : Nat) (L : List Bool) (es : List (Nat × List Bool)) (s : AS), (L, es) ∈ tab → nfree L = f → Fits s (S L) → AnyP P l.toArray K f L.toArray s := by
  intro f
  induction f with
  | zero =>
    intro L es s hm hf hfit
    have h1 := List.all_eq_true.1 hc _ hm
    simp only [Bool.and_eq_true, beq_iff_eq] at h1
    cases es with
    | cons e es =>
      have h2 := List.all_eq_true.1 h1.2 e (by simp)
      simp only [Bool.and_eq_true, beq_iff_eq] at h2
      omega
    | nil => exact any_done h1.1 ((steps_at hs L [] hm).1 rfl s hfit)
  | succ f ih =>
    intro L es s hm hf hfit
    have h1 := List.all_eq_true.1 hc _ hm
    simp only [Bool.and_eq_true, beq_iff_eq] at h1
    have h3 := steps_at hs L _ hm
    cases es with
    | nil => exact any_done h1.1 (h3.1 rfl s hfit)
    | cons e0 es0 =>
      refine any_fits hfit ?_
      refine any_step hG _ h1.1 (by simp) ?_
      have key : ∀ es : List (Nat × List Bool), (∀ e ∈ es, e ∈ e0 :: es0) → AllR P G l K f L.toArray (S L) (es.map (·.1)) := by
        intro es
        induction es with
        | nil => intro _; trivial
        | cons e es ih2 =>
          intro hsub
          have he : e ∈ e0 :: es0 := hsub e (by simp)
          have h2 := List.all_eq_true.1 h1.2 e he
          simp only [Bool.and_eq_true, beq_iff_eq] at h2
          obtain ⟨nd, hnd, hnd2⟩ := List.any_eq_true.1 h2.1.1
          have hnd3 : nd.1 = e.2 := by simpa using hnd2
          obtain ⟨o, ho, hk⟩ := h3.2 e.1 e.2 he
          refine ⟨⟨o, ho, fun K' hK' => hk K' fun s' hf' => hK' s' ?_⟩, ih2 fun x hx => hsub x (List.mem_cons_of_mem _ hx)⟩
          rw [← h2.1.2]
          exact ih e.2 nd.2 s' (by rw [← hnd3]; exact hnd) (by omega) hf'
      exact key _ fun e he => he
/-- the state: a slot or a block of the region's own is there from the operation that makes it until all that read it are done -/
def nthB : List Bool → Nat → Bool
  | [], _ => false
  | b :: _, 0 => b
  | _ :: r, i + 1 => nthB r i
def lackB (L : List Bool) : List Nat → Bool
  | [] => false
  | i :: r => !nthB L i || lackB L r
def doneB (L : List Bool) : List Nat → Bool
  | [] => true
  | i :: r => nthB L i && doneB L r
/-- an entry is there when all of the first are done and not all of the second -/
def mkL {α : Type} (L : List Bool) : List (List Nat × List Nat × α) → List α
  | [] => []
  | (i, rd, x) :: r => if (doneB L i && lackB L rd) = true then x :: mkL L r else mkL L r
theorem pw_seq_tab {P : Program} {G : List (Nat × TI)} (hG : GOK P G) {Q : Exit → AS → Prop} {s : AS} {id : Nat} {l : List Oper} {y : Code} (hm : P.follows .mixedOrders = true) (tab : List Node) (S : List Bool → AS) (hc : tabOk l tab = true) (h0 : (tab.head?.map (·.1)) = some (List.replicate l.length false)) (hf : Fits s (S (List.replicate l.length false)))
    (hs : StepsOk P G l S (fun s' => Fits s' (S (List.replicate l.length true))) tab) (h2 : PW P y Q (S (List.replicate l.length true))) : PW P (.seq (.region id l.toArray true) y) Q s := by
  have hfree : ∀ n, nfree (List.replicate n false) = n := by intro n; unfold nfree; rw [List.countP_replicate]; simp
  have := any_tab hG tab S hc hs l.length (List.replicate l.length false) ((tab.head?.map (·.2)).getD []) s (by
    cases tab with
    | nil => simp at h0
    | cons nd t =>
      simp at h0
      rw [← h0]
      simp) (hfree _) hf
  rw [show (List.replicate l.length false).toArray = Array.replicate l.length false by simp] at this
  exact pw_seq_k fun K hK => pw_any hm fun X0 w0 m a w Q' hQ hs' => this X0 w0 m a w Q' (fun m' s' a' w' h3 h4 => hQ m' s' a' w' (hK s' (pw_fits h3 h2)) h4) hs'
attribute [go_sem] StepsOk EdgeOk nthB lackB doneB mkL
end Go.Proofs.YthocihmhljmgdaaGreatDoor
namespace Go.Proofs.YthocihmhljmgdaaGreatDoor
open Go.RowKit

theorem datI_sc {xs : List Int} {e : List D} (he : e ∈ xs.map datI) {d : D} (hd : d ∈ e) : d.sc := by
  obtain ⟨x, _, rfl⟩ := List.mem_map.1 he
  rw [show datI x = [.int .i64 x] from rfl, List.mem_singleton] at hd
  subst hd
  simp [D.sc]
theorem flat_one {b : Bool} {ty : TypeId} {sz : Nat} {es : List (List D)} (h : ∀ e ∈ es, ∀ d ∈ e, d.sc) : b = true → ∀ r ∈ [RV.row ty sz es], r.flat := by
  intro _ r hr
  rw [List.mem_singleton] at hr
  subst hr
  exact h
theorem l1Own_ok (es : List (List D)) (hb : es.length ≤ 16777216) : FnEq Tryz.prog 86 [.d (.lst 1 es)] [.row 3 1 es] := by
  refine fn_ok G_ok Tryz.func86 rfl rfl ?_; simp only [Tryz.ntmps86, List.length_cons, List.length_nil, Nat.reduceAdd, Nat.reduceSub, enm]
  repeat' (first | ((with_reducible first | (refine hK _ ?_; clear hK K) | refine stq fun K' hK' => ?_ | refine stc ?_); try simp only [go_sem]) | (with_reducible first | refine stp ?_ | (refine hK' _ ?_; clear hK' K') | refine kN kl86 fun K hK => ?_ | refine kO fun K hK => ?_) | (with_reducible refine pK_mk ?_ ?_ <;> (intro hc; (try simp only [go_sem]); (try simp at hc); try (exfalso; omega))) | with_reducible refine And.intro (by first | omega | (unfold inI; omega)) ?_)
  refine retQ_ret rfl (by simp only [retL, ret1, hget, lk, List.length_map, List.length_nil, List.length_append, List.length_take, if_true, if_false, Nat.reduceEqDiff, Nat.reduceBEq, Bool.false_eq_true, Option.some.injEq]; rfl) (by simp [rowsOf, lk]) ?_; rfl
end Go.Proofs.YthocihmhljmgdaaGreatDoor
