/-
  Plain facts on notes: undone notes, those who withdraw, results after notes.
-/
import Derived.Test.YthocihmhljmgdaaGreatDoorZSo
import Derived.Test.YthocihmhljmgdaaGreatDoorZIns
import Derived.Test.YthocihmhljmgdaaGreatDoorZRx
import Derived.Test.YthocihmhljmgdaaGreatDoorZOo
namespace Go.Proofs.YthocihmhljmgdaaGreatDoor
open Go.RowKit

/-- an element of a filtered list, and what stands ahead of it -/
theorem filter_at {α : Type} {p : α → Bool} : ∀ {l : List α} {k : Nat} {x : α}, (l.filter p)[k]? = some x → ∃ j, l[j]? = some x ∧ p x = true ∧ ∀ y ∈ (l.filter p).take k, y ∈ l.take j
  | [], k, x, h => by simp at h
  | a :: l, k, x, h => by
    by_cases ha : p a = true
    · rw [List.filter_cons_of_pos ha] at h ⊢
      cases k with
      | zero =>
        simp at h
        subst h
        exact ⟨0, rfl, ha, by simp⟩
      | succ k =>
        obtain ⟨j, h1, h2, h3⟩ := filter_at (l := l) (k := k) (by simpa using h)
        refine ⟨j + 1, by simpa using h1, h2, fun y hy => ?_⟩
        rw [List.take_succ_cons] at hy ⊢
        rcases List.mem_cons.1 hy with rfl | hy
        · exact List.mem_cons_self
        · exact List.mem_cons_of_mem _ (h3 y hy)
    · rw [List.filter_cons_of_neg ha] at h ⊢
      obtain ⟨j, h1, h2, h3⟩ := filter_at (l := l) (k := k) h
      refine ⟨j + 1, by simpa using h1, h2, fun y hy => ?_⟩
      rw [List.take_succ_cons]
      exact List.mem_cons_of_mem _ (h3 y hy)
theorem noN_filter (n : Int) (l : List NoteD) : noN n l = l.filter fun x => decide (x.skater ≠ n) := by unfold noN fm; simp
theorem noN_ok {n : Int} {l : List NoteD} (h : NotesOk l) : NotesOk (noN n l) := by
  rw [noN_filter]
  refine ⟨Nat.le_trans (List.length_filter_le _ _) h.1, fun k x hx => ?_⟩
  obtain ⟨j, h1, h2, h3⟩ := filter_at hx
  have ha := h.2 j x h1
  unfold NoteAt NoteLo at ha ⊢
  obtain ⟨⟨a1, a2, a3, a4, a5, a6, a7, a8⟩, a9⟩ := ha
  refine ⟨⟨a1, a2, a3, a4, a5, a6, fun hm => a7 ?_, ?_⟩, ?_⟩
  · obtain ⟨y, hy, e⟩ := List.mem_map.1 hm
    exact List.mem_map.2 ⟨y, h3 y hy, e⟩
  · rcases a8 with a8 | a8
    · exact .inl a8
    · refine .inr ⟨a8.1, fun hm => a8.2 ?_⟩
      obtain ⟨y, hy, e⟩ := List.mem_map.1 hm
      exact List.mem_map.2 ⟨y, h3 y hy, e⟩
  · rcases a9 with a9 | a9
    · exact .inl a9
    · refine .inr fun hm => a9 ?_
      obtain ⟨y, hy, e⟩ := List.mem_map.1 hm
      exact List.mem_map.2 ⟨y, (List.mem_filter.1 hy).1, e⟩
theorem noN_one {n : Int} : ∀ {l : List NoteD}, (l.map NoteD.skater).Pairwise (· ≠ ·) → n ∈ l.map NoteD.skater → (noN n l).length + 1 = l.length
  | [], _, h => by simp at h
  | x :: l, hp, h => by
    rw [List.map_cons, List.pairwise_cons] at hp
    rw [noN_filter]
    by_cases hx : x.skater = n
    · have hn : n ∉ l.map NoteD.skater := fun hm => hp.1 n hm hx
      have he : (l.filter fun x => decide (x.skater ≠ n)) = l := by
        rw [List.filter_eq_self]
        intro y hy
        simp only [decide_eq_true_eq]
        exact fun e => hn (List.mem_map.2 ⟨y, hy, e⟩)
      rw [List.filter_cons_of_neg (by simp [hx]), he, List.length_cons]
    · rw [List.map_cons, List.mem_cons] at h
      have hm := h.resolve_left fun e => hx e.symm
      have ih := noN_one hp.2 hm
      rw [noN_filter] at ih
      rw [List.filter_cons_of_pos (by simpa using hx), List.length_cons, List.length_cons]
      omega
theorem wb_all {l : List NoteD} (h : NotesOk l) : (insAll (wbL l 2)).length = l.length := by
  have h1 := wbL_ne h 2 l.length
  rw [List.take_length] at h1
  rw [(insAll_perm h1).length_eq]
  unfold wbL fm
  rw [List.length_map, List.filter_eq_self.2 ?_]
  intro x hx
  obtain ⟨k, hk⟩ := List.getElem?_of_mem hx
  have := (h.2 k x hk).1
  unfold NoteLo at this
  simp [wbP]
  omega
theorem isHeld_mono {N : List NoteD} {n s t : Int} (hst : s ≤ t) (h : isHeld N n s = true) : isHeld N n t = true := by
  unfold isHeld at *
  rw [List.find?_isSome] at *
  obtain ⟨x, hx, hp⟩ := h
  refine ⟨x, hx, ?_⟩
  simp only [hdp, Bool.and_eq_true, decide_eq_true_eq] at hp ⊢
  exact ⟨hp.1, by omega⟩
theorem afS_idem (N : List NoteD) (n : Int) (xs : List Int) : afS N n (afS N n xs) = afS N n xs := by
  apply List.ext_getElem?
  intro k
  cases hx : xs[k]? with
  | none => rw [List.getElem?_eq_none (by rw [afS_len, afS_len]; exact List.getElem?_eq_none_iff.1 hx), List.getElem?_eq_none (by rw [afS_len]; exact List.getElem?_eq_none_iff.1 hx)]
  | some x =>
    have h1 := afS_get (N := N) (sk := n) hx
    have h2 := afS_get (N := N) (sk := n) h1
    rw [h1, h2]
    split <;> rfl
theorem afD_idem (N : List NoteD) (l : List ResultD) : afD N (afD N l) = afD N l := by
  unfold afD
  rw [List.map_map]
  refine List.map_congr_left fun r _ => ?_
  show afR N (afR N r) = afR N r
  unfold afR
  rw [afS_idem]
theorem afS_ok {N : List NoteD} {n : Int} {xs : List Int} (h : ScOk xs) : ScOk (afS N n xs) := by
  intro k y hy
  have hk : k < xs.length := by have := (List.getElem?_eq_some_iff.1 hy).1; rwa [afS_len] at this
  have hx := List.getElem?_eq_getElem hk
  have h1 := afS_get (N := N) (sk := n) hx
  rw [h1] at hy
  have h2 := h k _ hx
  unfold ScAt at h2 ⊢
  obtain ⟨b1, b2, b3⟩ := h2
  by_cases hh : isHeld N n (k : Int) = true
  · rw [if_pos hh] at hy
    cases hy
    exact ⟨by omega, by omega, fun _ _ => by omega⟩
  · rw [if_neg hh] at hy
    cases hy
    refine ⟨b1, b2, fun h0 hp => b3 h0 ?_⟩
    have hk1 : k - 1 < xs.length := by omega
    have hz := List.getElem?_eq_getElem hk1
    have h3 := afS_get (N := N) (sk := n) hz
    have hnh : ¬ isHeld N n ((k - 1 : Nat) : Int) = true := fun h => hh (isHeld_mono (by omega) h)
    rw [if_neg hnh] at h3
    rw [List.getD_eq_getElem?_getD, h3] at hp
    rw [List.getD_eq_getElem?_getD, hz]
    exact hp
theorem afD_ok {N : List NoteD} {l : List ResultD} (h : ResultsOk l) : ResultsOk (afD N l) := by
  refine ⟨by rw [afD_len]; exact h.1, fun k y hy => ?_⟩
  have hk : k < l.length := by have := (List.getElem?_eq_some_iff.1 hy).1; rwa [afD_len] at this
  have hx := List.getElem?_eq_getElem hk
  have h1 := afD_get (N := N) hx
  rw [h1] at hy
  cases hy
  have h2 := h.2 k _ hx
  unfold ResAt ResOk at h2 ⊢
  obtain ⟨⟨a1, a2, a3, a4, a5⟩, a6, a7⟩ := h2
  have hl0 : len0 (afD N l) = len0 l := by
    cases l with
    | nil => rfl
    | cons z r => show (afS N z.skater z.scores).length = z.scores.length; rw [afS_len]
  refine ⟨⟨afS_ok a1, a2, a3, by show 1 ≤ (afS _ _ _).length; rw [afS_len]; exact a4, by show (afS _ _ _).length ≤ 3; rw [afS_len]; exact a5⟩, by rw [hl0]; show (afS _ _ _).length = _; rw [afS_len]; exact a6, ?_⟩
  unfold afD
  rw [← List.map_take, List.map_map]
  exact a7
end Go.Proofs.YthocihmhljmgdaaGreatDoor

/-
  Results after notes: the program's function, in the abstract machine.
-/
set_option linter.unusedSimpArgs false
set_option linter.unusedVariables false
set_option maxHeartbeats 2000000
set_option maxRecDepth 100000
namespace Go.Proofs.YthocihmhljmgdaaGreatDoor
open Go.RowKit

theorem impl_ResultsAfter_yes (l : List ResultD) (N : List NoteD) (h0 : 0 < l.length) (hn : l.length ≤ 1048576) (hk : ∀ r ∈ l, r.scores.length ≤ 1048576) (hN : N.length ≤ 1048576) (hv : ResultsOk l) (hw0 : NotesOk N) :
    FnEq Tryz.prog 19 [.d (.lst 2 (l.map ResultD.dat)), .d (.lst 3 (N.map NoteD.dat))] [.deep 92 2 ((afD N l).map ResultD.dat), .d (.bool true)] := by
  refine fn_ok G_ok Tryz.func19 rfl rfl ?_; simp only [Tryz.ntmps19, List.length_cons, List.length_nil, Nat.reduceAdd, Nat.reduceSub, enm]
  have hwl := afD_len N l
  have h1 := bP_true hv
  have h2 := bP_true hw0
  repeat' (first | ((with_reducible first | (refine hK _ ?_; clear hK K) | refine stq fun K' hK' => ?_ | refine stc ?_); try simp only [go_sem, h1, h2]) | (with_reducible first | refine stp ?_ | (refine hK' _ ?_; clear hK' K') | refine kN kl19 fun K hK => ?_ | refine kO fun K hK => ?_) | (refine xS rfl fun K' hK' => ?_; simp only [go_sem, h1, h2]) | ((with_reducible apply CallK.eq); (· with_reducible first | exact AreResults_ok l hn hk | exact impl_AreNotes_ok N hN); (· simp [RV.flat, D.sc, datI]); try simp only [go_sem, h1, h2]) | refine iB ?_ | (with_reducible refine pK_mk ?_ ?_ <;> (intro hc; (try simp only [go_sem, h1, h2]); (try simp at hc); try (exfalso; omega))) | with_reducible refine And.intro (by first | omega | (unfold inI; omega)) ?_)
  refine pw_loop_over [4, 5, 6, 8, 9, 10, 11, 12, 24, 25, 26, 27, 28, 29, 30, 31, 32, 33, 34, 35, 36, 37, 38, 39, 40, 41, 42, 43, 44, 45, 46, 47, 48, 49, 50, 51, 52, 53, 54, 55, 56] (fun k : Nat => [(24, .d (.int .i64 (k : Int))), (6, .row 0 k)]) (fun k : Nat => [(0, ownB (afD N l) k)]) 1 (fun k : Nat => k ≤ l.length) (fun k : Nat => l.length - k) 0 (Nat.zero_le _) (fits_mk [] (by simp [renL_d, bdL_d, sg, over, wipe, wl, memN, ins, rm, lk, fitFr, fit1, ren, renL, bd, bdL, app, fitHp, hget, renB, bdB, ownB_zero] <;> omega)) ?_
  intro k hkl
  simp only [over, wipe, wl, memN, ins, rm, if_true, if_false, Nat.reduceEqDiff, Bool.false_eq_true, reduceCtorEq]
  by_cases hlt : k < l.length
  · have hy := List.getElem?_eq_getElem hlt
    generalize l[k] = y at hy
    have hyk := hk y (List.mem_of_getElem? hy)
    have hw := afD_get (N := N) hy
    have htl : (((afD N l).take k).map ResultD.dat).length = k := by simp; omega
    by_cases hk0 : k = 0
    · have htk : (afD N l).take k = [] := by rw [hk0]; rfl
      rw [ownB_z hk0]
      repeat' (first | ((with_reducible first | (refine hK _ ?_; clear hK K) | refine stq fun K' hK' => ?_ | refine stc ?_); try simp only [go_sem, List.length_map, List.getElem?_map, hy, Option.map_some, ResultD.dat]) | (with_reducible first | refine stp ?_ | (refine hK' _ ?_; clear hK' K') | refine kN kl19 fun K hK => ?_ | refine kO fun K hK => ?_) | (refine xS rfl fun K' hK' => ?_; simp only [go_sem, List.length_map, List.getElem?_map, hy, Option.map_some, ResultD.dat]) | ((with_reducible apply CallK.eq); (· with_reducible first | exact copyInts_ok y.scores hyk); (· simp [RV.flat, D.sc, datI]); try simp only [go_sem, List.length_map, List.getElem?_map, hy, Option.map_some, ResultD.dat]) | refine iB ?_ | (with_reducible refine pK_mk ?_ ?_ <;> (intro hc; (try simp only [go_sem, List.length_map, List.getElem?_map, hy, Option.map_some, ResultD.dat]); (try simp at hc); try (exfalso; omega))) | with_reducible refine And.intro (by first | omega | (unfold inI; omega)) ?_)
      refine pw_loop_over [4, 5, 10, 11, 12, 33, 34, 35, 36, 37, 38, 39, 40, 41, 42, 43, 44, 45, 46, 47, 48] (fun m : Nat => [(33, .d (.int .i64 (m : Int))), (9, .row 2 y.scores.length), (8, .bptr 1 0), (6, .row 0 k)]) (fun m => [(2, .row 3 1 ((afTo N y.skater y.scores m).map datI)), (1, .box 92 [.d (.int .i64 y.skater), .d (.lst 1 (y.scores.map datI))]), (0, .row 92 2 [])]) 3 (fun m => m ≤ y.scores.length) (fun m => y.scores.length - m) 0 (by omega) (fits_mk [] (by simp [renL_d, bdL_d, sg, over, wipe, wl, memN, ins, rm, lk, fitFr, fit1, ren, renL, bd, bdL, app, fitHp, hget, renB, bdB, afTo_zero] <;> omega)) ?_
      intro m hm
      have hal := afTo_len (N := N) (sk := y.skater) hm
      simp only [over, wipe, wl, memN, ins, rm, if_true, if_false, Nat.reduceEqDiff, Bool.false_eq_true, reduceCtorEq]
      by_cases hlm : m < y.scores.length
      · have hz := List.getElem?_eq_getElem hlm
        generalize y.scores[m] = z at hz
        have hz2 := afTo_get (N := N) (sk := y.skater) hz
        have hst : ((afTo N y.skater y.scores m).map datI).set m [.int .i64 (-1)] = ((afTo N y.skater y.scores m).set m (-1)).map datI := by rw [List.map_set]; rfl
        repeat' (first | ((with_reducible first | (refine hK _ ?_; clear hK K) | refine stq fun K' hK' => ?_ | refine stc ?_); try simp only [go_sem, hal, hlm, List.getElem?_map, hz2, Option.map_some, datI]) | (with_reducible first | refine stp ?_ | (refine hK' _ ?_; clear hK' K') | refine kN kl19 fun K hK => ?_ | refine kO fun K hK => ?_) | (refine xS rfl fun K' hK' => ?_; simp only [go_sem, hal, hlm, List.getElem?_map, hz2, Option.map_some, datI]) | ((with_reducible apply CallK.eq); (· with_reducible first | exact noteOf_ok N y.skater (m : Int) hN); (· simp [RV.flat, D.sc, datI]); try simp only [go_sem, hal, hlm, List.getElem?_map, hz2, Option.map_some, datI]) | refine iB ?_ | (with_reducible refine pK_mk ?_ ?_ <;> (intro hc; (try simp only [go_sem, hal, hlm, List.getElem?_map, hz2, Option.map_some, datI]); (try simp at hc); try (exfalso; omega))) | with_reducible refine And.intro (by first | omega | (unfold inI; omega)) ?_)
        · have e1 := afTo_yes hz hc
          exact ⟨m + 1, by omega, by omega, (fits_mk [] (by simp [renL_d, bdL_d, sg, over, wipe, wl, memN, ins, rm, lk, fitFr, fit1, ren, renL, bd, bdL, app, fitHp, hget, renB, bdB, hst, e1] <;> omega))⟩
        · have e1 := afTo_no hz hc
          exact ⟨m + 1, by omega, by omega, (fits_mk [] (by simp [renL_d, bdL_d, sg, over, wipe, wl, memN, ins, rm, lk, fitFr, fit1, ren, renL, bd, bdL, app, fitHp, hget, renB, bdB, ← e1] <;> omega))⟩
      · obtain rfl : m = y.scores.length := by omega
        rw [afTo_end]
        repeat' (first | ((with_reducible first | (refine hK _ ?_; clear hK K) | refine stq fun K' hK' => ?_ | refine stc ?_); try simp only [go_sem]) | (with_reducible first | refine stp ?_ | (refine hK' _ ?_; clear hK' K') | refine kN kl19 fun K hK => ?_ | refine kO fun K hK => ?_) | (refine xS rfl fun K' hK' => ?_; simp only [go_sem]) | refine iB ?_ | (with_reducible refine pK_mk ?_ ?_ <;> (intro hc; (try simp only [go_sem]); (try simp at hc); try (exfalso; omega))) | with_reducible refine And.intro (by first | omega | (unfold inI; omega)) ?_)
        have hyt := take_snoc hw
        have hdt : (afR N y).dat = [.int .i64 y.skater, .lst 1 ((afS N y.skater y.scores).map datI)] := rfl
        refine po_buildSlice_deep (cs := [.d (.int .i64 y.skater), .row 2 y.scores.length]) (ds := (afR N y).dat) rfl (G_ok _ _ G39) (by decide) rfl (by rw [hdt]; simp [ownL, ownC, hget, D.scB, afS_len]) (by simp [rowIds]) (by simp only [flatL, flatC, hget, if_true, if_false, Nat.reduceEqDiff]; exact ⟨trivial, flatE_datI _, trivial⟩) ?_
        repeat' (first | ((with_reducible first | (refine hK _ ?_; clear hK K) | refine stq fun K' hK' => ?_ | refine stc ?_); try simp only [go_sem, hdt]) | (with_reducible first | refine stp ?_ | (refine hK' _ ?_; clear hK' K') | refine kN kl19 fun K hK => ?_ | refine kO fun K hK => ?_) | (refine xS rfl fun K' hK' => ?_; simp only [go_sem, hdt]) | refine iB ?_ | (with_reducible refine pK_mk ?_ ?_ <;> (intro hc; (try simp only [go_sem, hdt]); (try simp at hc); try (exfalso; omega))) | with_reducible refine And.intro (by first | omega | (unfold inI; omega)) ?_)
        refine po_append_deep (es := []) (fs := [(afR N y).dat]) (n := k) (n2 := 1) rfl (G_ok _ _ G39) rfl rfl rfl rfl (by decide) (by simp; omega) rfl (by intro e he; simp at he) (by exact True.intro) (by simp <;> omega) ?_
        repeat' (first | ((with_reducible first | (refine hK _ ?_; clear hK K) | refine stq fun K' hK' => ?_ | refine stc ?_); try simp only [go_sem, hdt]) | (with_reducible first | refine stp ?_ | (refine hK' _ ?_; clear hK' K') | refine kN kl19 fun K hK => ?_ | refine kO fun K hK => ?_) | (refine xS rfl fun K' hK' => ?_; simp only [go_sem, hdt]) | refine iB ?_ | (with_reducible refine pK_mk ?_ ?_ <;> (intro hc; (try simp only [go_sem, hdt]); (try simp at hc); try (exfalso; omega))) | with_reducible refine And.intro (by first | omega | (unfold inI; omega)) ?_)
        exact ⟨k + 1, by omega, by omega, (fits_mk [] (by simp [renL_d, bdL_d, sg, over, wipe, wl, memN, ins, rm, lk, fitFr, fit1, ren, renL, bd, bdL, app, fitHp, hget, renB, bdB, htk, hyt, hdt, ownB_pos (Nat.succ_pos k), -List.map_take] <;> omega))⟩
    · rw [ownB_pos (show 0 < k by omega)]
      repeat' (first | ((with_reducible first | (refine hK _ ?_; clear hK K) | refine stq fun K' hK' => ?_ | refine stc ?_); try simp only [go_sem, List.length_map, List.getElem?_map, hy, Option.map_some, ResultD.dat]) | (with_reducible first | refine stp ?_ | (refine hK' _ ?_; clear hK' K') | refine kN kl19 fun K hK => ?_ | refine kO fun K hK => ?_) | (refine xS rfl fun K' hK' => ?_; simp only [go_sem, List.length_map, List.getElem?_map, hy, Option.map_some, ResultD.dat]) | ((with_reducible apply CallK.eq); (· with_reducible first | exact copyInts_ok y.scores hyk); (· simp [RV.flat, D.sc, datI]); try simp only [go_sem, List.length_map, List.getElem?_map, hy, Option.map_some, ResultD.dat]) | refine iB ?_ | (with_reducible refine pK_mk ?_ ?_ <;> (intro hc; (try simp only [go_sem, List.length_map, List.getElem?_map, hy, Option.map_some, ResultD.dat]); (try simp at hc); try (exfalso; omega))) | with_reducible refine And.intro (by first | omega | (unfold inI; omega)) ?_)
      refine pw_loop_over [4, 5, 10, 11, 12, 33, 34, 35, 36, 37, 38, 39, 40, 41, 42, 43, 44, 45, 46, 47, 48] (fun m : Nat => [(33, .d (.int .i64 (m : Int))), (9, .row 2 y.scores.length), (8, .bptr 1 0), (6, .row 0 k)]) (fun m => [(2, .row 3 1 ((afTo N y.skater y.scores m).map datI)), (1, .box 92 [.d (.int .i64 y.skater), .d (.lst 1 (y.scores.map datI))]), (0, .deep 0 92 2 (((afD N l).take k).map ResultD.dat))]) 3 (fun m => m ≤ y.scores.length) (fun m => y.scores.length - m) 0 (by omega) (fits_mk [] (by simp [renL_d, bdL_d, sg, over, wipe, wl, memN, ins, rm, lk, fitFr, fit1, ren, renL, bd, bdL, app, fitHp, hget, renB, bdB, afTo_zero] <;> omega)) ?_
      intro m hm
      have hal := afTo_len (N := N) (sk := y.skater) hm
      simp only [over, wipe, wl, memN, ins, rm, if_true, if_false, Nat.reduceEqDiff, Bool.false_eq_true, reduceCtorEq]
      by_cases hlm : m < y.scores.length
      · have hz := List.getElem?_eq_getElem hlm
        generalize y.scores[m] = z at hz
        have hz2 := afTo_get (N := N) (sk := y.skater) hz
        have hst : ((afTo N y.skater y.scores m).map datI).set m [.int .i64 (-1)] = ((afTo N y.skater y.scores m).set m (-1)).map datI := by rw [List.map_set]; rfl
        repeat' (first | ((with_reducible first | (refine hK _ ?_; clear hK K) | refine stq fun K' hK' => ?_ | refine stc ?_); try simp only [go_sem, hal, hlm, List.getElem?_map, hz2, Option.map_some, datI]) | (with_reducible first | refine stp ?_ | (refine hK' _ ?_; clear hK' K') | refine kN kl19 fun K hK => ?_ | refine kO fun K hK => ?_) | (refine xS rfl fun K' hK' => ?_; simp only [go_sem, hal, hlm, List.getElem?_map, hz2, Option.map_some, datI]) | ((with_reducible apply CallK.eq); (· with_reducible first | exact noteOf_ok N y.skater (m : Int) hN); (· simp [RV.flat, D.sc, datI]); try simp only [go_sem, hal, hlm, List.getElem?_map, hz2, Option.map_some, datI]) | refine iB ?_ | (with_reducible refine pK_mk ?_ ?_ <;> (intro hc; (try simp only [go_sem, hal, hlm, List.getElem?_map, hz2, Option.map_some, datI]); (try simp at hc); try (exfalso; omega))) | with_reducible refine And.intro (by first | omega | (unfold inI; omega)) ?_)
        · have e1 := afTo_yes hz hc
          exact ⟨m + 1, by omega, by omega, (fits_mk [] (by simp [renL_d, bdL_d, sg, over, wipe, wl, memN, ins, rm, lk, fitFr, fit1, ren, renL, bd, bdL, app, fitHp, hget, renB, bdB, hst, e1] <;> omega))⟩
        · have e1 := afTo_no hz hc
          exact ⟨m + 1, by omega, by omega, (fits_mk [] (by simp [renL_d, bdL_d, sg, over, wipe, wl, memN, ins, rm, lk, fitFr, fit1, ren, renL, bd, bdL, app, fitHp, hget, renB, bdB, ← e1] <;> omega))⟩
      · obtain rfl : m = y.scores.length := by omega
        rw [afTo_end]
        repeat' (first | ((with_reducible first | (refine hK _ ?_; clear hK K) | refine stq fun K' hK' => ?_ | refine stc ?_); try simp only [go_sem]) | (with_reducible first | refine stp ?_ | (refine hK' _ ?_; clear hK' K') | refine kN kl19 fun K hK => ?_ | refine kO fun K hK => ?_) | (refine xS rfl fun K' hK' => ?_; simp only [go_sem]) | refine iB ?_ | (with_reducible refine pK_mk ?_ ?_ <;> (intro hc; (try simp only [go_sem]); (try simp at hc); try (exfalso; omega))) | with_reducible refine And.intro (by first | omega | (unfold inI; omega)) ?_)
        have hyt := take_snoc hw
        have hdt : (afR N y).dat = [.int .i64 y.skater, .lst 1 ((afS N y.skater y.scores).map datI)] := rfl
        refine po_buildSlice_deep (cs := [.d (.int .i64 y.skater), .row 2 y.scores.length]) (ds := (afR N y).dat) rfl (G_ok _ _ G39) (by decide) rfl (by rw [hdt]; simp [ownL, ownC, hget, D.scB, afS_len]) (by simp [rowIds]) (by simp only [flatL, flatC, hget, if_true, if_false, Nat.reduceEqDiff]; exact ⟨trivial, flatE_datI _, trivial⟩) ?_
        repeat' (first | ((with_reducible first | (refine hK _ ?_; clear hK K) | refine stq fun K' hK' => ?_ | refine stc ?_); try simp only [go_sem, hdt]) | (with_reducible first | refine stp ?_ | (refine hK' _ ?_; clear hK' K') | refine kN kl19 fun K hK => ?_ | refine kO fun K hK => ?_) | (refine xS rfl fun K' hK' => ?_; simp only [go_sem, hdt]) | refine iB ?_ | (with_reducible refine pK_mk ?_ ?_ <;> (intro hc; (try simp only [go_sem, hdt]); (try simp at hc); try (exfalso; omega))) | with_reducible refine And.intro (by first | omega | (unfold inI; omega)) ?_)
        refine po_append_deep (es := ((afD N l).take k).map ResultD.dat) (fs := [(afR N y).dat]) (n := k) (n2 := 1) rfl (G_ok _ _ G39) rfl rfl rfl rfl (by decide) htl rfl (by exact True.intro) (by exact True.intro) (by simp <;> omega) ?_
        repeat' (first | ((with_reducible first | (refine hK _ ?_; clear hK K) | refine stq fun K' hK' => ?_ | refine stc ?_); try simp only [go_sem, hdt]) | (with_reducible first | refine stp ?_ | (refine hK' _ ?_; clear hK' K') | refine kN kl19 fun K hK => ?_ | refine kO fun K hK => ?_) | (refine xS rfl fun K' hK' => ?_; simp only [go_sem, hdt]) | refine iB ?_ | (with_reducible refine pK_mk ?_ ?_ <;> (intro hc; (try simp only [go_sem, hdt]); (try simp at hc); try (exfalso; omega))) | with_reducible refine And.intro (by first | omega | (unfold inI; omega)) ?_)
        exact ⟨k + 1, by omega, by omega, (fits_mk [] (by simp [renL_d, bdL_d, sg, over, wipe, wl, memN, ins, rm, lk, fitFr, fit1, ren, renL, bd, bdL, app, fitHp, hget, renB, bdB, hyt, hdt, ownB_pos (Nat.succ_pos k), -List.map_take] <;> omega))⟩
  · obtain rfl : k = l.length := by omega
    rw [ownB_pos h0, List.take_of_length_le (by omega)]
    have hfl : ((afD N l).map ResultD.dat).length = l.length := by simp [hwl]
    repeat' (first | ((with_reducible first | (refine hK _ ?_; clear hK K) | refine stq fun K' hK' => ?_ | refine stc ?_); try simp only [go_sem]) | (with_reducible first | refine stp ?_ | (refine hK' _ ?_; clear hK' K') | refine kN kl19 fun K hK => ?_ | refine kO fun K hK => ?_) | (refine xS rfl fun K' hK' => ?_; simp only [go_sem]) | refine iB ?_ | (with_reducible refine pK_mk ?_ ?_ <;> (intro hc; (try simp only [go_sem]); (try simp at hc); try (exfalso; omega))) | with_reducible refine And.intro (by first | omega | (unfold inI; omega)) ?_)
    refine retQ_ret rfl (by simp only [hfl, hwl, retL, ret1, hget, lk, List.length_map, List.length_nil, List.length_append, List.length_take, if_true, if_false, Nat.reduceEqDiff, Nat.reduceBEq, Bool.false_eq_true, Option.some.injEq]; rfl) (by simp [rowsOf, lk]) ?_; rfl
end Go.Proofs.YthocihmhljmgdaaGreatDoor

/-
  Results after notes where there is no result; the reference's function.
-/
set_option linter.unusedSimpArgs false
set_option linter.unusedVariables false
set_option maxHeartbeats 2000000
set_option maxRecDepth 100000
namespace Go.Proofs.YthocihmhljmgdaaGreatDoor
open Go.RowKit

def AftOk (l : List ResultD) (N : List NoteD) : Prop := ResultsOk l ∧ NotesOk N
theorem wdResults_nil (l : List ResultD) (N : List NoteD) (h0 : l.length = 0) :
    FnEq Tryz.prog 64 [.d (.lst 2 (l.map ResultD.dat)), .d (.lst 3 (N.map NoteD.dat))] [.row 92 2 []] := by
  refine fn_ok G_ok Tryz.func64 rfl rfl ?_; simp only [Tryz.ntmps64, List.length_cons, List.length_nil, Nat.reduceAdd, Nat.reduceSub, enm]
  repeat' (first | ((with_reducible first | (refine hK _ ?_; clear hK K) | refine stq fun K' hK' => ?_ | refine stc ?_); try simp only [go_sem]) | (with_reducible first | refine stp ?_ | (refine hK' _ ?_; clear hK' K') | refine kN kl64 fun K hK => ?_ | refine kO fun K hK => ?_) | refine iB ?_ | (with_reducible apply pw_seq_any_to kl64 mixed) | (with_reducible refine pw_any mixed ?_) | ((first | refine any_step G_ok [0, 2, 6] (by decide +kernel) rfl ?_ | refine any_step G_ok [1, 2, 6] (by decide +kernel) rfl ?_ | refine any_step G_ok [2, 6] (by decide +kernel) rfl ?_ | refine any_step G_ok [3, 6] (by decide +kernel) rfl ?_ | refine any_step G_ok [4, 6] (by decide +kernel) rfl ?_ | refine any_step G_ok [5, 6] (by decide +kernel) rfl ?_ | refine any_step G_ok [6] (by decide +kernel) rfl ?_ | refine any_step G_ok [7] (by decide +kernel) rfl ?_ | refine any_step G_ok [5] (by decide +kernel) rfl ?_ | refine any_step G_ok [4] (by decide +kernel) rfl ?_ | refine any_step G_ok [3] (by decide +kernel) rfl ?_ | refine any_step G_ok [2] (by decide +kernel) rfl ?_ | refine any_step G_ok [1, 3, 6] (by decide +kernel) rfl ?_ | refine any_step G_ok [1, 4, 6] (by decide +kernel) rfl ?_ | refine any_step G_ok [1, 6] (by decide +kernel) rfl ?_ | refine any_step G_ok [1] (by decide +kernel) rfl ?_ | refine any_step G_ok [1, 4] (by decide +kernel) rfl ?_ | refine any_step G_ok [1, 3] (by decide +kernel) rfl ?_ | refine any_step G_ok [1, 2] (by decide +kernel) rfl ?_ | refine any_step G_ok [0, 3, 6] (by decide +kernel) rfl ?_ | refine any_step G_ok [0, 4, 6] (by decide +kernel) rfl ?_ | refine any_step G_ok [0, 6] (by decide +kernel) rfl ?_ | refine any_step G_ok [0] (by decide +kernel) rfl ?_ | refine any_step G_ok [0, 4] (by decide +kernel) rfl ?_ | refine any_step G_ok [0, 3] (by decide +kernel) rfl ?_ | refine any_step G_ok [0, 2] (by decide +kernel) rfl ?_); (repeat' with_reducible first | exact True.intro | refine And.intro ?_ ?_) <;> refine ⟨_, rfl, fun K' hK' => ?_⟩ <;> ((first | with_reducible refine s_none rfl ?_ | refine s_some2 rfl ?_); simp only [go_sem])) | (refine any_done (by decide +kernel) ?_; try simp only [go_sem]) | (with_reducible exact Or.inl rfl) | (exact Or.inr (fits_mk [] (by simp [renL_d, bdL_d, sg, over, wipe, wl, memN, ins, rm, lk, fitFr, fit1, ren, renL, bd, bdL, app, fitHp, hget, renB, bdB] <;> omega))) | (with_reducible refine pK_mk ?_ ?_ <;> (intro hc; (try simp only [go_sem]); (try simp at hc); try (exfalso; omega))) | with_reducible refine And.intro (by first | omega | (unfold inI; omega)) ?_)
  refine pw_loop_over [4, 5, 7, 8, 9, 12, 13, 14, 15, 16, 17, 18, 19, 20, 21, 22, 23, 24, 25, 26, 27, 28, 29, 30, 31, 32, 33, 34, 35, 36, 37, 38, 39, 40, 41, 42, 43] (fun k : Nat => [(12, .d (.int .i64 (k : Int))), (5, .row 0 0)]) (fun k : Nat => [(0, .row 92 2 [])]) 1 (fun k : Nat => k ≤ l.length) (fun k : Nat => l.length - k) 0 (Nat.zero_le _) (fits_mk [] (by simp [renL_d, bdL_d, sg, over, wipe, wl, memN, ins, rm, lk, fitFr, fit1, ren, renL, bd, bdL, app, fitHp, hget, renB, bdB] <;> omega)) ?_
  intro k hkl
  simp only [over, wipe, wl, memN, ins, rm, if_true, if_false, Nat.reduceEqDiff, Bool.false_eq_true, reduceCtorEq]
  repeat' (first | ((with_reducible first | (refine hK _ ?_; clear hK K) | refine stq fun K' hK' => ?_ | refine stc ?_); try simp only [go_sem]) | (with_reducible first | refine stp ?_ | (refine hK' _ ?_; clear hK' K') | refine kN kl64 fun K hK => ?_ | refine kO fun K hK => ?_) | refine iB ?_ | (with_reducible apply pw_seq_any_to kl64 mixed) | (with_reducible refine pw_any mixed ?_) | ((first | refine any_step G_ok [0, 2, 6] (by decide +kernel) rfl ?_ | refine any_step G_ok [1, 2, 6] (by decide +kernel) rfl ?_ | refine any_step G_ok [2, 6] (by decide +kernel) rfl ?_ | refine any_step G_ok [3, 6] (by decide +kernel) rfl ?_ | refine any_step G_ok [4, 6] (by decide +kernel) rfl ?_ | refine any_step G_ok [5, 6] (by decide +kernel) rfl ?_ | refine any_step G_ok [6] (by decide +kernel) rfl ?_ | refine any_step G_ok [7] (by decide +kernel) rfl ?_ | refine any_step G_ok [5] (by decide +kernel) rfl ?_ | refine any_step G_ok [4] (by decide +kernel) rfl ?_ | refine any_step G_ok [3] (by decide +kernel) rfl ?_ | refine any_step G_ok [2] (by decide +kernel) rfl ?_ | refine any_step G_ok [1, 3, 6] (by decide +kernel) rfl ?_ | refine any_step G_ok [1, 4, 6] (by decide +kernel) rfl ?_ | refine any_step G_ok [1, 6] (by decide +kernel) rfl ?_ | refine any_step G_ok [1] (by decide +kernel) rfl ?_ | refine any_step G_ok [1, 4] (by decide +kernel) rfl ?_ | refine any_step G_ok [1, 3] (by decide +kernel) rfl ?_ | refine any_step G_ok [1, 2] (by decide +kernel) rfl ?_ | refine any_step G_ok [0, 3, 6] (by decide +kernel) rfl ?_ | refine any_step G_ok [0, 4, 6] (by decide +kernel) rfl ?_ | refine any_step G_ok [0, 6] (by decide +kernel) rfl ?_ | refine any_step G_ok [0] (by decide +kernel) rfl ?_ | refine any_step G_ok [0, 4] (by decide +kernel) rfl ?_ | refine any_step G_ok [0, 3] (by decide +kernel) rfl ?_ | refine any_step G_ok [0, 2] (by decide +kernel) rfl ?_); (repeat' with_reducible first | exact True.intro | refine And.intro ?_ ?_) <;> refine ⟨_, rfl, fun K' hK' => ?_⟩ <;> ((first | with_reducible refine s_none rfl ?_ | refine s_some2 rfl ?_); simp only [go_sem])) | (refine any_done (by decide +kernel) ?_; try simp only [go_sem]) | (with_reducible exact Or.inl rfl) | (exact Or.inr (fits_mk [] (by simp [renL_d, bdL_d, sg, over, wipe, wl, memN, ins, rm, lk, fitFr, fit1, ren, renL, bd, bdL, app, fitHp, hget, renB, bdB] <;> omega))) | (with_reducible refine pK_mk ?_ ?_ <;> (intro hc; (try simp only [go_sem]); (try simp at hc); try (exfalso; omega))) | with_reducible refine And.intro (by first | omega | (unfold inI; omega)) ?_)
  refine retQ_ret rfl (by simp only [retL, ret1, hget, lk, List.length_map, List.length_nil, List.length_append, List.length_take, if_true, if_false, Nat.reduceEqDiff, Nat.reduceBEq, Bool.false_eq_true, Option.some.injEq]; rfl) (by simp [rowsOf, lk]) ?_; rfl
theorem impl_ResultsAfter_no (l : List ResultD) (N : List NoteD) (hn : l.length ≤ 1048576) (hk : ∀ r ∈ l, r.scores.length ≤ 1048576) (hN : N.length ≤ 1048576) (hv : ¬ (AftOk l N ∧ 0 < l.length)) :
    FnEq Tryz.prog 19 [.d (.lst 2 (l.map ResultD.dat)), .d (.lst 3 (N.map NoteD.dat))] [.row 92 2 [], .d (.bool (bP (AftOk l N)))] := by
  refine fn_ok G_ok Tryz.func19 rfl rfl ?_; simp only [Tryz.ntmps19, List.length_cons, List.length_nil, Nat.reduceAdd, Nat.reduceSub, enm]
  by_cases hr : ResultsOk l
  · have h1 := bP_true hr
    by_cases hw : NotesOk N
    · have h2 := bP_true hw
      have h3 : bP (AftOk l N) = true := bP_true ⟨hr, hw⟩
      have h0 : l.length = 0 := by
        have : ¬ 0 < l.length := fun h => hv ⟨⟨hr, hw⟩, h⟩
        omega
      repeat' (first | ((with_reducible first | (refine hK _ ?_; clear hK K) | refine stq fun K' hK' => ?_ | refine stc ?_); try simp only [go_sem, h1, h2]) | (with_reducible first | refine stp ?_ | (refine hK' _ ?_; clear hK' K') | refine kN kl19 fun K hK => ?_ | refine kO fun K hK => ?_) | (refine xS rfl fun K' hK' => ?_; simp only [go_sem, h1, h2]) | ((with_reducible apply CallK.eq); (· with_reducible first | exact AreResults_ok l hn hk | exact impl_AreNotes_ok N hN); (· simp [RV.flat, D.sc, datI]); try simp only [go_sem, h1, h2]) | refine iB ?_ | (with_reducible refine pK_mk ?_ ?_ <;> (intro hc; (try simp only [go_sem, h1, h2]); (try simp at hc); try (exfalso; omega))) | with_reducible refine And.intro (by first | omega | (unfold inI; omega)) ?_)
      refine pw_loop_over [4, 5, 6, 8, 9, 10, 11, 12, 24, 25, 26, 27, 28, 29, 30, 31, 32, 33, 34, 35, 36, 37, 38, 39, 40, 41, 42, 43, 44, 45, 46, 47, 48, 49, 50, 51, 52, 53, 54, 55, 56] (fun k : Nat => [(24, .d (.int .i64 (k : Int))), (6, .row 0 0)]) (fun k : Nat => [(0, .row 92 2 [])]) 1 (fun k : Nat => k ≤ l.length) (fun k : Nat => l.length - k) 0 (Nat.zero_le _) (fits_mk [] (by simp [renL_d, bdL_d, sg, over, wipe, wl, memN, ins, rm, lk, fitFr, fit1, ren, renL, bd, bdL, app, fitHp, hget, renB, bdB] <;> omega)) ?_
      intro k hkl
      simp only [over, wipe, wl, memN, ins, rm, if_true, if_false, Nat.reduceEqDiff, Bool.false_eq_true, reduceCtorEq]
      repeat' (first | ((with_reducible first | (refine hK _ ?_; clear hK K) | refine stq fun K' hK' => ?_ | refine stc ?_); try simp only [go_sem]) | (with_reducible first | refine stp ?_ | (refine hK' _ ?_; clear hK' K') | refine kN kl19 fun K hK => ?_ | refine kO fun K hK => ?_) | (refine xS rfl fun K' hK' => ?_; simp only [go_sem]) | refine iB ?_ | (with_reducible refine pK_mk ?_ ?_ <;> (intro hc; (try simp only [go_sem]); (try simp at hc); try (exfalso; omega))) | with_reducible refine And.intro (by first | omega | (unfold inI; omega)) ?_)
      refine retQ_ret rfl (by simp only [retL, ret1, hget, lk, List.length_map, List.length_nil, List.length_append, List.length_take, if_true, if_false, Nat.reduceEqDiff, Nat.reduceBEq, Bool.false_eq_true, Option.some.injEq]; rfl) (by simp [rowsOf, lk]) ?_; first | rw [h3] | (rw [h3]; rfl)
    · have h2 := bP_false hw
      have h3 : bP (AftOk l N) = false := bP_false fun h => hw h.2
      repeat' (first | ((with_reducible first | (refine hK _ ?_; clear hK K) | refine stq fun K' hK' => ?_ | refine stc ?_); try simp only [go_sem, h1, h2]) | (with_reducible first | refine stp ?_ | (refine hK' _ ?_; clear hK' K') | refine kN kl19 fun K hK => ?_ | refine kO fun K hK => ?_) | (refine xS rfl fun K' hK' => ?_; simp only [go_sem, h1, h2]) | ((with_reducible apply CallK.eq); (· with_reducible first | exact AreResults_ok l hn hk | exact impl_AreNotes_ok N hN); (· simp [RV.flat, D.sc, datI]); try simp only [go_sem, h1, h2]) | refine iB ?_ | (with_reducible refine pK_mk ?_ ?_ <;> (intro hc; (try simp only [go_sem, h1, h2]); (try simp at hc); try (exfalso; omega))) | with_reducible refine And.intro (by first | omega | (unfold inI; omega)) ?_)
      refine retQ_ret rfl (by simp only [retL, ret1, hget, lk, List.length_map, List.length_nil, List.length_append, List.length_take, if_true, if_false, Nat.reduceEqDiff, Nat.reduceBEq, Bool.false_eq_true, Option.some.injEq]; rfl) (by simp [rowsOf, lk]) ?_; first | rw [h3] | (rw [h3]; rfl)
  · have h1 := bP_false hr
    have h3 : bP (AftOk l N) = false := bP_false fun h => hr h.1
    repeat' (first | ((with_reducible first | (refine hK _ ?_; clear hK K) | refine stq fun K' hK' => ?_ | refine stc ?_); try simp only [go_sem, h1]) | (with_reducible first | refine stp ?_ | (refine hK' _ ?_; clear hK' K') | refine kN kl19 fun K hK => ?_ | refine kO fun K hK => ?_) | (refine xS rfl fun K' hK' => ?_; simp only [go_sem, h1]) | ((with_reducible apply CallK.eq); (· with_reducible first | exact AreResults_ok l hn hk); (· simp [RV.flat, D.sc, datI]); try simp only [go_sem, h1]) | refine iB ?_ | (with_reducible refine pK_mk ?_ ?_ <;> (intro hc; (try simp only [go_sem, h1]); (try simp at hc); try (exfalso; omega))) | with_reducible refine And.intro (by first | omega | (unfold inI; omega)) ?_)
    refine retQ_ret rfl (by simp only [retL, ret1, hget, lk, List.length_map, List.length_nil, List.length_append, List.length_take, if_true, if_false, Nat.reduceEqDiff, Nat.reduceBEq, Bool.false_eq_true, Option.some.injEq]; rfl) (by simp [rowsOf, lk]) ?_; first | rw [h3] | (rw [h3]; rfl)
theorem spec_ResultsAfter_yes (l : List ResultD) (N : List NoteD) (h0 : 0 < l.length) (hn : l.length ≤ 1048576) (hk : ∀ r ∈ l, r.scores.length ≤ 1048576) (hN : N.length ≤ 1048576) (hv : AftOk l N) :
    FnEq Tryz.prog 20 [.d (.lst 2 (l.map ResultD.dat)), .d (.lst 3 (N.map NoteD.dat))] [.deep 92 2 ((afD N l).map ResultD.dat), .d (.bool true)] := by
  refine fn_ok G_ok Tryz.func20 rfl rfl ?_; simp only [Tryz.ntmps20, List.length_cons, List.length_nil, Nat.reduceAdd, Nat.reduceSub, enm]
  have h1 := bP_true hv.1
  have h2 := bP_true hv.2
  have hwl := afD_len N l
  repeat' (first | ((with_reducible first | (refine hK _ ?_; clear hK K) | refine stq fun K' hK' => ?_ | refine stc ?_); try simp only [go_sem, h1, h2]) | (with_reducible first | refine stp ?_ | (refine hK' _ ?_; clear hK' K') | refine kN kl20 fun K hK => ?_ | refine kO fun K hK => ?_) | (refine xS rfl fun K' hK' => ?_; simp only [go_sem, h1, h2]) | ((with_reducible apply CallK.eq); (· with_reducible first | exact rkGood_ok l hn hk | exact wdGood_ok N hN | exact wdResults_ok l N h0 hn hk hN); (· simp [RV.flat, D.sc, datI]); try simp only [go_sem, h1, h2]) | (with_reducible refine pK_mk ?_ ?_ <;> (intro hc; (try simp only [go_sem, h1, h2]); (try simp at hc); try (exfalso; omega))) | with_reducible refine And.intro (by first | omega | (unfold inI; omega)) ?_)
  refine retQ_ret rfl (by simp only [hwl, retL, ret1, hget, lk, List.length_map, List.length_nil, List.length_append, List.length_take, if_true, if_false, Nat.reduceEqDiff, Nat.reduceBEq, Bool.false_eq_true, Option.some.injEq]; rfl) (by simp [rowsOf, lk]) ?_; rfl
theorem spec_ResultsAfter_no (l : List ResultD) (N : List NoteD) (hn : l.length ≤ 1048576) (hk : ∀ r ∈ l, r.scores.length ≤ 1048576) (hN : N.length ≤ 1048576) (hv : ¬ (AftOk l N ∧ 0 < l.length)) :
    FnEq Tryz.prog 20 [.d (.lst 2 (l.map ResultD.dat)), .d (.lst 3 (N.map NoteD.dat))] [.row 92 2 [], .d (.bool (bP (AftOk l N)))] := by
  refine fn_ok G_ok Tryz.func20 rfl rfl ?_; simp only [Tryz.ntmps20, List.length_cons, List.length_nil, Nat.reduceAdd, Nat.reduceSub, enm]
  by_cases hr : ResultsOk l
  · have h1 := bP_true hr
    by_cases hw : NotesOk N
    · have h2 := bP_true hw
      have h3 : bP (AftOk l N) = true := bP_true ⟨hr, hw⟩
      have h0 : l.length = 0 := by
        have : ¬ 0 < l.length := fun h => hv ⟨⟨hr, hw⟩, h⟩
        omega
      repeat' (first | ((with_reducible first | (refine hK _ ?_; clear hK K) | refine stq fun K' hK' => ?_ | refine stc ?_); try simp only [go_sem, h1, h2]) | (with_reducible first | refine stp ?_ | (refine hK' _ ?_; clear hK' K') | refine kN kl20 fun K hK => ?_ | refine kO fun K hK => ?_) | (refine xS rfl fun K' hK' => ?_; simp only [go_sem, h1, h2]) | ((with_reducible apply CallK.eq); (· with_reducible first | exact rkGood_ok l hn hk | exact wdGood_ok N hN | exact wdResults_nil l N h0); (· simp [RV.flat, D.sc, datI]); try simp only [go_sem, h1, h2]) | (with_reducible refine pK_mk ?_ ?_ <;> (intro hc; (try simp only [go_sem, h1, h2]); (try simp at hc); try (exfalso; omega))) | with_reducible refine And.intro (by first | omega | (unfold inI; omega)) ?_)
      refine retQ_ret rfl (by simp only [retL, ret1, hget, lk, List.length_map, List.length_nil, List.length_append, List.length_take, if_true, if_false, Nat.reduceEqDiff, Nat.reduceBEq, Bool.false_eq_true, Option.some.injEq]; rfl) (by simp [rowsOf, lk]) ?_; first | rw [h3] | (rw [h3]; rfl)
    · have h2 := bP_false hw
      have h3 : bP (AftOk l N) = false := bP_false fun h => hw h.2
      repeat' (first | ((with_reducible first | (refine hK _ ?_; clear hK K) | refine stq fun K' hK' => ?_ | refine stc ?_); try simp only [go_sem, h1, h2]) | (with_reducible first | refine stp ?_ | (refine hK' _ ?_; clear hK' K') | refine kN kl20 fun K hK => ?_ | refine kO fun K hK => ?_) | (refine xS rfl fun K' hK' => ?_; simp only [go_sem, h1, h2]) | ((with_reducible apply CallK.eq); (· with_reducible first | exact rkGood_ok l hn hk | exact wdGood_ok N hN); (· simp [RV.flat, D.sc, datI]); try simp only [go_sem, h1, h2]) | (with_reducible refine pK_mk ?_ ?_ <;> (intro hc; (try simp only [go_sem, h1, h2]); (try simp at hc); try (exfalso; omega))) | with_reducible refine And.intro (by first | omega | (unfold inI; omega)) ?_)
      refine retQ_ret rfl (by simp only [retL, ret1, hget, lk, List.length_map, List.length_nil, List.length_append, List.length_take, if_true, if_false, Nat.reduceEqDiff, Nat.reduceBEq, Bool.false_eq_true, Option.some.injEq]; rfl) (by simp [rowsOf, lk]) ?_; first | rw [h3] | (rw [h3]; rfl)
  · have h1 := bP_false hr
    have h3 : bP (AftOk l N) = false := bP_false fun h => hr h.1
    repeat' (first | ((with_reducible first | (refine hK _ ?_; clear hK K) | refine stq fun K' hK' => ?_ | refine stc ?_); try simp only [go_sem, h1]) | (with_reducible first | refine stp ?_ | (refine hK' _ ?_; clear hK' K') | refine kN kl20 fun K hK => ?_ | refine kO fun K hK => ?_) | (refine xS rfl fun K' hK' => ?_; simp only [go_sem, h1]) | ((with_reducible apply CallK.eq); (· with_reducible first | exact rkGood_ok l hn hk); (· simp [RV.flat, D.sc, datI]); try simp only [go_sem, h1]) | (with_reducible refine pK_mk ?_ ?_ <;> (intro hc; (try simp only [go_sem, h1]); (try simp at hc); try (exfalso; omega))) | with_reducible refine And.intro (by first | omega | (unfold inI; omega)) ?_)
    refine retQ_ret rfl (by simp only [retL, ret1, hget, lk, List.length_map, List.length_nil, List.length_append, List.length_take, if_true, if_false, Nat.reduceEqDiff, Nat.reduceBEq, Bool.false_eq_true, Option.some.injEq]; rfl) (by simp [rowsOf, lk]) ?_; first | rw [h3] | (rw [h3]; rfl)
end Go.Proofs.YthocihmhljmgdaaGreatDoor
