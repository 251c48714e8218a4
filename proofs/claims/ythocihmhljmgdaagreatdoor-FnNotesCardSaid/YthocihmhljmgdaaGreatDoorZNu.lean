/-
  Notes: the reference's test, in the abstract machine.
-/
import Derived.Test.YthocihmhljmgdaaGreatDoorZNt
import Derived.Test.YthocihmhljmgdaaGreatDoorZMf
import Derived.Test.YthocihmhljmgdaaGreatDoorZMst
set_option linter.unusedSimpArgs false
set_option linter.unusedVariables false
set_option maxHeartbeats 2000000
set_option maxRecDepth 100000
namespace Go.Proofs.YthocihmhljmgdaaGreatDoor
open Go.RowKit

noncomputable def insB (l : List NoteD) (n : Int) : Bool := bP (n ∈ insOf l)
theorem insB_iff {l : List NoteD} {n : Int} : insB l n = true ↔ n ∈ insOf l := bP_iff
theorem insB_not {l : List NoteD} {n : Int} (h : insB l n = false) : n ∉ insOf l := fun h' => Bool.noConfusion ((insB_iff.2 h').symm.trans h)
theorem skB_bP (l : List NoteD) (n : Int) : bP (n ∈ l.map NoteD.skater) = skB l n := by rw [Bool.eq_iff_iff, bP_iff, skB_iff]
theorem l1HasSk_ok (l : List NoteD) (n : Int) (hn : (l.map NoteD.skater).length ≤ 16777216) : FnEq Tryz.prog 97 [.d (.lst 1 ((l.map NoteD.skater).map datI)), .d (.int .i64 n)] [.d (.bool (skB l n))] := by
  rw [← skB_bP]; exact l1Has_ok _ n hn
theorem l1HasIn_ok (l : List NoteD) (n : Int) (hn : (insOf l).length ≤ 16777216) : FnEq Tryz.prog 97 [.d (.lst 1 ((insOf l).map datI)), .d (.int .i64 n)] [.d (.bool (insB l n))] := l1Has_ok _ n hn
theorem wdGood_ok (xs0 : List NoteD) (hn0 : xs0.length ≤ 1048576) : FnEq Tryz.prog 43 [.d (.lst 3 (xs0.map NoteD.dat))] [.d (.bool (bP (NotesOk xs0)))] := by
  refine fn_ok G_ok Tryz.func43 rfl rfl ?_; simp only [Tryz.ntmps43, List.length_cons, List.length_nil, Nat.reduceAdd, Nat.reduceSub, enm]
  repeat' (first | ((with_reducible first | (refine hK _ ?_; clear hK K) | refine stq fun K' hK' => ?_ | refine stc ?_); try simp only [go_sem]) | (with_reducible first | refine stp ?_ | (refine hK' _ ?_; clear hK' K') | refine kN kl43 fun K hK => ?_ | refine kO fun K hK => ?_) | (refine xS rfl fun K' hK' => ?_; simp only [go_sem]) | refine iB ?_ | (with_reducible refine pK_mk ?_ ?_ <;> (intro hc; (try simp only [go_sem]); (try simp at hc); try (exfalso; omega))) | with_reducible refine And.intro (by first | omega | (unfold inI; omega)) ?_)
  refine pw_loop_over [2, 3, 4, 6, 11, 12, 13, 14, 15, 16, 17, 18, 19, 20, 21, 22, 23, 24, 25, 26, 27, 28, 29, 30, 31, 32, 33, 34, 35, 36, 37, 38, 39, 40, 41, 42, 43, 44, 45, 46, 47, 48, 49, 50, 51, 52, 53, 54, 55, 56, 57, 58, 59, 60, 61, 62, 63, 64] (fun k : Nat => [(11, .d (.int .i64 (k : Int))), (3, .row 0 (xs0.take k).length), (4, .row 1 (insOf (xs0.take k)).length)]) (fun k : Nat => [(0, .row 3 1 (((xs0.take k).map NoteD.skater).map datI)), (1, .row 3 1 ((insOf (xs0.take k)).map datI))]) 2 (fun k : Nat => k ≤ xs0.length ∧ Upto (NoteLo xs0) xs0 k) (fun k : Nat => xs0.length - k) 0 ⟨Nat.zero_le _, Upto.zero _ _⟩ (fits_mk [] (by simp [renL_d, bdL_d, sg, over, wipe, wl, memN, ins, rm, lk, fitFr, fit1, ren, renL, bd, bdL, app, fitHp, hget, renB, bdB, insOf, fm_nil] <;> omega)) ?_
  rintro k ⟨hk, hJ⟩
  have hL' : (insOf (xs0.take k)).length ≤ k := fm_take_len _ _ xs0 k
  have hT : (xs0.take k).length ≤ k := List.length_take_le _ _
  simp only [over, wipe, wl, memN, ins, rm, if_true, if_false, Nat.reduceEqDiff, Bool.false_eq_true, reduceCtorEq]
  by_cases hlt : k < xs0.length
  · have hx := List.getElem?_eq_getElem hlt
    generalize xs0[k] = x at hx
    repeat' (first | ((with_reducible first | (refine hK _ ?_; clear hK K) | refine stq fun K' hK' => ?_ | refine stc ?_); try simp only [go_sem, List.getElem?_map, hx, Option.map_some, NoteD.dat]) | (with_reducible first | refine stp ?_ | (refine hK' _ ?_; clear hK' K') | refine kN kl43 fun K hK => ?_ | refine kO fun K hK => ?_) | (refine xS rfl fun K' hK' => ?_; simp only [go_sem, List.getElem?_map, hx, Option.map_some, NoteD.dat]) | ((with_reducible apply CallK.eq); (· with_reducible first | exact l1In_ok _ _ _ | exact l1HasSk_ok (xs0.take k) _ (by simp; omega) | exact l1HasIn_ok (xs0.take k) _ (by omega)); (· simp [RV.flat, D.sc, datI]); try simp only [go_sem, List.getElem?_map, hx, Option.map_some, NoteD.dat]) | refine iB ?_ | (with_reducible refine pK_mk ?_ ?_ <;> (intro hc; (try simp only [go_sem, List.getElem?_map, hx, Option.map_some, NoteD.dat]); (try simp at hc); try (exfalso; omega))) | with_reducible refine And.intro (by first | omega | (unfold inI; omega)) ?_)
    all_goals first
      | (refine retQ_ret rfl rfl (by simp [rowsOf, lk]) ?_; rw [bP_false (NotesOk.not_at hx (by rintro ⟨⟨h1, h2, h3, h4, h5, h6, h7, h8⟩, h9⟩; first | omega | exact h7 (skB_iff.1 (by assumption)) | exact (h8.resolve_left (by omega)).2 ((ins_take k (by assumption)).1 (insB_iff.1 (by assumption)))))])
      | exact ⟨k + 1, ⟨by omega, hJ.succ hx ⟨by omega, by omega, by omega, by omega, by omega, by omega, skB_not (by assumption), by first | exact .inl (by omega) | exact .inr ⟨by omega, fun h => insB_not (by assumption) ((ins_take k (by assumption)).2 h)⟩⟩⟩, by omega, (fits_mk [] (by simp [renL_d, bdL_d, sg, over, wipe, wl, memN, ins, rm, lk, fitFr, fit1, ren, renL, bd, bdL, app, fitHp, hget, renB, bdB, insOf, fm_yes hx, fm_no hx, map_snoc hx, hc, datI] <;> omega))⟩
      | skip
  · have e : xs0.take k = xs0 := List.take_of_length_le (by omega)
    have hU : Upto (NoteLo xs0) xs0 xs0.length := by rwa [show k = xs0.length by omega] at hJ
    repeat' (first | ((with_reducible first | (refine hK _ ?_; clear hK K) | refine stq fun K' hK' => ?_ | refine stc ?_); try simp only [go_sem, e]) | (with_reducible first | refine stp ?_ | (refine hK' _ ?_; clear hK' K') | refine kN kl43 fun K hK => ?_ | refine kO fun K hK => ?_) | (refine xS rfl fun K' hK' => ?_; simp only [go_sem, e]) | refine iB ?_ | (with_reducible refine pK_mk ?_ ?_ <;> (intro hc; (try simp only [go_sem, e]); (try simp at hc); try (exfalso; omega))) | with_reducible refine And.intro (by first | omega | (unfold inI; omega)) ?_)
    refine pw_loop_over [2, 8, 67, 68, 69, 70, 71, 72, 73, 74] (fun k : Nat => [(67, .d (.int .i64 (k : Int)))]) (fun k : Nat => [(0, .row 3 1 ((xs0.map NoteD.skater).map datI)), (1, .row 3 1 ((insOf xs0).map datI))]) 2 (fun k : Nat => k ≤ (insOf xs0).length ∧ ∀ n ∈ (insOf xs0).take k, skB xs0 n = false) (fun k : Nat => (insOf xs0).length - k) 0 ⟨Nat.zero_le _, by simp⟩ (fits_mk [] (by simp [renL_d, bdL_d, sg, over, wipe, wl, memN, ins, rm, lk, fitFr, fit1, ren, renL, bd, bdL, app, fitHp, hget, renB, bdB, e] <;> omega)) ?_
    rintro j ⟨hj, hJ2⟩
    have hI : (insOf xs0).length ≤ xs0.length := fm_len _ _ _
    simp only [over, wipe, wl, memN, ins, rm, if_true, if_false, Nat.reduceEqDiff, Bool.false_eq_true, reduceCtorEq]
    by_cases hlt2 : j < (insOf xs0).length
    · have hy := List.getElem?_eq_getElem hlt2
      generalize (insOf xs0)[j] = y at hy
      repeat' (first | ((with_reducible first | (refine hK _ ?_; clear hK K) | refine stq fun K' hK' => ?_ | refine stc ?_); try simp only [go_sem, List.getElem?_map, hy, Option.map_some, datI, hlt2]) | (with_reducible first | refine stp ?_ | (refine hK' _ ?_; clear hK' K') | refine kN kl43 fun K hK => ?_ | refine kO fun K hK => ?_) | (refine xS rfl fun K' hK' => ?_; simp only [go_sem, List.getElem?_map, hy, Option.map_some, datI, hlt2]) | ((with_reducible apply CallK.eq); (· with_reducible first | exact l1HasSk_ok xs0 _ (by simp; omega)); (· simp [RV.flat, D.sc, datI]); try simp only [go_sem, List.getElem?_map, hy, Option.map_some, datI, hlt2]) | refine iB ?_ | (with_reducible refine pK_mk ?_ ?_ <;> (intro hc; (try simp only [go_sem, List.getElem?_map, hy, Option.map_some, datI, hlt2]); (try simp at hc); try (exfalso; omega))) | with_reducible refine And.intro (by first | omega | (unfold inI; omega)) ?_)

      · refine retQ_ret rfl rfl (by simp [rowsOf, lk]) ?_; rw [bP_false (notes_not (List.mem_of_getElem? hy) (skB_iff.1 (by assumption)))]
      · exact ⟨j + 1, ⟨by omega, fun n hn => by
          rw [take_snoc hy] at hn
          rcases List.mem_append.1 hn with hn | hn
          · exact hJ2 n hn
          · rw [List.mem_singleton] at hn; subst hn; assumption⟩, by omega, (fits_mk [] (by simp [renL_d, bdL_d, sg, over, wipe, wl, memN, ins, rm, lk, fitFr, fit1, ren, renL, bd, bdL, app, fitHp, hget, renB, bdB] <;> omega))⟩
    · rw [List.take_of_length_le (by omega)] at hJ2
      repeat' (first | ((with_reducible first | (refine hK _ ?_; clear hK K) | refine stq fun K' hK' => ?_ | refine stc ?_); try simp only [go_sem]) | (with_reducible first | refine stp ?_ | (refine hK' _ ?_; clear hK' K') | refine kN kl43 fun K hK => ?_ | refine kO fun K hK => ?_) | (refine xS rfl fun K' hK' => ?_; simp only [go_sem]) | refine iB ?_ | (with_reducible refine pK_mk ?_ ?_ <;> (intro hc; (try simp only [go_sem]); (try simp at hc); try (exfalso; omega))) | with_reducible refine And.intro (by first | omega | (unfold inI; omega)) ?_)
      refine retQ_ret rfl rfl (by simp [rowsOf, lk]) ?_; rw [notes_end hU (fun n hn => skB_not (hJ2 n hn))]
end Go.Proofs.YthocihmhljmgdaaGreatDoor

/-
  The abstract machine: a region that draws its order and whose operations only add memory (reads, and calls whose answers are plain data): one walk stands for all orders.
-/
namespace Go.Proofs.YthocihmhljmgdaaGreatDoor
open Go.RowKit

/-- the operation answers x and only adds memory -/
def Grow (P : Program) (o : Oper) (s : AS) (x : PV) : Prop := ∀ (X0 : Nat → Prop) (w0 : Base) (m : Mp) (a : Act) (w : World) (Q : Exit → Act → World → Prop) (A : Act → World → Prop), Sim X0 w0 m s a w →
  (∀ v w', Bel w.heap.size w w' → R m.loc (Owned X0 m s.hp) w' x v → A (a.put o.dst v) w') → o.wp P a w A Q
theorem RR.dat {Y : Nat → Prop} {B : Nat} {w : World} {x : D} {v : Value} {g : Nat → Prop} (h : RR Y B w (.d x) v g) : Rd w Y x v := by
  cases h with
  | d _ _ h => exact h
theorem Grow.call {P : Program} {o : Oper} {s : AS} {f : Operand} {args : Array Operand} {argTypes : Array TypeId} {fid : FuncId} {x : D} (ho : o.op = .call { callee := .value f, args := args, argTypes := argTypes }) (hf : s.get f = .fn fid [])
    (hok : FnEq P fid ((args.toList.map s.get).map (ta2 s.hp)) [.d x]) (hr : (args.toList.map s.get).any rf2 = false) : Grow P o s (.d x) := by
  intro X0 w0 m a w Q A hs hA
  obtain ⟨⟨fn, e1, e2, e3⟩, hcall⟩ := hok
  have hfv := hs.get f
  rw [hf] at hfv
  have hfe : a.eval f = .func (.func fid) #[] #[] := by
    generalize a.eval f = v at hfv
    cases hfv with
    | fn _ _ vs hl h => have : vs = #[] := Array.eq_empty_of_size_eq_zero hl; subst this; rfl
  have hrun : (execOp a.eval o).run P w = .ok (.enter fid (args.map a.eval)) w := by
    have e2' : ¬ fn.name = "runtime.NumGoroutine" := by simpa using e2
    have e3' : ¬ fn.body = none := fun h => by rw [h] at e3; cases e3
    simp [execOp, ho, resolve, hfe, Deferred.ofValue, invoke, callFunc, e1]
    rw [if_neg e2', if_neg e3']
  unfold Oper.wp
  rw [hrun]
  simp only [Oper.upon_enter]
  refine (hcall w (Owned X0 m s.hp) _ hs.glob (fun b hb => hs.lt_size hb) (by simp) fun i x v hx hv => ?_).mono ?_
  · rw [List.getElem?_map] at hx
    cases hi : (args.toList.map s.get)[i]? with
    | none => rw [hi] at hx; cases hx
    | some y =>
      rw [hi] at hx
      cases hx
      have hi2 := hi
      rw [List.getElem?_map] at hi2
      rw [Array.getElem?_map] at hv
      cases ha : args[i]? with
      | none => rw [ha] at hv; cases hv
      | some q =>
        have ha' : args.toList[i]? = some q := by simpa using ha
        rw [ha] at hv
        rw [ha'] at hi2
        cases hv
        cases hi2
        exact ta2_R hs (Stay.refl _ _) (fun h => by rw [List.any_eq_false] at hr; exact absurd h (hr _ (List.mem_of_getElem? hi))) (hs.get q)
  · rintro e w' ⟨rs, rfl, vs, gs, h1, h2, h3, h4, h5⟩
    subst h1
    have h0 : 0 < vs.size := by rw [h2]; exact Nat.one_pos
    have e : retV vs = vs[0] := by unfold retV; rw [dif_pos (show vs.size = 1 by rw [h2]; rfl)]
    rw [e]
    have h6 := h5 0 (.d x) vs[0] rfl (by simp [h0])
    exact hA _ w' h3 (.d _ _ (h6.dat.mono fun b _ hb => ⟨rfl, fun h' => hb (.inl h')⟩))
/-- the same slots, or fewer -/
theorem Sim.sub {X0 : Nat → Prop} {w0 : Base} {m : Mp} {s s' : AS} {a : Act} {w : World} (hs : Sim X0 w0 m s a w) (hn : s'.fr.n = s.fr.n) (hh : s'.hp = s.hp) (hx : s'.nx = s.nx) (hl : ∀ i, lk s'.fr.l i = .und ∨ lk s'.fr.l i = lk s.fr.l i) : Sim X0 w0 m s' a w := by
  obtain ⟨fr', hp', nx'⟩ := s'
  simp only at hn hh hx hl
  subst hh hx
  exact ⟨hs.below, hs.x0, hs.size.trans hn.symm, fun i => by
    rcases hl i with e | e
    · simp only [e]; exact .und _
    · simp only [e]; exact hs.fr i, hs.df, hs.hp, hs.dp, hs.al, hs.pin, hs.inj, hs.own, hs.nx, hs.gl⟩
section
variable {P : Program} {G : List (Nat × TI)} {o : Oper} {l : List Oper} {rd : List Nat} {rds : List (List Nat)} {K : AS → Prop} {s : AS}
end
end Go.Proofs.YthocihmhljmgdaaGreatDoor

/-
  Numbers and notes written and read: the reference's functions, in the abstract machine.
-/
set_option linter.unusedSimpArgs false
set_option linter.unusedVariables false
set_option maxHeartbeats 2000000
set_option maxRecDepth 100000
namespace Go.Proofs.YthocihmhljmgdaaGreatDoor
open Go.RowKit

theorem str_dgt {d : Nat} (h : d < 10) : strOfNums [48 + ((d : Nat) : Int)] = ba [dgt d] := by
  unfold strOfNums ba dgt
  have : (48 + (d : Int)).toNat = 48 + d := by omega
  simp [this]
theorem numL_len2 (n : Nat) : (numL n).length ≤ n + 1 := by
  by_cases h : n < 10
  · rw [numL_lt h]; simp
  · rw [numL_ge (by omega), List.length_append]
    have := numL_len2 (n / 10)
    simp; omega
termination_by n
decreasing_by omega
theorem l1Num_ok : ∀ (n : Nat), n ≤ 4611686018427387904 → FnEq Tryz.prog 98 [.d (.int .i64 n)] [.d (.str (ba (numL n)))] := by
  intro n
  induction n using Nat.strongRecOn with
  | ind n ih =>
    intro hn
    refine fn_ok G_ok Tryz.func98 rfl rfl ?_; simp only [Tryz.ntmps98, List.length_cons, List.length_nil, Nat.reduceAdd, Nat.reduceSub, enm]
    by_cases h : n < 10
    · have hw : IntKind.u8.wrap (48 + (n : Int)) = 48 + (n : Int) := by rw [IntKind.wrap_u8]; omega
      have h' : ((n : Int) < 10) = True := eq_true (by omega)
      repeat' (first | ((with_reducible first | (refine hK _ ?_; clear hK K) | refine stq fun K' hK' => ?_ | refine stc ?_); try simp only [go_sem, h', hw]) | (with_reducible first | refine stp ?_ | (refine hK' _ ?_; clear hK' K') | refine kN kl98 fun K hK => ?_ | refine kO fun K hK => ?_) | (with_reducible apply pw_seq_any_to kl98 mixed) | (with_reducible refine pw_any mixed ?_) | ((first | refine any_step G_ok [0, 3] (by decide +kernel) rfl ?_ | refine any_step G_ok [1, 3] (by decide +kernel) rfl ?_ | refine any_step G_ok [2, 3] (by decide +kernel) rfl ?_ | refine any_step G_ok [3] (by decide +kernel) rfl ?_ | refine any_step G_ok [4] (by decide +kernel) rfl ?_ | refine any_step G_ok [5] (by decide +kernel) rfl ?_ | refine any_step G_ok [6] (by decide +kernel) rfl ?_ | refine any_step G_ok [7] (by decide +kernel) rfl ?_ | refine any_step G_ok [8] (by decide +kernel) rfl ?_ | refine any_step G_ok [9] (by decide +kernel) rfl ?_ | refine any_step G_ok [10] (by decide +kernel) rfl ?_ | refine any_step G_ok [2, 4] (by decide +kernel) rfl ?_ | refine any_step G_ok [2, 5] (by decide +kernel) rfl ?_ | refine any_step G_ok [2, 6] (by decide +kernel) rfl ?_ | refine any_step G_ok [2, 7] (by decide +kernel) rfl ?_ | refine any_step G_ok [2, 8] (by decide +kernel) rfl ?_ | refine any_step G_ok [2] (by decide +kernel) rfl ?_ | refine any_step G_ok [1, 4] (by decide +kernel) rfl ?_ | refine any_step G_ok [1, 5] (by decide +kernel) rfl ?_ | refine any_step G_ok [1, 6] (by decide +kernel) rfl ?_ | refine any_step G_ok [1, 7] (by decide +kernel) rfl ?_ | refine any_step G_ok [1, 8] (by decide +kernel) rfl ?_ | refine any_step G_ok [1] (by decide +kernel) rfl ?_ | refine any_step G_ok [0, 4] (by decide +kernel) rfl ?_ | refine any_step G_ok [0, 5] (by decide +kernel) rfl ?_ | refine any_step G_ok [0, 6] (by decide +kernel) rfl ?_ | refine any_step G_ok [0, 7] (by decide +kernel) rfl ?_ | refine any_step G_ok [0, 8] (by decide +kernel) rfl ?_ | refine any_step G_ok [0] (by decide +kernel) rfl ?_); (repeat' with_reducible first | exact True.intro | refine And.intro ?_ ?_) <;> refine ⟨_, rfl, fun K' hK' => ?_⟩ <;> ((first | with_reducible refine s_none rfl ?_ | refine s_some2 rfl ?_); simp only [go_sem, h', hw])) | (refine any_done (by decide +kernel) ?_; try simp only [go_sem, h', hw]) | (with_reducible exact Or.inl rfl) | (exact Or.inr (fits_mk [] (by simp [renL_d, bdL_d, sg, over, wipe, wl, memN, ins, rm, lk, fitFr, fit1, ren, renL, bd, bdL, app, fitHp, hget, renB, bdB] <;> omega))) | (with_reducible refine pK_mk ?_ ?_ <;> (intro hc; (try simp only [go_sem, h', hw]); (try simp at hc); try (exfalso; omega))) | with_reducible refine And.intro (by first | omega | (unfold inI; omega)) ?_)
      all_goals first
        | omega
        | skip
      refine pq_toStr (xs := [48 + (n : Int)]) rfl (G_ok _ _ G22) Tryz.underlying5 (G_ok _ _ G9) rfl ?_
      rw [str_dgt h, ← numL_lt h]
      repeat' (first | ((with_reducible first | (refine hK _ ?_; clear hK K) | refine stq fun K' hK' => ?_ | refine stc ?_); try simp only [go_sem]) | (with_reducible first | refine stp ?_ | (refine hK' _ ?_; clear hK' K') | refine kN kl98 fun K hK => ?_ | refine kO fun K hK => ?_) | (with_reducible apply pw_seq_any_to kl98 mixed) | (with_reducible refine pw_any mixed ?_) | ((first | refine any_step G_ok [0, 3] (by decide +kernel) rfl ?_ | refine any_step G_ok [1, 3] (by decide +kernel) rfl ?_ | refine any_step G_ok [2, 3] (by decide +kernel) rfl ?_ | refine any_step G_ok [3] (by decide +kernel) rfl ?_ | refine any_step G_ok [4] (by decide +kernel) rfl ?_ | refine any_step G_ok [5] (by decide +kernel) rfl ?_ | refine any_step G_ok [6] (by decide +kernel) rfl ?_ | refine any_step G_ok [7] (by decide +kernel) rfl ?_ | refine any_step G_ok [8] (by decide +kernel) rfl ?_ | refine any_step G_ok [9] (by decide +kernel) rfl ?_ | refine any_step G_ok [10] (by decide +kernel) rfl ?_ | refine any_step G_ok [2, 4] (by decide +kernel) rfl ?_ | refine any_step G_ok [2, 5] (by decide +kernel) rfl ?_ | refine any_step G_ok [2, 6] (by decide +kernel) rfl ?_ | refine any_step G_ok [2, 7] (by decide +kernel) rfl ?_ | refine any_step G_ok [2, 8] (by decide +kernel) rfl ?_ | refine any_step G_ok [2] (by decide +kernel) rfl ?_ | refine any_step G_ok [1, 4] (by decide +kernel) rfl ?_ | refine any_step G_ok [1, 5] (by decide +kernel) rfl ?_ | refine any_step G_ok [1, 6] (by decide +kernel) rfl ?_ | refine any_step G_ok [1, 7] (by decide +kernel) rfl ?_ | refine any_step G_ok [1, 8] (by decide +kernel) rfl ?_ | refine any_step G_ok [1] (by decide +kernel) rfl ?_ | refine any_step G_ok [0, 4] (by decide +kernel) rfl ?_ | refine any_step G_ok [0, 5] (by decide +kernel) rfl ?_ | refine any_step G_ok [0, 6] (by decide +kernel) rfl ?_ | refine any_step G_ok [0, 7] (by decide +kernel) rfl ?_ | refine any_step G_ok [0, 8] (by decide +kernel) rfl ?_ | refine any_step G_ok [0] (by decide +kernel) rfl ?_); (repeat' with_reducible first | exact True.intro | refine And.intro ?_ ?_) <;> refine ⟨_, rfl, fun K' hK' => ?_⟩ <;> ((first | with_reducible refine s_none rfl ?_ | refine s_some2 rfl ?_); simp only [go_sem])) | (refine any_done (by decide +kernel) ?_; try simp only [go_sem]) | (with_reducible exact Or.inl rfl) | (exact Or.inr (fits_mk [] (by simp [renL_d, bdL_d, sg, over, wipe, wl, memN, ins, rm, lk, fitFr, fit1, ren, renL, bd, bdL, app, fitHp, hget, renB, bdB] <;> omega))) | (with_reducible refine pK_mk ?_ ?_ <;> (intro hc; (try simp only [go_sem]); (try simp at hc); try (exfalso; omega))) | with_reducible refine And.intro (by first | omega | (unfold inI; omega)) ?_)
      all_goals first
        | omega
        | (refine retQ_ret rfl rfl (by simp [rowsOf, lk]) ?_; rfl)
        | skip
    · have h' : ((n : Int) < 10) = False := eq_false (by omega)
      have hm : (n : Int).tmod 10 = ((n % 10 : Nat) : Int) := by rw [Int.tmod_eq_emod_of_nonneg (by omega)]; omega
      have hq : (n : Int).tdiv 10 = ((n / 10 : Nat) : Int) := by rw [Int.tdiv_eq_ediv_of_nonneg (by omega)]; omega
      have hw : IntKind.u8.wrap (48 + ((n % 10 : Nat) : Int)) = 48 + ((n % 10 : Nat) : Int) := by rw [IntKind.wrap_u8]; omega
      have hr := ih (n / 10) (by omega) (by omega)
      repeat' (first | with_reducible refine stop_seq (id := 3) ?_ | with_reducible refine stop_one (id := 3) ?_ | ((with_reducible first | (refine hK _ ?_; clear hK K) | refine stq fun K' hK' => ?_ | refine stc ?_); try simp only [go_sem, h']) | (with_reducible first | refine stp ?_ | (refine hK' _ ?_; clear hK' K') | refine kN kl98 fun K hK => ?_ | refine kO fun K hK => ?_) | (with_reducible apply pw_seq_any_to kl98 mixed) | (with_reducible refine pw_any mixed ?_) | ((first | refine any_step G_ok [0, 3] (by decide +kernel) rfl ?_ | refine any_step G_ok [1, 3] (by decide +kernel) rfl ?_ | refine any_step G_ok [2, 3] (by decide +kernel) rfl ?_ | refine any_step G_ok [3] (by decide +kernel) rfl ?_ | refine any_step G_ok [4] (by decide +kernel) rfl ?_ | refine any_step G_ok [5] (by decide +kernel) rfl ?_ | refine any_step G_ok [6] (by decide +kernel) rfl ?_ | refine any_step G_ok [7] (by decide +kernel) rfl ?_ | refine any_step G_ok [8] (by decide +kernel) rfl ?_ | refine any_step G_ok [9] (by decide +kernel) rfl ?_ | refine any_step G_ok [10] (by decide +kernel) rfl ?_ | refine any_step G_ok [2, 4] (by decide +kernel) rfl ?_ | refine any_step G_ok [2, 5] (by decide +kernel) rfl ?_ | refine any_step G_ok [2, 6] (by decide +kernel) rfl ?_ | refine any_step G_ok [2, 7] (by decide +kernel) rfl ?_ | refine any_step G_ok [2, 8] (by decide +kernel) rfl ?_ | refine any_step G_ok [2] (by decide +kernel) rfl ?_ | refine any_step G_ok [1, 4] (by decide +kernel) rfl ?_ | refine any_step G_ok [1, 5] (by decide +kernel) rfl ?_ | refine any_step G_ok [1, 6] (by decide +kernel) rfl ?_ | refine any_step G_ok [1, 7] (by decide +kernel) rfl ?_ | refine any_step G_ok [1, 8] (by decide +kernel) rfl ?_ | refine any_step G_ok [1] (by decide +kernel) rfl ?_ | refine any_step G_ok [0, 4] (by decide +kernel) rfl ?_ | refine any_step G_ok [0, 5] (by decide +kernel) rfl ?_ | refine any_step G_ok [0, 6] (by decide +kernel) rfl ?_ | refine any_step G_ok [0, 7] (by decide +kernel) rfl ?_ | refine any_step G_ok [0, 8] (by decide +kernel) rfl ?_ | refine any_step G_ok [0] (by decide +kernel) rfl ?_); (repeat' with_reducible first | exact True.intro | refine And.intro ?_ ?_) <;> refine ⟨_, rfl, fun K' hK' => ?_⟩ <;> ((first | with_reducible refine s_none rfl ?_ | refine s_some2 rfl ?_); simp only [go_sem, h'])) | (refine any_done (by decide +kernel) ?_; try simp only [go_sem, h']) | (with_reducible exact Or.inl rfl) | (exact Or.inr (fits_mk [] (by simp [renL_d, bdL_d, sg, over, wipe, wl, memN, ins, rm, lk, fitFr, fit1, ren, renL, bd, bdL, app, fitHp, hget, renB, bdB] <;> omega))) | (with_reducible refine pK_mk ?_ ?_ <;> (intro hc; (try simp only [go_sem, h']); (try simp at hc); try (exfalso; omega))) | with_reducible refine And.intro (by first | omega | (unfold inI; omega)) ?_)
      unfold Stop
      have hs1 : (ba (numL (n / 10))).size ≤ n / 10 + 1 := by rw [ba_size]; exact numL_len2 _
      have hs2 : (ba [dgt (n % 10)]).size = 1 := rfl
      have hfin : ba (numL (n / 10)) ++ ba [dgt (n % 10)] = ba (numL n) := by rw [ba_app, numL_ge (n := n) (by omega)]
      refine pw_seq_anyN kl98 mixed ?_
      refine anyN_take 0 rfl rfl rfl (by decide +kernel) (by decide +kernel) (by decide +kernel) (pure_move (.inl rfl)) ?_
      try simp only [go_sem, Nat.zero_add, Int.toNat_natCast, Nat.mul_one, hm, hq, hw, hfin]
      refine anyN_take 3 rfl rfl rfl (by decide +kernel) (by decide +kernel) (by decide +kernel) (pure_move (.inl rfl)) ?_
      try simp only [go_sem, Nat.zero_add, Int.toNat_natCast, Nat.mul_one, hm, hq, hw, hfin]
      repeat' (first
        | (with_reducible refine hK' _ ?_; clear hK' K'; try simp only [go_sem, Nat.zero_add, Int.toNat_natCast, Nat.mul_one, hm, hq, hw, hfin])
        | ((with_reducible apply CallK.eq); (focus (with_reducible first | exact hr)); (focus (first | exact rfl | (simp [RV.flat, D.sc, datI]; done))); try simp only [go_sem, Nat.zero_add, Int.toNat_natCast, Nat.mul_one, hm, hq, hw, hfin])
        | with_reducible refine And.intro (by first | omega | (unfold inI; omega)) ?_
        | (refine anyN_take 10 rfl rfl rfl (by decide +kernel) (by decide +kernel) (by decide +kernel) (pure_move (.inr rfl)) ?_; try simp only [go_sem, Nat.zero_add, Int.toNat_natCast, Nat.mul_one, hm, hq, hw, hfin])
        | (refine anyN_step G_ok [1, 4] (by decide +kernel) rfl ⟨⟨_, rfl, fun K' hK' => ?_⟩, ⟨_, rfl, fun K' hK' => ?_⟩, trivial⟩ <;> ((first | with_reducible refine s_none rfl ?_ | refine s_some2 rfl ?_); simp only [go_sem, Nat.zero_add, Int.toNat_natCast, Nat.mul_one, hm, hq, hw, hfin]))
        | (refine anyN_step G_ok [2, 4] (by decide +kernel) rfl ⟨⟨_, rfl, fun K' hK' => ?_⟩, ⟨_, rfl, fun K' hK' => ?_⟩, trivial⟩ <;> ((first | with_reducible refine s_none rfl ?_ | refine s_some2 rfl ?_); simp only [go_sem, Nat.zero_add, Int.toNat_natCast, Nat.mul_one, hm, hq, hw, hfin]))
        | (refine anyN_step G_ok [4] (by decide +kernel) rfl ⟨⟨_, rfl, fun K' hK' => ?_⟩, trivial⟩ <;> ((first | with_reducible refine s_none rfl ?_ | refine s_some2 rfl ?_); simp only [go_sem, Nat.zero_add, Int.toNat_natCast, Nat.mul_one, hm, hq, hw, hfin]))
        | (refine anyN_step G_ok [5] (by decide +kernel) rfl ⟨⟨_, rfl, fun K' hK' => ?_⟩, trivial⟩ <;> ((first | with_reducible refine s_none rfl ?_ | refine s_some2 rfl ?_); simp only [go_sem, Nat.zero_add, Int.toNat_natCast, Nat.mul_one, hm, hq, hw, hfin]))
        | (refine anyN_step G_ok [6] (by decide +kernel) rfl ⟨⟨_, rfl, fun K' hK' => ?_⟩, trivial⟩ <;> ((first | with_reducible refine s_none rfl ?_ | refine s_some2 rfl ?_); simp only [go_sem, Nat.zero_add, Int.toNat_natCast, Nat.mul_one, hm, hq, hw, hfin]))
        | (refine anyN_step G_ok [7] (by decide +kernel) rfl ⟨⟨_, rfl, fun K' hK' => ?_⟩, trivial⟩ <;> ((first | with_reducible refine s_none rfl ?_ | refine s_some2 rfl ?_); simp only [go_sem, Nat.zero_add, Int.toNat_natCast, Nat.mul_one, hm, hq, hw, hfin]))
        | (refine anyN_step G_ok [8] (by decide +kernel) rfl ⟨⟨_, rfl, fun K' hK' => ?_⟩, trivial⟩ <;> ((first | with_reducible refine s_none rfl ?_ | refine s_some2 rfl ?_); simp only [go_sem, Nat.zero_add, Int.toNat_natCast, Nat.mul_one, hm, hq, hw, hfin]))
        | (refine anyN_step G_ok [9] (by decide +kernel) rfl ⟨⟨_, rfl, fun K' hK' => ?_⟩, trivial⟩ <;> ((first | with_reducible refine s_none rfl ?_ | refine s_some2 rfl ?_); simp only [go_sem, Nat.zero_add, Int.toNat_natCast, Nat.mul_one, hm, hq, hw, hfin]))
        | (refine anyN_step G_ok [2, 5] (by decide +kernel) rfl ⟨⟨_, rfl, fun K' hK' => ?_⟩, ⟨_, rfl, fun K' hK' => ?_⟩, trivial⟩ <;> ((first | with_reducible refine s_none rfl ?_ | refine s_some2 rfl ?_); simp only [go_sem, Nat.zero_add, Int.toNat_natCast, Nat.mul_one, hm, hq, hw, hfin]))
        | (refine anyN_step G_ok [2, 6] (by decide +kernel) rfl ⟨⟨_, rfl, fun K' hK' => ?_⟩, ⟨_, rfl, fun K' hK' => ?_⟩, trivial⟩ <;> ((first | with_reducible refine s_none rfl ?_ | refine s_some2 rfl ?_); simp only [go_sem, Nat.zero_add, Int.toNat_natCast, Nat.mul_one, hm, hq, hw, hfin]))
        | (refine anyN_step G_ok [2, 7] (by decide +kernel) rfl ⟨⟨_, rfl, fun K' hK' => ?_⟩, ⟨_, rfl, fun K' hK' => ?_⟩, trivial⟩ <;> ((first | with_reducible refine s_none rfl ?_ | refine s_some2 rfl ?_); simp only [go_sem, Nat.zero_add, Int.toNat_natCast, Nat.mul_one, hm, hq, hw, hfin]))
        | (refine anyN_step G_ok [2, 8] (by decide +kernel) rfl ⟨⟨_, rfl, fun K' hK' => ?_⟩, ⟨_, rfl, fun K' hK' => ?_⟩, trivial⟩ <;> ((first | with_reducible refine s_none rfl ?_ | refine s_some2 rfl ?_); simp only [go_sem, Nat.zero_add, Int.toNat_natCast, Nat.mul_one, hm, hq, hw, hfin]))
        | (refine anyN_step G_ok [2] (by decide +kernel) rfl ⟨⟨_, rfl, fun K' hK' => ?_⟩, trivial⟩ <;> ((first | with_reducible refine s_none rfl ?_ | refine s_some2 rfl ?_); simp only [go_sem, Nat.zero_add, Int.toNat_natCast, Nat.mul_one, hm, hq, hw, hfin]))
        | (refine anyN_step G_ok [1, 5] (by decide +kernel) rfl ⟨⟨_, rfl, fun K' hK' => ?_⟩, ⟨_, rfl, fun K' hK' => ?_⟩, trivial⟩ <;> ((first | with_reducible refine s_none rfl ?_ | refine s_some2 rfl ?_); simp only [go_sem, Nat.zero_add, Int.toNat_natCast, Nat.mul_one, hm, hq, hw, hfin]))
        | (refine anyN_step G_ok [1, 6] (by decide +kernel) rfl ⟨⟨_, rfl, fun K' hK' => ?_⟩, ⟨_, rfl, fun K' hK' => ?_⟩, trivial⟩ <;> ((first | with_reducible refine s_none rfl ?_ | refine s_some2 rfl ?_); simp only [go_sem, Nat.zero_add, Int.toNat_natCast, Nat.mul_one, hm, hq, hw, hfin]))
        | (refine anyN_step G_ok [1, 7] (by decide +kernel) rfl ⟨⟨_, rfl, fun K' hK' => ?_⟩, ⟨_, rfl, fun K' hK' => ?_⟩, trivial⟩ <;> ((first | with_reducible refine s_none rfl ?_ | refine s_some2 rfl ?_); simp only [go_sem, Nat.zero_add, Int.toNat_natCast, Nat.mul_one, hm, hq, hw, hfin]))
        | (refine anyN_step G_ok [1, 8] (by decide +kernel) rfl ⟨⟨_, rfl, fun K' hK' => ?_⟩, ⟨_, rfl, fun K' hK' => ?_⟩, trivial⟩ <;> ((first | with_reducible refine s_none rfl ?_ | refine s_some2 rfl ?_); simp only [go_sem, Nat.zero_add, Int.toNat_natCast, Nat.mul_one, hm, hq, hw, hfin]))
        | (refine anyN_step G_ok [1] (by decide +kernel) rfl ⟨⟨_, rfl, fun K' hK' => ?_⟩, trivial⟩ <;> ((first | with_reducible refine s_none rfl ?_ | refine s_some2 rfl ?_); simp only [go_sem, Nat.zero_add, Int.toNat_natCast, Nat.mul_one, hm, hq, hw, hfin]))
        | (refine anyN_done (by decide +kernel) ?_; try simp only [go_sem, Nat.zero_add, Int.toNat_natCast, Nat.mul_one, hm, hq, hw, hfin])
        | ((refine pq_toStr (xs := [48 + ((n % 10 : Nat) : Int)]) rfl (G_ok _ _ G22) Tryz.underlying5 (G_ok _ _ G9) rfl ?_); (rw [str_dgt (by omega)])))
      all_goals
        repeat' (first | ((with_reducible first | (refine hK _ ?_; clear hK K) | refine stq fun K' hK' => ?_ | refine stc ?_); try simp only [go_sem]) | (with_reducible first | refine stp ?_ | (refine hK' _ ?_; clear hK' K') | refine kN kl98 fun K hK => ?_ | refine kO fun K hK => ?_) | (with_reducible apply pw_seq_any_to kl98 mixed) | (with_reducible refine pw_any mixed ?_) | ((first | refine any_step G_ok [0, 3] (by decide +kernel) rfl ?_ | refine any_step G_ok [1, 3] (by decide +kernel) rfl ?_ | refine any_step G_ok [2, 3] (by decide +kernel) rfl ?_ | refine any_step G_ok [3] (by decide +kernel) rfl ?_ | refine any_step G_ok [4] (by decide +kernel) rfl ?_ | refine any_step G_ok [5] (by decide +kernel) rfl ?_ | refine any_step G_ok [6] (by decide +kernel) rfl ?_ | refine any_step G_ok [7] (by decide +kernel) rfl ?_ | refine any_step G_ok [8] (by decide +kernel) rfl ?_ | refine any_step G_ok [9] (by decide +kernel) rfl ?_ | refine any_step G_ok [10] (by decide +kernel) rfl ?_ | refine any_step G_ok [2, 4] (by decide +kernel) rfl ?_ | refine any_step G_ok [2, 5] (by decide +kernel) rfl ?_ | refine any_step G_ok [2, 6] (by decide +kernel) rfl ?_ | refine any_step G_ok [2, 7] (by decide +kernel) rfl ?_ | refine any_step G_ok [2, 8] (by decide +kernel) rfl ?_ | refine any_step G_ok [2] (by decide +kernel) rfl ?_ | refine any_step G_ok [1, 4] (by decide +kernel) rfl ?_ | refine any_step G_ok [1, 5] (by decide +kernel) rfl ?_ | refine any_step G_ok [1, 6] (by decide +kernel) rfl ?_ | refine any_step G_ok [1, 7] (by decide +kernel) rfl ?_ | refine any_step G_ok [1, 8] (by decide +kernel) rfl ?_ | refine any_step G_ok [1] (by decide +kernel) rfl ?_ | refine any_step G_ok [0, 4] (by decide +kernel) rfl ?_ | refine any_step G_ok [0, 5] (by decide +kernel) rfl ?_ | refine any_step G_ok [0, 6] (by decide +kernel) rfl ?_ | refine any_step G_ok [0, 7] (by decide +kernel) rfl ?_ | refine any_step G_ok [0, 8] (by decide +kernel) rfl ?_ | refine any_step G_ok [0] (by decide +kernel) rfl ?_); (repeat' with_reducible first | exact True.intro | refine And.intro ?_ ?_) <;> refine ⟨_, rfl, fun K' hK' => ?_⟩ <;> ((first | with_reducible refine s_none rfl ?_ | refine s_some2 rfl ?_); simp only [go_sem])) | (refine any_done (by decide +kernel) ?_; try simp only [go_sem]) | (with_reducible exact Or.inl rfl) | (exact Or.inr (fits_mk [] (by simp [renL_d, bdL_d, sg, over, wipe, wl, memN, ins, rm, lk, fitFr, fit1, ren, renL, bd, bdL, app, fitHp, hget, renB, bdB] <;> omega))) | (with_reducible refine pK_mk ?_ ?_ <;> (intro hc; (try simp only [go_sem]); (try simp at hc); try (exfalso; omega))) | with_reducible refine And.intro (by first | omega | (unfold inI; omega)) ?_)
        refine retQ_ret rfl rfl (by simp [rowsOf, lk]) ?_
        rfl
theorem l1NumI_ok (z : Int) (h0 : 0 ≤ z) (h : z ≤ 999) : FnEq Tryz.prog 98 [.d (.int .i64 z)] [.d (.str (ba (numI z)))] := by
  have := l1Num_ok z.toNat (by omega)
  rw [show ((z.toNat : Nat) : Int) = z by omega] at this
  exact this
theorem text_zero : ba (textL []) = ⟨#[]⟩ := rfl
theorem numI_size {z : Int} (h : z ≤ 999) : (ba (numI z)).size ≤ 3 := by rw [ba_size]; exact numL_len (by omega)
theorem line_len {x : NoteD} (h : NoteFit x) : (lineL x).length ≤ 11 := by
  unfold NoteFit at h
  have h1 := numL_len (n := x.skater.toNat) (by omega)
  have h2 := numL_len (n := x.before.toNat) (by omega)
  have h3 := numL_len (n := x.inn.toNat) (by omega)
  unfold lineL numI
  simp
  omega
theorem text_len : ∀ {l : List NoteD}, (∀ x ∈ l, NoteFit x) → (textL l).length ≤ 12 * l.length
  | [], _ => by simp [textL]
  | x :: l, h => by
    have h1 := line_len (h x (by simp))
    have h2 := text_len (l := l) fun y hy => h y (List.mem_cons_of_mem _ hy)
    rw [textL]
    simp
    omega
theorem text_snoc {l : List NoteD} {k : Nat} {x : NoteD} (h : l[k]? = some x) : ba (textL (l.take k)) ++ (ba (numI x.skater) ++ ⟨#[32]⟩ ++ ba (numI x.before) ++ ⟨#[32]⟩ ++ ba (numI x.inn) ++ ⟨#[10]⟩) = ba (textL (l.take (k + 1))) := by
  rw [take_snoc h, textL_app, show (⟨#[32]⟩ : ByteArray) = ba [32] from rfl, show (⟨#[10]⟩ : ByteArray) = ba [10] from rfl]
  simp only [ba_app]
  congr 1
  simp [textL, lineL]
theorem wdText_ok (l : List NoteD) (hl : l.length ≤ 1048576) (hf : ∀ x ∈ l, NoteFit x) : FnEq Tryz.prog 44 [.d (.lst 3 (l.map NoteD.dat))] [.d (.str (ba (textL l)))] := by
  refine fn_ok G_ok Tryz.func44 rfl rfl ?_; simp only [Tryz.ntmps44, List.length_cons, List.length_nil, Nat.reduceAdd, Nat.reduceSub, enm]
  repeat' (first | ((with_reducible first | (refine hK _ ?_; clear hK K) | refine stq fun K' hK' => ?_ | refine stc ?_); try simp only [go_sem]) | (with_reducible first | refine stp ?_ | (refine hK' _ ?_; clear hK' K') | refine kN kl44 fun K hK => ?_ | refine kO fun K hK => ?_) | refine iB ?_ | (with_reducible refine pw_seq_drawK kl44 G_ok mixed (by kernel_rfl) (fun K hK => ?_)) | (with_reducible refine pw_draw G_ok mixed (by kernel_rfl) ?_) | (with_reducible refine pK_mk ?_ ?_ <;> (intro hc; (try simp only [go_sem]); (try simp at hc); try (exfalso; omega))) | with_reducible refine And.intro (by first | omega | (unfold inI; omega)) ?_)
  refine pw_loop_over [2, 3, 5, 8, 9, 10, 11, 12, 13, 14, 15, 16, 17, 18, 19, 20, 21, 22, 23, 24, 25, 26, 27, 28] (fun k : Nat => [(8, .d (.int .i64 (k : Int))), (3, .d (.str (ba (textL (l.take k)))))]) (fun k : Nat => []) 0 (fun k : Nat => k ≤ l.length) (fun k : Nat => l.length - k) 0 (Nat.zero_le _) (fits_mk [] (by simp [renL_d, bdL_d, sg, over, wipe, wl, memN, ins, rm, lk, fitFr, fit1, ren, renL, bd, bdL, app, fitHp, hget, renB, bdB, List.take_zero, text_zero] <;> omega)) ?_
  intro k hk
  simp only [over, wipe, wl, memN, ins, rm, if_true, if_false, Nat.reduceEqDiff, Bool.false_eq_true, reduceCtorEq]
  by_cases hlt : k < l.length
  · have hx := List.getElem?_eq_getElem hlt
    generalize l[k] = x at hx
    have hfx := hf x (List.mem_of_getElem? hx)
    have hT := text_len (l := l.take k) fun y hy => hf y (List.mem_of_mem_take hy)
    have hTk : (l.take k).length ≤ k := List.length_take_le _ _
    rw [← ba_size] at hT
    have hs := text_snoc hx
    unfold NoteFit at hfx
    obtain ⟨f1, f2, f3, f4, f5, f6⟩ := hfx
    have s1 := numI_size f2
    have s2 := numI_size f4
    have s3 := numI_size f6
    have s4 : (⟨#[32]⟩ : ByteArray).size = 1 := rfl
    have s5 : (⟨#[10]⟩ : ByteArray).size = 1 := rfl
    have n1 := l1NumI_ok x.skater f1 f2
    have n2 := l1NumI_ok x.before f3 f4
    have n3 := l1NumI_ok x.inn f5 f6
    generalize ba (textL (l.take k)) = T at *
    generalize ba (numI x.skater) = A at *
    generalize ba (numI x.before) = B at *
    generalize ba (numI x.inn) = C at *
    repeat' (first | ((with_reducible first | (refine hK _ ?_; clear hK K) | refine stq fun K' hK' => ?_ | refine stc ?_); try simp only [go_sem, List.getElem?_map, hx, Option.map_some, NoteD.dat, ByteArray.size_append, s4, s5]) | (with_reducible first | refine stp ?_ | (refine hK' _ ?_; clear hK' K') | refine kN kl44 fun K hK => ?_ | refine kO fun K hK => ?_) | ((with_reducible first | apply CallK.eq | apply CallQ.eqs); (· with_reducible first | exact n1 | exact n2 | exact n3); (· first | exact rfl | (simp [RV.flat, D.sc, datI]; done)); try simp only [go_sem, List.getElem?_map, hx, Option.map_some, NoteD.dat, ByteArray.size_append, s4, s5]) | refine iB ?_ | (with_reducible refine pw_seq_drawK kl44 G_ok mixed (by kernel_rfl) (fun K hK => ?_)) | (with_reducible refine pw_draw G_ok mixed (by kernel_rfl) ?_) | (with_reducible refine pK_mk ?_ ?_ <;> (intro hc; (try simp only [go_sem, List.getElem?_map, hx, Option.map_some, NoteD.dat, ByteArray.size_append, s4, s5]); (try simp at hc); try (exfalso; omega))) | with_reducible refine And.intro (by first | omega | (unfold inI; omega)) ?_)
    all_goals first
      | omega
      | exact ⟨k + 1, by omega, by omega, (fits_mk [] (by simp [renL_d, bdL_d, sg, over, wipe, wl, memN, ins, rm, lk, fitFr, fit1, ren, renL, bd, bdL, app, fitHp, hget, renB, bdB, hs] <;> omega))⟩
      | skip
  · have e : l.take k = l := List.take_of_length_le (by omega)
    repeat' (first | ((with_reducible first | (refine hK _ ?_; clear hK K) | refine stq fun K' hK' => ?_ | refine stc ?_); try simp only [go_sem, e]) | (with_reducible first | refine stp ?_ | (refine hK' _ ?_; clear hK' K') | refine kN kl44 fun K hK => ?_ | refine kO fun K hK => ?_) | refine iB ?_ | (with_reducible refine pw_seq_drawK kl44 G_ok mixed (by kernel_rfl) (fun K hK => ?_)) | (with_reducible refine pw_draw G_ok mixed (by kernel_rfl) ?_) | (with_reducible refine pK_mk ?_ ?_ <;> (intro hc; (try simp only [go_sem, e]); (try simp at hc); try (exfalso; omega))) | with_reducible refine And.intro (by first | omega | (unfold inI; omega)) ?_)
    refine retQ_ret rfl rfl (by simp [rowsOf, lk]) ?_; rfl
end Go.Proofs.YthocihmhljmgdaaGreatDoor
