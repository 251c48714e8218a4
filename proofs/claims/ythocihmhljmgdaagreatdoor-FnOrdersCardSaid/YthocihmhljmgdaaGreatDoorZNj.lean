/-
  The abstract machine: bytes made a string. No program is named here.
-/
import Derived.Test.YthocihmhljmgdaaGreatDoorZM11
import Derived.Laws.BytesArg
import Derived.Test.YthocihmhljmgdaaGreatDoorZNt
import Derived.Test.YthocihmhljmgdaaGreatDoorZTk
import Derived.Test.YthocihmhljmgdaaGreatDoorZNq
import Derived.Test.YthocihmhljmgdaaGreatDoorZDl
import Derived.Test.YthocihmhljmgdaaGreatDoorSlb
import Derived.Shelf.Strings.OnBuilder
import Derived.Shelf.Strconv.Itoa3
import Derived.Lib.AppendIntMem
set_option linter.unusedSimpArgs false
set_option linter.unusedVariables false
set_option maxHeartbeats 2000000
set_option maxRecDepth 100000
namespace Go.Proofs.YthocihmhljmgdaaGreatDoor
open Go.RowKit

theorem SrcOK.bytes {w : World} {X : Nat → Prop} {xs : List Int} {v : Value} (h : SrcOK w X 1 (xs.map fun n : Int => [D.int .u8 n]) v) : (∃ A c, xs = [] ∧ v = .slice A 0 c) ∨ ∃ b off c, v = .slice (some ⟨b, off, none⟩) xs.length c ∧ ∀ i, i < xs.length → w.cell? ⟨b, off + i, none⟩ = some (.int .u8 (xs.getD i 0)) := by
  obtain ⟨_, ⟨h1, A, c, h2⟩ | ⟨b, off, c, h1, _, h2⟩⟩ := h
  · exact .inl ⟨A, c, by simpa using h1, h2⟩
  · refine .inr ⟨b, off, c, by rw [h1, List.length_map], fun i hi => ?_⟩
    have hx := List.getElem?_eq_getElem hi
    obtain ⟨u, h3, h4⟩ := h2 i [.int .u8 xs[i]] 0 (.int .u8 xs[i]) (by rw [List.getElem?_map, hx]; rfl) rfl
    cases h4
    rw [List.getD_eq_getElem?_getD, hx]
    simpa using h3
section
variable {P : Program} {o : Oper} {s : AS} {KP : PV → Prop}
theorem pq_toStr {src dst e : TypeId} {x : Operand} {bytes : Nat} {z : List D} {xs : List Int} (ho : o.op = .convert src dst x) (hs : tiB P src (.slc e 1 bytes z) = true) (he : P.underlying e = some (.int .u8)) (hd : tiB P dst .str = true) (hx : srcL s.hp (s.get x) = some (1, xs.map fun n : Int => [D.int .u8 n])) (hK : KP (.d (.str (strOfNums xs)))) : PQ P o s KP := by
  refine ⟨_, fun X0 w0 m a wb hsim => ?_, hK⟩
  have hu := (tiB_slc hs).1
  have hud := (tiB_str hd).1
  refine ⟨.string (strOfNums xs), fun w' hb => ?_, fun w' hb => .d _ _ (.str _)⟩
  have hrun : (execOp a.eval o).run P w' = .ok (.value (.string (strOfNums xs))) w' := by
    rcases (hsim.src hx (hsim.get x)).bytes with ⟨A, c, h1, h2⟩ | ⟨b, off, c, h1, h2⟩
    · subst h1
      cases A with
      | none => simp [execOp, ho, h2, run_convert_bytes_nil w' src e hu he 0 c dst hud]; rfl
      | some A0 =>
        have hl : (loadCells A0 0).run P w' = .ok (([] : List Int).map (Value.int .u8)).toArray w' := by simpa using run_loadCells_list (P := P) w' A0 [] (fun j v hj => by simp at hj)
        simp [execOp, ho, h2, run_convert_bytes_string w' src dst e _ 0 c hu he hud, run_bytesToString w' A0 0 c [] hl]; rfl
    · simp [execOp, ho, h1, run_convert_bytes_arg w' src e hu he b off xs.length c xs rfl (fun i hi => (hb.cell (p := ⟨b, off + i, none⟩) (cell_lt' (h2 i hi))).trans (h2 i hi)) dst hud]
  unfold Oper.quietAt
  rw [hrun]
  exact ⟨rfl, rfl⟩
end
section
variable {P : Program} {o : Oper} {s : AS} {KP : PV → Prop}
end
end Go.Proofs.YthocihmhljmgdaaGreatDoor

/-
  Notes: the reference's test, in the abstract machine.
-/
set_option linter.unusedSimpArgs false
set_option linter.unusedVariables false
set_option maxHeartbeats 2000000
set_option maxRecDepth 100000
namespace Go.Proofs.YthocihmhljmgdaaGreatDoor
open Go.RowKit

end Go.Proofs.YthocihmhljmgdaaGreatDoor

/-
  The abstract machine: a region that draws its order and whose operations only add memory (reads, and calls whose answers are plain data): one walk stands for all orders.
-/
namespace Go.Proofs.YthocihmhljmgdaaGreatDoor
open Go.RowKit

/-- the operation answers x and only adds memory -/
def Grow (P : Program) (o : Oper) (s : AS) (x : PV) : Prop := ∀ (X0 : Nat → Prop) (w0 : Base) (m : Mp) (a : Act) (w : World) (Q : Exit → Act → World → Prop) (A : Act → World → Prop), Sim X0 w0 m s a w →
  (∀ v w', Bel w.heap.size w w' → R m.loc (Owned X0 m s.hp) w' x v → A (a.put o.dst v) w') → o.wp P a w A Q
theorem RR.dat {Y : Nat → Prop} {B : Nat} {w : World} {x : D} {v : Value} {g : Nat → Prop} (h : RR Y B w (.d x) v g) : Rd w Y x v := by
  cases h with
  | d _ _ h => exact h
theorem Grow.call {P : Program} {o : Oper} {s : AS} {f : Operand} {args : Array Operand} {argTypes : Array TypeId} {fid : FuncId} {x : D} (ho : o.op = .call { callee := .value f, args := args, argTypes := argTypes }) (hf : s.get f = .fn fid [])
    (hok : FnEq P fid ((args.toList.map s.get).map (ta2 s.hp)) [.d x]) (hr : (args.toList.map s.get).any rf2 = false) : Grow P o s (.d x) := by
  intro X0 w0 m a w Q A hs hA
  obtain ⟨⟨fn, e1, e2, e3⟩, hcall⟩ := hok
  have hfv := hs.get f
  rw [hf] at hfv
  have hfe : a.eval f = .func (.func fid) #[] #[] := by
    generalize a.eval f = v at hfv
    cases hfv with
    | fn _ _ vs hl h => have : vs = #[] := Array.eq_empty_of_size_eq_zero hl; subst this; rfl
  have hrun : (execOp a.eval o).run P w = .ok (.enter fid (args.map a.eval)) w := by
    have e2' : ¬ fn.name = "runtime.NumGoroutine" := by simpa using e2
    have e3' : ¬ fn.body = none := fun h => by rw [h] at e3; cases e3
    simp [execOp, ho, resolve, hfe, Deferred.ofValue, invoke, callFunc, e1]
    rw [if_neg e2', if_neg e3']
  unfold Oper.wp
  rw [hrun]
  simp only [Oper.upon_enter]
  refine (hcall w (Owned X0 m s.hp) _ hs.glob (fun b hb => hs.lt_size hb) (by simp) fun i x v hx hv => ?_).mono ?_
  · rw [List.getElem?_map] at hx
    cases hi : (args.toList.map s.get)[i]? with
    | none => rw [hi] at hx; cases hx
    | some y =>
      rw [hi] at hx
      cases hx
      have hi2 := hi
      rw [List.getElem?_map] at hi2
      rw [Array.getElem?_map] at hv
      cases ha : args[i]? with
      | none => rw [ha] at hv; cases hv
      | some q =>
        have ha' : args.toList[i]? = some q := by simpa using ha
        rw [ha] at hv
        rw [ha'] at hi2
        cases hv
        cases hi2
        exact ta2_R hs (Stay.refl _ _) (fun h => by rw [List.any_eq_false] at hr; exact absurd h (hr _ (List.mem_of_getElem? hi))) (hs.get q)
  · rintro e w' ⟨rs, rfl, vs, gs, h1, h2, h3, h4, h5⟩
    subst h1
    have h0 : 0 < vs.size := by rw [h2]; exact Nat.one_pos
    have e : retV vs = vs[0] := by unfold retV; rw [dif_pos (show vs.size = 1 by rw [h2]; rfl)]
    rw [e]
    have h6 := h5 0 (.d x) vs[0] rfl (by simp [h0])
    exact hA _ w' h3 (.d _ _ (h6.dat.mono fun b _ hb => ⟨rfl, fun h' => hb (.inl h')⟩))
/-- the same slots, or fewer -/
theorem Sim.sub {X0 : Nat → Prop} {w0 : Base} {m : Mp} {s s' : AS} {a : Act} {w : World} (hs : Sim X0 w0 m s a w) (hn : s'.fr.n = s.fr.n) (hh : s'.hp = s.hp) (hx : s'.nx = s.nx) (hl : ∀ i, lk s'.fr.l i = .und ∨ lk s'.fr.l i = lk s.fr.l i) : Sim X0 w0 m s' a w := by
  obtain ⟨fr', hp', nx'⟩ := s'
  simp only at hn hh hx hl
  subst hh hx
  exact ⟨hs.below, hs.x0, hs.size.trans hn.symm, fun i => by
    rcases hl i with e | e
    · simp only [e]; exact .und _
    · simp only [e]; exact hs.fr i, hs.df, hs.hp, hs.dp, hs.al, hs.pin, hs.inj, hs.own, hs.nx, hs.gl⟩
section
variable {P : Program} {G : List (Nat × TI)} {o : Oper} {l : List Oper} {rd : List Nat} {rds : List (List Nat)} {K : AS → Prop} {s : AS}
end
end Go.Proofs.YthocihmhljmgdaaGreatDoor

/-
  Numbers and notes written and read: the reference's functions, in the abstract machine.
-/
set_option linter.unusedSimpArgs false
set_option linter.unusedVariables false
set_option maxHeartbeats 2000000
set_option maxRecDepth 100000
namespace Go.Proofs.YthocihmhljmgdaaGreatDoor
open Go.RowKit

theorem str_dgt {d : Nat} (h : d < 10) : strOfNums [48 + ((d : Nat) : Int)] = ba [dgt d] := by
  unfold strOfNums ba dgt
  have : (48 + (d : Int)).toNat = 48 + d := by omega
  simp [this]
theorem numL_len2 (n : Nat) : (numL n).length ≤ n + 1 := by
  by_cases h : n < 10
  · rw [numL_lt h]; simp
  · rw [numL_ge (by omega), List.length_append]
    have := numL_len2 (n / 10)
    simp; omega
termination_by n
decreasing_by omega
theorem l1Num_ok : ∀ (n : Nat), n ≤ 4611686018427387904 → FnEq Tryz.prog 98 [.d (.int .i64 n)] [.d (.str (ba (numL n)))] := by
  intro n
  induction n using Nat.strongRecOn with
  | ind n ih =>
    intro hn
    refine fn_ok G_ok Tryz.func98 rfl rfl ?_; simp only [Tryz.ntmps98, List.length_cons, List.length_nil, Nat.reduceAdd, Nat.reduceSub, enm]
    by_cases h : n < 10
    · have hw : IntKind.u8.wrap (48 + (n : Int)) = 48 + (n : Int) := by rw [IntKind.wrap_u8]; omega
      have h' : ((n : Int) < 10) = True := eq_true (by omega)
      repeat' (first | ((with_reducible first | (refine hK _ ?_; clear hK K) | refine stq fun K' hK' => ?_ | refine stc ?_); try simp only [go_sem, h', hw]) | (with_reducible first | refine stp ?_ | (refine hK' _ ?_; clear hK' K') | refine kN kl98 fun K hK => ?_ | refine kO fun K hK => ?_) | (with_reducible apply pw_seq_any_to kl98 mixed) | (with_reducible refine pw_any mixed ?_) | ((first | refine any_step G_ok [0, 3] (by decide +kernel) rfl ?_ | refine any_step G_ok [1, 3] (by decide +kernel) rfl ?_ | refine any_step G_ok [2, 3] (by decide +kernel) rfl ?_ | refine any_step G_ok [3] (by decide +kernel) rfl ?_ | refine any_step G_ok [4] (by decide +kernel) rfl ?_ | refine any_step G_ok [5] (by decide +kernel) rfl ?_ | refine any_step G_ok [6] (by decide +kernel) rfl ?_ | refine any_step G_ok [7] (by decide +kernel) rfl ?_ | refine any_step G_ok [8] (by decide +kernel) rfl ?_ | refine any_step G_ok [9] (by decide +kernel) rfl ?_ | refine any_step G_ok [10] (by decide +kernel) rfl ?_ | refine any_step G_ok [2, 4] (by decide +kernel) rfl ?_ | refine any_step G_ok [2, 5] (by decide +kernel) rfl ?_ | refine any_step G_ok [2, 6] (by decide +kernel) rfl ?_ | refine any_step G_ok [2, 7] (by decide +kernel) rfl ?_ | refine any_step G_ok [2, 8] (by decide +kernel) rfl ?_ | refine any_step G_ok [2] (by decide +kernel) rfl ?_ | refine any_step G_ok [1, 4] (by decide +kernel) rfl ?_ | refine any_step G_ok [1, 5] (by decide +kernel) rfl ?_ | refine any_step G_ok [1, 6] (by decide +kernel) rfl ?_ | refine any_step G_ok [1, 7] (by decide +kernel) rfl ?_ | refine any_step G_ok [1, 8] (by decide +kernel) rfl ?_ | refine any_step G_ok [1] (by decide +kernel) rfl ?_ | refine any_step G_ok [0, 4] (by decide +kernel) rfl ?_ | refine any_step G_ok [0, 5] (by decide +kernel) rfl ?_ | refine any_step G_ok [0, 6] (by decide +kernel) rfl ?_ | refine any_step G_ok [0, 7] (by decide +kernel) rfl ?_ | refine any_step G_ok [0, 8] (by decide +kernel) rfl ?_ | refine any_step G_ok [0] (by decide +kernel) rfl ?_); (repeat' with_reducible first | exact True.intro | refine And.intro ?_ ?_) <;> refine ⟨_, rfl, fun K' hK' => ?_⟩ <;> ((first | with_reducible refine s_none rfl ?_ | refine s_some2 rfl ?_); simp only [go_sem, h', hw])) | (refine any_done (by decide +kernel) ?_; try simp only [go_sem, h', hw]) | (with_reducible exact Or.inl rfl) | (exact Or.inr (fits_mk [] (by simp [renL_d, bdL_d, sg, over, wipe, wl, memN, ins, rm, lk, fitFr, fit1, ren, renL, bd, bdL, app, fitHp, hget, renB, bdB] <;> omega))) | (with_reducible refine pK_mk ?_ ?_ <;> (intro hc; (try simp only [go_sem, h', hw]); (try simp at hc); try (exfalso; omega))) | with_reducible refine And.intro (by first | omega | (unfold inI; omega)) ?_)
      all_goals first
        | omega
        | skip
      refine pq_toStr (xs := [48 + (n : Int)]) rfl (G_ok _ _ G22) Tryz.underlying5 (G_ok _ _ G9) rfl ?_
      rw [str_dgt h, ← numL_lt h]
      repeat' (first | ((with_reducible first | (refine hK _ ?_; clear hK K) | refine stq fun K' hK' => ?_ | refine stc ?_); try simp only [go_sem]) | (with_reducible first | refine stp ?_ | (refine hK' _ ?_; clear hK' K') | refine kN kl98 fun K hK => ?_ | refine kO fun K hK => ?_) | (with_reducible apply pw_seq_any_to kl98 mixed) | (with_reducible refine pw_any mixed ?_) | ((first | refine any_step G_ok [0, 3] (by decide +kernel) rfl ?_ | refine any_step G_ok [1, 3] (by decide +kernel) rfl ?_ | refine any_step G_ok [2, 3] (by decide +kernel) rfl ?_ | refine any_step G_ok [3] (by decide +kernel) rfl ?_ | refine any_step G_ok [4] (by decide +kernel) rfl ?_ | refine any_step G_ok [5] (by decide +kernel) rfl ?_ | refine any_step G_ok [6] (by decide +kernel) rfl ?_ | refine any_step G_ok [7] (by decide +kernel) rfl ?_ | refine any_step G_ok [8] (by decide +kernel) rfl ?_ | refine any_step G_ok [9] (by decide +kernel) rfl ?_ | refine any_step G_ok [10] (by decide +kernel) rfl ?_ | refine any_step G_ok [2, 4] (by decide +kernel) rfl ?_ | refine any_step G_ok [2, 5] (by decide +kernel) rfl ?_ | refine any_step G_ok [2, 6] (by decide +kernel) rfl ?_ | refine any_step G_ok [2, 7] (by decide +kernel) rfl ?_ | refine any_step G_ok [2, 8] (by decide +kernel) rfl ?_ | refine any_step G_ok [2] (by decide +kernel) rfl ?_ | refine any_step G_ok [1, 4] (by decide +kernel) rfl ?_ | refine any_step G_ok [1, 5] (by decide +kernel) rfl ?_ | refine any_step G_ok [1, 6] (by decide +kernel) rfl ?_ | refine any_step G_ok [1, 7] (by decide +kernel) rfl ?_ | refine any_step G_ok [1, 8] (by decide +kernel) rfl ?_ | refine any_step G_ok [1] (by decide +kernel) rfl ?_ | refine any_step G_ok [0, 4] (by decide +kernel) rfl ?_ | refine any_step G_ok [0, 5] (by decide +kernel) rfl ?_ | refine any_step G_ok [0, 6] (by decide +kernel) rfl ?_ | refine any_step G_ok [0, 7] (by decide +kernel) rfl ?_ | refine any_step G_ok [0, 8] (by decide +kernel) rfl ?_ | refine any_step G_ok [0] (by decide +kernel) rfl ?_); (repeat' with_reducible first | exact True.intro | refine And.intro ?_ ?_) <;> refine ⟨_, rfl, fun K' hK' => ?_⟩ <;> ((first | with_reducible refine s_none rfl ?_ | refine s_some2 rfl ?_); simp only [go_sem])) | (refine any_done (by decide +kernel) ?_; try simp only [go_sem]) | (with_reducible exact Or.inl rfl) | (exact Or.inr (fits_mk [] (by simp [renL_d, bdL_d, sg, over, wipe, wl, memN, ins, rm, lk, fitFr, fit1, ren, renL, bd, bdL, app, fitHp, hget, renB, bdB] <;> omega))) | (with_reducible refine pK_mk ?_ ?_ <;> (intro hc; (try simp only [go_sem]); (try simp at hc); try (exfalso; omega))) | with_reducible refine And.intro (by first | omega | (unfold inI; omega)) ?_)
      all_goals first
        | omega
        | (refine retQ_ret rfl rfl (by simp [rowsOf, lk]) ?_; rfl)
        | skip
    · have h' : ((n : Int) < 10) = False := eq_false (by omega)
      have hm : (n : Int).tmod 10 = ((n % 10 : Nat) : Int) := by rw [Int.tmod_eq_emod_of_nonneg (by omega)]; omega
      have hq : (n : Int).tdiv 10 = ((n / 10 : Nat) : Int) := by rw [Int.tdiv_eq_ediv_of_nonneg (by omega)]; omega
      have hw : IntKind.u8.wrap (48 + ((n % 10 : Nat) : Int)) = 48 + ((n % 10 : Nat) : Int) := by rw [IntKind.wrap_u8]; omega
      have hr := ih (n / 10) (by omega) (by omega)
      repeat' (first | with_reducible refine stop_seq (id := 3) ?_ | with_reducible refine stop_one (id := 3) ?_ | ((with_reducible first | (refine hK _ ?_; clear hK K) | refine stq fun K' hK' => ?_ | refine stc ?_); try simp only [go_sem, h']) | (with_reducible first | refine stp ?_ | (refine hK' _ ?_; clear hK' K') | refine kN kl98 fun K hK => ?_ | refine kO fun K hK => ?_) | (with_reducible apply pw_seq_any_to kl98 mixed) | (with_reducible refine pw_any mixed ?_) | ((first | refine any_step G_ok [0, 3] (by decide +kernel) rfl ?_ | refine any_step G_ok [1, 3] (by decide +kernel) rfl ?_ | refine any_step G_ok [2, 3] (by decide +kernel) rfl ?_ | refine any_step G_ok [3] (by decide +kernel) rfl ?_ | refine any_step G_ok [4] (by decide +kernel) rfl ?_ | refine any_step G_ok [5] (by decide +kernel) rfl ?_ | refine any_step G_ok [6] (by decide +kernel) rfl ?_ | refine any_step G_ok [7] (by decide +kernel) rfl ?_ | refine any_step G_ok [8] (by decide +kernel) rfl ?_ | refine any_step G_ok [9] (by decide +kernel) rfl ?_ | refine any_step G_ok [10] (by decide +kernel) rfl ?_ | refine any_step G_ok [2, 4] (by decide +kernel) rfl ?_ | refine any_step G_ok [2, 5] (by decide +kernel) rfl ?_ | refine any_step G_ok [2, 6] (by decide +kernel) rfl ?_ | refine any_step G_ok [2, 7] (by decide +kernel) rfl ?_ | refine any_step G_ok [2, 8] (by decide +kernel) rfl ?_ | refine any_step G_ok [2] (by decide +kernel) rfl ?_ | refine any_step G_ok [1, 4] (by decide +kernel) rfl ?_ | refine any_step G_ok [1, 5] (by decide +kernel) rfl ?_ | refine any_step G_ok [1, 6] (by decide +kernel) rfl ?_ | refine any_step G_ok [1, 7] (by decide +kernel) rfl ?_ | refine any_step G_ok [1, 8] (by decide +kernel) rfl ?_ | refine any_step G_ok [1] (by decide +kernel) rfl ?_ | refine any_step G_ok [0, 4] (by decide +kernel) rfl ?_ | refine any_step G_ok [0, 5] (by decide +kernel) rfl ?_ | refine any_step G_ok [0, 6] (by decide +kernel) rfl ?_ | refine any_step G_ok [0, 7] (by decide +kernel) rfl ?_ | refine any_step G_ok [0, 8] (by decide +kernel) rfl ?_ | refine any_step G_ok [0] (by decide +kernel) rfl ?_); (repeat' with_reducible first | exact True.intro | refine And.intro ?_ ?_) <;> refine ⟨_, rfl, fun K' hK' => ?_⟩ <;> ((first | with_reducible refine s_none rfl ?_ | refine s_some2 rfl ?_); simp only [go_sem, h'])) | (refine any_done (by decide +kernel) ?_; try simp only [go_sem, h']) | (with_reducible exact Or.inl rfl) | (exact Or.inr (fits_mk [] (by simp [renL_d, bdL_d, sg, over, wipe, wl, memN, ins, rm, lk, fitFr, fit1, ren, renL, bd, bdL, app, fitHp, hget, renB, bdB] <;> omega))) | (with_reducible refine pK_mk ?_ ?_ <;> (intro hc; (try simp only [go_sem, h']); (try simp at hc); try (exfalso; omega))) | with_reducible refine And.intro (by first | omega | (unfold inI; omega)) ?_)
      unfold Stop
      have hs1 : (ba (numL (n / 10))).size ≤ n / 10 + 1 := by rw [ba_size]; exact numL_len2 _
      have hs2 : (ba [dgt (n % 10)]).size = 1 := rfl
      have hfin : ba (numL (n / 10)) ++ ba [dgt (n % 10)] = ba (numL n) := by rw [ba_app, numL_ge (n := n) (by omega)]
      refine pw_seq_anyN kl98 mixed ?_
      refine anyN_take 0 rfl rfl rfl (by decide +kernel) (by decide +kernel) (by decide +kernel) (pure_move (.inl rfl)) ?_
      try simp only [go_sem, Nat.zero_add, Int.toNat_natCast, Nat.mul_one, hm, hq, hw, hfin]
      refine anyN_take 3 rfl rfl rfl (by decide +kernel) (by decide +kernel) (by decide +kernel) (pure_move (.inl rfl)) ?_
      try simp only [go_sem, Nat.zero_add, Int.toNat_natCast, Nat.mul_one, hm, hq, hw, hfin]
      repeat' (first
        | (with_reducible refine hK' _ ?_; clear hK' K'; try simp only [go_sem, Nat.zero_add, Int.toNat_natCast, Nat.mul_one, hm, hq, hw, hfin])
        | ((with_reducible apply CallK.eq); (focus (with_reducible first | exact hr)); (focus (first | exact rfl | (simp [RV.flat, D.sc, datI]; done))); try simp only [go_sem, Nat.zero_add, Int.toNat_natCast, Nat.mul_one, hm, hq, hw, hfin])
        | with_reducible refine And.intro (by first | omega | (unfold inI; omega)) ?_
        | (refine anyN_take 10 rfl rfl rfl (by decide +kernel) (by decide +kernel) (by decide +kernel) (pure_move (.inr rfl)) ?_; try simp only [go_sem, Nat.zero_add, Int.toNat_natCast, Nat.mul_one, hm, hq, hw, hfin])
        | (refine anyN_step G_ok [1, 4] (by decide +kernel) rfl ⟨⟨_, rfl, fun K' hK' => ?_⟩, ⟨_, rfl, fun K' hK' => ?_⟩, trivial⟩ <;> ((first | with_reducible refine s_none rfl ?_ | refine s_some2 rfl ?_); simp only [go_sem, Nat.zero_add, Int.toNat_natCast, Nat.mul_one, hm, hq, hw, hfin]))
        | (refine anyN_step G_ok [2, 4] (by decide +kernel) rfl ⟨⟨_, rfl, fun K' hK' => ?_⟩, ⟨_, rfl, fun K' hK' => ?_⟩, trivial⟩ <;> ((first | with_reducible refine s_none rfl ?_ | refine s_some2 rfl ?_); simp only [go_sem, Nat.zero_add, Int.toNat_natCast, Nat.mul_one, hm, hq, hw, hfin]))
        | (refine anyN_step G_ok [4] (by decide +kernel) rfl ⟨⟨_, rfl, fun K' hK' => ?_⟩, trivial⟩ <;> ((first | with_reducible refine s_none rfl ?_ | refine s_some2 rfl ?_); simp only [go_sem, Nat.zero_add, Int.toNat_natCast, Nat.mul_one, hm, hq, hw, hfin]))
        | (refine anyN_step G_ok [5] (by decide +kernel) rfl ⟨⟨_, rfl, fun K' hK' => ?_⟩, trivial⟩ <;> ((first | with_reducible refine s_none rfl ?_ | refine s_some2 rfl ?_); simp only [go_sem, Nat.zero_add, Int.toNat_natCast, Nat.mul_one, hm, hq, hw, hfin]))
        | (refine anyN_step G_ok [6] (by decide +kernel) rfl ⟨⟨_, rfl, fun K' hK' => ?_⟩, trivial⟩ <;> ((first | with_reducible refine s_none rfl ?_ | refine s_some2 rfl ?_); simp only [go_sem, Nat.zero_add, Int.toNat_natCast, Nat.mul_one, hm, hq, hw, hfin]))
        | (refine anyN_step G_ok [7] (by decide +kernel) rfl ⟨⟨_, rfl, fun K' hK' => ?_⟩, trivial⟩ <;> ((first | with_reducible refine s_none rfl ?_ | refine s_some2 rfl ?_); simp only [go_sem, Nat.zero_add, Int.toNat_natCast, Nat.mul_one, hm, hq, hw, hfin]))
        | (refine anyN_step G_ok [8] (by decide +kernel) rfl ⟨⟨_, rfl, fun K' hK' => ?_⟩, trivial⟩ <;> ((first | with_reducible refine s_none rfl ?_ | refine s_some2 rfl ?_); simp only [go_sem, Nat.zero_add, Int.toNat_natCast, Nat.mul_one, hm, hq, hw, hfin]))
        | (refine anyN_step G_ok [9] (by decide +kernel) rfl ⟨⟨_, rfl, fun K' hK' => ?_⟩, trivial⟩ <;> ((first | with_reducible refine s_none rfl ?_ | refine s_some2 rfl ?_); simp only [go_sem, Nat.zero_add, Int.toNat_natCast, Nat.mul_one, hm, hq, hw, hfin]))
        | (refine anyN_step G_ok [2, 5] (by decide +kernel) rfl ⟨⟨_, rfl, fun K' hK' => ?_⟩, ⟨_, rfl, fun K' hK' => ?_⟩, trivial⟩ <;> ((first | with_reducible refine s_none rfl ?_ | refine s_some2 rfl ?_); simp only [go_sem, Nat.zero_add, Int.toNat_natCast, Nat.mul_one, hm, hq, hw, hfin]))
        | (refine anyN_step G_ok [2, 6] (by decide +kernel) rfl ⟨⟨_, rfl, fun K' hK' => ?_⟩, ⟨_, rfl, fun K' hK' => ?_⟩, trivial⟩ <;> ((first | with_reducible refine s_none rfl ?_ | refine s_some2 rfl ?_); simp only [go_sem, Nat.zero_add, Int.toNat_natCast, Nat.mul_one, hm, hq, hw, hfin]))
        | (refine anyN_step G_ok [2, 7] (by decide +kernel) rfl ⟨⟨_, rfl, fun K' hK' => ?_⟩, ⟨_, rfl, fun K' hK' => ?_⟩, trivial⟩ <;> ((first | with_reducible refine s_none rfl ?_ | refine s_some2 rfl ?_); simp only [go_sem, Nat.zero_add, Int.toNat_natCast, Nat.mul_one, hm, hq, hw, hfin]))
        | (refine anyN_step G_ok [2, 8] (by decide +kernel) rfl ⟨⟨_, rfl, fun K' hK' => ?_⟩, ⟨_, rfl, fun K' hK' => ?_⟩, trivial⟩ <;> ((first | with_reducible refine s_none rfl ?_ | refine s_some2 rfl ?_); simp only [go_sem, Nat.zero_add, Int.toNat_natCast, Nat.mul_one, hm, hq, hw, hfin]))
        | (refine anyN_step G_ok [2] (by decide +kernel) rfl ⟨⟨_, rfl, fun K' hK' => ?_⟩, trivial⟩ <;> ((first | with_reducible refine s_none rfl ?_ | refine s_some2 rfl ?_); simp only [go_sem, Nat.zero_add, Int.toNat_natCast, Nat.mul_one, hm, hq, hw, hfin]))
        | (refine anyN_step G_ok [1, 5] (by decide +kernel) rfl ⟨⟨_, rfl, fun K' hK' => ?_⟩, ⟨_, rfl, fun K' hK' => ?_⟩, trivial⟩ <;> ((first | with_reducible refine s_none rfl ?_ | refine s_some2 rfl ?_); simp only [go_sem, Nat.zero_add, Int.toNat_natCast, Nat.mul_one, hm, hq, hw, hfin]))
        | (refine anyN_step G_ok [1, 6] (by decide +kernel) rfl ⟨⟨_, rfl, fun K' hK' => ?_⟩, ⟨_, rfl, fun K' hK' => ?_⟩, trivial⟩ <;> ((first | with_reducible refine s_none rfl ?_ | refine s_some2 rfl ?_); simp only [go_sem, Nat.zero_add, Int.toNat_natCast, Nat.mul_one, hm, hq, hw, hfin]))
        | (refine anyN_step G_ok [1, 7] (by decide +kernel) rfl ⟨⟨_, rfl, fun K' hK' => ?_⟩, ⟨_, rfl, fun K' hK' => ?_⟩, trivial⟩ <;> ((first | with_reducible refine s_none rfl ?_ | refine s_some2 rfl ?_); simp only [go_sem, Nat.zero_add, Int.toNat_natCast, Nat.mul_one, hm, hq, hw, hfin]))
        | (refine anyN_step G_ok [1, 8] (by decide +kernel) rfl ⟨⟨_, rfl, fun K' hK' => ?_⟩, ⟨_, rfl, fun K' hK' => ?_⟩, trivial⟩ <;> ((first | with_reducible refine s_none rfl ?_ | refine s_some2 rfl ?_); simp only [go_sem, Nat.zero_add, Int.toNat_natCast, Nat.mul_one, hm, hq, hw, hfin]))
        | (refine anyN_step G_ok [1] (by decide +kernel) rfl ⟨⟨_, rfl, fun K' hK' => ?_⟩, trivial⟩ <;> ((first | with_reducible refine s_none rfl ?_ | refine s_some2 rfl ?_); simp only [go_sem, Nat.zero_add, Int.toNat_natCast, Nat.mul_one, hm, hq, hw, hfin]))
        | (refine anyN_done (by decide +kernel) ?_; try simp only [go_sem, Nat.zero_add, Int.toNat_natCast, Nat.mul_one, hm, hq, hw, hfin])
        | ((refine pq_toStr (xs := [48 + ((n % 10 : Nat) : Int)]) rfl (G_ok _ _ G22) Tryz.underlying5 (G_ok _ _ G9) rfl ?_); (rw [str_dgt (by omega)])))
      all_goals
        repeat' (first | ((with_reducible first | (refine hK _ ?_; clear hK K) | refine stq fun K' hK' => ?_ | refine stc ?_); try simp only [go_sem]) | (with_reducible first | refine stp ?_ | (refine hK' _ ?_; clear hK' K') | refine kN kl98 fun K hK => ?_ | refine kO fun K hK => ?_) | (with_reducible apply pw_seq_any_to kl98 mixed) | (with_reducible refine pw_any mixed ?_) | ((first | refine any_step G_ok [0, 3] (by decide +kernel) rfl ?_ | refine any_step G_ok [1, 3] (by decide +kernel) rfl ?_ | refine any_step G_ok [2, 3] (by decide +kernel) rfl ?_ | refine any_step G_ok [3] (by decide +kernel) rfl ?_ | refine any_step G_ok [4] (by decide +kernel) rfl ?_ | refine any_step G_ok [5] (by decide +kernel) rfl ?_ | refine any_step G_ok [6] (by decide +kernel) rfl ?_ | refine any_step G_ok [7] (by decide +kernel) rfl ?_ | refine any_step G_ok [8] (by decide +kernel) rfl ?_ | refine any_step G_ok [9] (by decide +kernel) rfl ?_ | refine any_step G_ok [10] (by decide +kernel) rfl ?_ | refine any_step G_ok [2, 4] (by decide +kernel) rfl ?_ | refine any_step G_ok [2, 5] (by decide +kernel) rfl ?_ | refine any_step G_ok [2, 6] (by decide +kernel) rfl ?_ | refine any_step G_ok [2, 7] (by decide +kernel) rfl ?_ | refine any_step G_ok [2, 8] (by decide +kernel) rfl ?_ | refine any_step G_ok [2] (by decide +kernel) rfl ?_ | refine any_step G_ok [1, 4] (by decide +kernel) rfl ?_ | refine any_step G_ok [1, 5] (by decide +kernel) rfl ?_ | refine any_step G_ok [1, 6] (by decide +kernel) rfl ?_ | refine any_step G_ok [1, 7] (by decide +kernel) rfl ?_ | refine any_step G_ok [1, 8] (by decide +kernel) rfl ?_ | refine any_step G_ok [1] (by decide +kernel) rfl ?_ | refine any_step G_ok [0, 4] (by decide +kernel) rfl ?_ | refine any_step G_ok [0, 5] (by decide +kernel) rfl ?_ | refine any_step G_ok [0, 6] (by decide +kernel) rfl ?_ | refine any_step G_ok [0, 7] (by decide +kernel) rfl ?_ | refine any_step G_ok [0, 8] (by decide +kernel) rfl ?_ | refine any_step G_ok [0] (by decide +kernel) rfl ?_); (repeat' with_reducible first | exact True.intro | refine And.intro ?_ ?_) <;> refine ⟨_, rfl, fun K' hK' => ?_⟩ <;> ((first | with_reducible refine s_none rfl ?_ | refine s_some2 rfl ?_); simp only [go_sem])) | (refine any_done (by decide +kernel) ?_; try simp only [go_sem]) | (with_reducible exact Or.inl rfl) | (exact Or.inr (fits_mk [] (by simp [renL_d, bdL_d, sg, over, wipe, wl, memN, ins, rm, lk, fitFr, fit1, ren, renL, bd, bdL, app, fitHp, hget, renB, bdB] <;> omega))) | (with_reducible refine pK_mk ?_ ?_ <;> (intro hc; (try simp only [go_sem]); (try simp at hc); try (exfalso; omega))) | with_reducible refine And.intro (by first | omega | (unfold inI; omega)) ?_)
        refine retQ_ret rfl rfl (by simp [rowsOf, lk]) ?_
        rfl
theorem numI_size {z : Int} (h : z ≤ 999) : (ba (numI z)).size ≤ 3 := by rw [ba_size]; exact numL_len (by omega)
end Go.Proofs.YthocihmhljmgdaaGreatDoor

/-
  Numbers written by the library, and put together: strconv.Itoa, strings.Join, numbersText, in the abstract machine.
-/
set_option linter.unusedSimpArgs false
set_option linter.unusedVariables false
set_option maxHeartbeats 2000000
set_option maxRecDepth 100000
namespace Go.Proofs.YthocihmhljmgdaaGreatDoor
open Go.RowKit

theorem numL_dec (n : Nat) : numL n = Lib.decDigits n := by
  by_cases h : n < 10
  · rw [numL_lt h, Lib.decDigits, dif_pos h]; rfl
  · rw [numL_ge (by omega), Lib.decDigits, dif_neg h, numL_dec (n / 10)]; rfl
termination_by n
decreasing_by omega
theorem numI_itoa {n : Int} (h : 0 ≤ n) : (⟨(Lib.itoa n).toArray⟩ : ByteArray) = ba (numI n) := by
  unfold Lib.itoa numI
  rw [if_neg (by omega), numL_dec]
  rfl
theorem itoa_ok (n : Int) (h0 : 0 ≤ n) (h : n ≤ 9223372036854775807) : FnEq Tryz.prog 94 [.d (.int .i64 n)] [.d (.str (ba (numI n)))] := by
  refine ⟨⟨_, Tryz.func94, rfl, rfl⟩, fun w X vals hGL hX hl hr => ?_⟩
  have hl1 : vals.size = 1 := hl
  obtain ⟨v, rfl⟩ : ∃ v, vals = #[v] := by
    obtain ⟨l⟩ := vals
    match l, hl1 with
    | [a], _ => exact ⟨a, rfl⟩
  have h1 := hr 0 _ _ rfl rfl
  obtain rfl : v = .int .i64 n := h1.int
  refine Calls.mono (Any.strconv_Itoa (P := Tryz.prog) Tryz.itoaLays n (by omega) h w hGL.2) fun e w' ⟨he, k, os, hw⟩ => ?_
  subst hw
  rw [numI_itoa h0] at he
  refine ⟨_, rfl, #[.string (ba (numI n))], fun _ _ => False, he, rfl, ⟨Lib.below_grow _ _ (Nat.le_refl _) _ _, trivial⟩, fun _ _ _ h _ => h.elim, fun i r u h3 h4 => ?_⟩
  match i with
  | 0 => simp at h3 h4; subst h3 h4; exact .d _ _ (.str _)
  | i + 1 => simp at h3
theorem xJoin : Builder.Extra Tryz.prog Tryz.joinLays_ren where
  sizeBuilder := by kernel_rfl
  liesBuilder := by kernel_rfl
  t5 := Tryz.underlying5
  a5 := Tryz.isAgg5
  z5 := Tryz.sizeOf5
  v5 := Tryz.zeroValue5
  infoByte := by kernel_rfl
  cellsByte := by kernel_rfl
  sizeByte := by kernel_rfl
  neB5 := by decide
theorem join_ok (c : UInt8) (ws : List ByteArray) (hn : ws.length ≤ 1048576) (hlen : (Lib.join (ws.map bl) [c]).length ≤ 1048576) : FnEq Tryz.prog 95 [.d (.lst 1 (ws.map datS)), .d (.str ⟨#[c]⟩)] [.d (.str (ba (Lib.join (ws.map bl) [c])))] := by
  refine ⟨⟨_, Tryz.func95, rfl, rfl⟩, fun w X vals hGL hX hl hr => ?_⟩
  have hl2 : vals.size = 2 := hl
  obtain ⟨v, v1, rfl⟩ : ∃ v v1, vals = #[v, v1] := by
    obtain ⟨l⟩ := vals
    match l, hl2 with
    | [a, b], _ => exact ⟨a, b, rfl⟩
  have h1 := hr 0 _ _ rfl rfl
  have h3 := hr 1 _ _ rfl rfl
  obtain rfl : v1 = .string ⟨#[c]⟩ := h3.str
  have h2 : Rd w X (.lst 1 (ws.map datS)) v := by cases h1; assumption
  have fin : ∀ e w', e = .returned (.string (ba (Lib.join (ws.map bl) [c]))) ∧ Below w.heap.size w w' → ∃ rs, rs = [RV.d (.str (ba (Lib.join (ws.map bl) [c])))] ∧ Res X w rs e w' := by
    rintro e w' ⟨he, hb⟩
    refine ⟨_, rfl, #[.string (ba (Lib.join (ws.map bl) [c]))], fun _ _ => False, he, rfl, ⟨hb, trivial⟩, fun _ _ _ h _ => h.elim, fun i r u h3 h4 => ?_⟩
    match i with
    | 0 => simp at h3 h4; subst h3 h4; exact .d _ _ (.str _)
    | i + 1 => simp at h3
  by_cases hw0 : ws = []
  · subst hw0
    have hv : ∃ a c', v = .slice a 0 c' := by
      generalize hes : ([] : List ByteArray).map datS = es at h2
      cases h2 with
      | nil => exact ⟨_, _, rfl⟩
      | lst _ _ b off c' => subst hes; exact ⟨_, c', rfl⟩
    obtain ⟨a, c', rfl⟩ := hv
    exact Calls.mono (Any.strings_Join_none (P := Tryz.prog) Tryz.joinLays xJoin a c' ⟨#[c]⟩ w) fun e w' ⟨he, hw⟩ => fin e w' ⟨he, hw ▸ Below.refl _ _⟩
  · generalize hes : ws.map datS = es at h2
    cases h2 with
    | nil => exact absurd (List.map_eq_nil_iff.1 hes) hw0
    | lst _ _ b off c' hcap hsz hc hrr =>
      have hlen' : es.length = ws.length := by rw [← hes]; simp
      have hcell : ∀ (j : Nat) x, ws[j]? = some x → w.cell? ⟨b, off + j, none⟩ = some (.string x) := by
        intro j x hx
        have hg : es[j]? = some [.str x] := by rw [← hes, List.getElem?_map, hx]; rfl
        obtain ⟨_, u, hu⟩ := hc j _ 0 _ hg rfl
        have hu2 := hrr j _ 0 _ u hg rfl hu
        simp only [Nat.mul_one, Nat.add_zero] at hu
        rw [hu]
        cases hu2
        rfl
      rw [hlen'] at hcap ⊢
      have hb : b < w.heap.size := by
        obtain ⟨x, hx⟩ : ∃ x, ws[0]? = some x := by
          cases ws with
          | nil => exact absurd rfl hw0
          | cons x r => exact ⟨x, rfl⟩
        exact cell_lt' (hcell 0 x hx)
      have key := Any.strings_Join (P := Tryz.prog) Tryz.joinLays xJoin b off c' ws ⟨#[c]⟩ w hcell hb (by omega) hcap (by
        have : Lib.join (ws.map (·.data.toList)) [c] = Lib.join (ws.map bl) [c] := rfl
        show (Lib.join (ws.map (·.data.toList)) [c]).length ≤ _
        rw [this]; omega)
      exact Calls.mono key fun e w' ⟨he, hw⟩ => fin e w' ⟨he, hw⟩
theorem join_cc (c : UInt8) (x y : List UInt8) (r : List (List UInt8)) : Lib.join (x :: y :: r) [c] = x ++ c :: Lib.join (y :: r) [c] := by
  unfold Lib.join
  simp [List.intercalate, List.intersperse]
theorem join_len (c : UInt8) : ∀ xs : List (List UInt8), (∀ x ∈ xs, x.length ≤ 3) → (Lib.join xs [c]).length ≤ 4 * xs.length
  | [], _ => by simp [Lib.join_nil]
  | [x], h => by rw [Lib.join_one]; have := h x (by simp); simp; omega
  | x :: y :: r, h => by
    rw [join_cc]
    have h1 := join_len c (y :: r) fun z hz => h z (List.mem_cons_of_mem _ hz)
    have h2 := h x (by simp)
    simp only [List.length_append, List.length_cons] at h1 ⊢
    omega
/-- the words of the first numbers -/
def wsI (l : List Int) (k : Nat) : List ByteArray := (l.take k).map fun x => ba (numI x)
theorem wsI_zero (l : List Int) : wsI l 0 = [] := rfl
theorem wsI_len (l : List Int) (k : Nat) : (wsI l k).length ≤ k := by unfold wsI; rw [List.length_map]; exact List.length_take_le _ _
theorem wsI_succ {l : List Int} {k : Nat} {x : Int} (h : l[k]? = some x) : wsI l (k + 1) = wsI l k ++ [ba (numI x)] := by unfold wsI; rw [take_snoc h, List.map_append]; rfl
theorem wsI_end (l : List Int) : (wsI l l.length).map bl = l.map numI := by
  unfold wsI
  rw [List.take_length, List.map_map]
  rfl
theorem numbersText_ok (l : List Int) (hl : l.length ≤ 1000) (hf : ∀ x ∈ l, 0 ≤ x ∧ x ≤ 999) : FnEq Tryz.prog 41 [.d (.lst 1 (l.map datI))] [.d (.str (ba (Lib.join (l.map numI) [32])))] := by
  refine fn_ok G_ok Tryz.func41 rfl rfl ?_; simp only [Tryz.ntmps41, List.length_cons, List.length_nil, Nat.reduceAdd, Nat.reduceSub, enm]
  repeat' (first | ((with_reducible first | (refine hK _ ?_; clear hK K) | refine stq fun K' hK' => ?_ | refine stc ?_); try simp only [go_sem]) | (with_reducible first | refine stp ?_ | (refine hK' _ ?_; clear hK' K') | refine kN kl41 fun K hK => ?_ | refine kO fun K hK => ?_) | refine iB ?_ | (with_reducible refine pK_mk ?_ ?_ <;> (intro hc; (try simp only [go_sem]); (try simp at hc); try (exfalso; omega))) | with_reducible refine And.intro (by first | omega | (unfold inI; omega)) ?_)
  refine pw_loop_over [2, 3, 5, 9, 10, 11, 12, 13, 14, 15, 16, 17, 18] (fun k : Nat => [(9, .d (.int .i64 (k : Int))), (3, .row 0 (wsI l k).length)]) (fun k : Nat => [(0, .row 9 1 ((wsI l k).map datS))]) 1 (fun k : Nat => k ≤ l.length) (fun k : Nat => l.length - k) 0 (Nat.zero_le _) (fits_mk [] (by simp [renL_d, bdL_d, sg, over, wipe, wl, memN, ins, rm, lk, fitFr, fit1, ren, renL, bd, bdL, app, fitHp, hget, renB, bdB, wsI_zero] <;> omega)) ?_
  intro k hk
  have hL := wsI_len l k
  simp only [over, wipe, wl, memN, ins, rm, if_true, if_false, Nat.reduceEqDiff, Bool.false_eq_true, reduceCtorEq]
  by_cases hlt : k < l.length
  · have hx := List.getElem?_eq_getElem hlt
    generalize l[k] = x at hx
    obtain ⟨f1, f2⟩ := hf x (List.mem_of_getElem? hx)
    have hi := itoa_ok x f1 (by omega)
    have e := wsI_succ hx
    repeat' (first | ((with_reducible first | (refine hK _ ?_; clear hK K) | refine stq fun K' hK' => ?_ | refine stc ?_); try simp only [go_sem, List.getElem?_map, hx, Option.map_some, datI]) | (with_reducible first | refine stp ?_ | (refine hK' _ ?_; clear hK' K') | refine kN kl41 fun K hK => ?_ | refine kO fun K hK => ?_) | ((with_reducible apply CallK.eq); (· with_reducible first | exact hi); (· simp [RV.flat, D.sc, datI]); try simp only [go_sem, List.getElem?_map, hx, Option.map_some, datI]) | refine iB ?_ | (with_reducible refine pK_mk ?_ ?_ <;> (intro hc; (try simp only [go_sem, List.getElem?_map, hx, Option.map_some, datI]); (try simp at hc); try (exfalso; omega))) | with_reducible refine And.intro (by first | omega | (unfold inI; omega)) ?_)
    all_goals first
      | (exfalso; omega)
      | exact ⟨k + 1, by omega, by omega, (fits_mk [] (by simp [renL_d, bdL_d, sg, over, wipe, wl, memN, ins, rm, lk, fitFr, fit1, ren, renL, bd, bdL, app, fitHp, hget, renB, bdB, e, datS] <;> omega))⟩
      | skip
  · obtain rfl : k = l.length := by omega
    have hj := join_ok 32 (wsI l l.length) (by omega) (by
      rw [wsI_end]
      have := join_len 32 (l.map numI) fun x hx => by
        obtain ⟨n, hn, rfl⟩ := List.mem_map.1 hx
        have := hf n hn
        exact numL_len (by omega)
      rw [List.length_map] at this
      omega)
    rw [wsI_end] at hj
    repeat' (first | ((with_reducible first | (refine hK _ ?_; clear hK K) | refine stq fun K' hK' => ?_ | refine stc ?_); try simp only [go_sem]) | (with_reducible first | refine stp ?_ | (refine hK' _ ?_; clear hK' K') | refine kN kl41 fun K hK => ?_ | refine kO fun K hK => ?_) | ((with_reducible apply CallK.eq); (· with_reducible first | exact hj); (· simp [RV.flat, D.sc, datI]); try simp only [go_sem]) | refine iB ?_ | (with_reducible refine pK_mk ?_ ?_ <;> (intro hc; (try simp only [go_sem]); (try simp at hc); try (exfalso; omega))) | with_reducible refine And.intro (by first | omega | (unfold inI; omega)) ?_)
    all_goals first
      | (refine retQ_ret rfl rfl (by simp [rowsOf, lk]) ?_; rfl)
      | skip
end Go.Proofs.YthocihmhljmgdaaGreatDoor
