/-
  The abstract machine: bytes made a string. No program is named here.
-/
import Derived.Test.YtjgpbbdapjjmiaaDoorM11
import Derived.Laws.BytesArg
set_option linter.unusedSimpArgs false
set_option linter.unusedVariables false
set_option maxHeartbeats 2000000
set_option maxRecDepth 100000
namespace Go.Proofs.YtjgpbbdapjjmiaaDoor
open Go.RowKit

theorem SrcOK.bytes {w : World} {X : Nat → Prop} {xs : List Int} {v : Value} (h : SrcOK w X 1 (xs.map fun n : Int => [D.int .u8 n]) v) : (∃ A c, xs = [] ∧ v = .slice A 0 c) ∨ ∃ b off c, v = .slice (some ⟨b, off, none⟩) xs.length c ∧ ∀ i, i < xs.length → w.cell? ⟨b, off + i, none⟩ = some (.int .u8 (xs.getD i 0)) := by
  obtain ⟨_, ⟨h1, A, c, h2⟩ | ⟨b, off, c, h1, _, h2⟩⟩ := h
  · exact .inl ⟨A, c, by simpa using h1, h2⟩
  · refine .inr ⟨b, off, c, by rw [h1, List.length_map], fun i hi => ?_⟩
    have hx := List.getElem?_eq_getElem hi
    obtain ⟨u, h3, h4⟩ := h2 i [.int .u8 xs[i]] 0 (.int .u8 xs[i]) (by rw [List.getElem?_map, hx]; rfl) rfl
    cases h4
    rw [List.getD_eq_getElem?_getD, hx]
    simpa using h3
section
variable {P : Program} {o : Oper} {s : AS} {KP : PV → Prop}
theorem pq_toStr {src dst e : TypeId} {x : Operand} {bytes : Nat} {z : List D} {xs : List Int} (ho : o.op = .convert src dst x) (hs : tiB P src (.slc e 1 bytes z) = true) (he : P.underlying e = some (.int .u8)) (hd : tiB P dst .str = true) (hx : srcL s.hp (s.get x) = some (1, xs.map fun n : Int => [D.int .u8 n])) (hK : KP (.d (.str (strOfNums xs)))) : PQ P o s KP := by
  refine ⟨_, fun X0 w0 m a wb hsim => ?_, hK⟩
  have hu := (tiB_slc hs).1
  have hud := (tiB_str hd).1
  refine ⟨.string (strOfNums xs), fun w' hb => ?_, fun w' hb => .d _ _ (.str _)⟩
  have hrun : (execOp a.eval o).run P w' = .ok (.value (.string (strOfNums xs))) w' := by
    rcases (hsim.src hx (hsim.get x)).bytes with ⟨A, c, h1, h2⟩ | ⟨b, off, c, h1, h2⟩
    · subst h1
      cases A with
      | none => simp [execOp, ho, h2, run_convert_bytes_nil w' src e hu he 0 c dst hud]; rfl
      | some A0 =>
        have hl : (loadCells A0 0).run P w' = .ok (([] : List Int).map (Value.int .u8)).toArray w' := by simpa using run_loadCells_list (P := P) w' A0 [] (fun j v hj => by simp at hj)
        simp [execOp, ho, h2, run_convert_bytes_string w' src dst e _ 0 c hu he hud, run_bytesToString w' A0 0 c [] hl]; rfl
    · simp [execOp, ho, h1, run_convert_bytes_arg w' src e hu he b off xs.length c xs rfl (fun i hi => (hb.cell (p := ⟨b, off + i, none⟩) (cell_lt' (h2 i hi))).trans (h2 i hi)) dst hud]
  unfold Oper.quietAt
  rw [hrun]
  exact ⟨rfl, rfl⟩
end
section
variable {P : Program} {o : Oper} {s : AS} {KP : PV → Prop}
theorem alC_at {es : List (List D)} {k off sz' : Nat} {es' : List (List D)} (hal : alC es k off = some (sz', es')) : ∃ e, es[k]? = some e ∧ e[off]? = some (.lst sz' es') := by
  unfold alC at hal
  split at hal
  · rename_i e he'
    split at hal
    · rename_i he2; cases hal; exact ⟨e, he', he2⟩
    · cases hal
  · cases hal
/-- a list in a cell of a deep row, which has a name, is loaded: memory stays as it is -/
theorem pq_load_al {t : TypeId} {x : Operand} {ti : TI} {id i' sz k off q ty sz' : Nat} {es es' : List (List D)} (ho : o.op = .load t x) (ht : tiB P t ti = true) (hc : ti.cells = none) (hx : s.get x = .rptr id sz k off) (hg : hget s.hp id = some (.deep q ty sz es)) (hal : alC es k off = some (sz', es')) (ha : hget s.hp i' = some (.al id k off)) (hK : KP (.row i' es'.length)) : PQ P o s KP := by
  refine ⟨.row i' es'.length, fun X0 w0 m a w hs => ?_, hK⟩
  have h1 := hs.get x
  rw [hx] at h1
  obtain ⟨b, c, hm, he⟩ := h1.rptr_inv
  have hd := hs.dp id q ty sz es hg
  rw [hm] at hd
  obtain ⟨_, arr, h2, h3, h4, h5, h6, Fp, h7, h8, h9⟩ := hd
  obtain ⟨e, g1, g2⟩ := alC_at hal
  have hkl := (List.getElem?_eq_some_iff.1 g1).1
  have hjl : off < sz := by rw [← h6 e (List.mem_of_getElem? g1)]; exact (List.getElem?_eq_some_iff.1 g2).1
  have hlt : k * sz + off < arr.size := by rw [h3]; exact mul_apart (by omega) hjl
  have hv : arr[k * sz + off]? = some arr[k * sz + off] := by simp [hlt]
  have htr := h9 k e off _ _ g1 g2 hv
  obtain ⟨⟨d, hd1, hd2⟩, _⟩ := ti_one ht hc
  have hcell : w.cell? ⟨b, k * sz + off, none⟩ = some arr[k * sz + off] := by simp [World.cell?, h2, hlt]
  have hala := hs.al i' id k off ha
  have hn0 : m.loc i' = some .nil → arr[k * sz + off] = .slice none 0 0 → es'.length = 0 := fun _ e2 => by
    rw [e2] at htr
    cases htr
    rfl
  have hR : R m.loc (Owned X0 m s.hp) w (.row i' es'.length) arr[k * sz + off] := by
    obtain ⟨q2, ty2, sz2, es2, e2, sz3, es3, b2, c2, arr2, a1, a2, a3, a4, a5, a6⟩ := hala
    rw [hg] at a1
    cases a1
    rw [g1] at a2
    cases a2
    rw [g2] at a3
    cases a3
    rw [hm] at a4
    cases a4
    rw [h2] at a5
    cases a5
    rw [hv] at a6
    rcases a6 with ⟨a6, a7⟩ | ⟨b', c', a6, a7⟩
    · have e7 := Option.some.inj a7
      rw [hn0 a6 e7, e7]
      exact .rowN _ a6
    · have e7 := Option.some.inj a7
      rw [e7] at htr ⊢
      cases htr with
      | lst _ _ _ _ _ arr' ty' Fp' q1 q2 q3 q4 => exact .rowB _ _ _ _ a6 q4
  refine ⟨arr[k * sz + off], fun w' hb => ?_, fun w' hb => hR.mono (fun _ _ h => h) fun b hb1 hb2 => ⟨hb.block b hb1, hb2⟩⟩
  have hcell' : w'.cell? ⟨b, k * sz + off, none⟩ = some arr[k * sz + off] := (hb.cell (p := ⟨b, k * sz + off, none⟩) (cell_lt' hcell)).trans hcell
  have hrun : (execOp a.eval o).run P w' = .ok (.value arr[k * sz + off]) w' := by
    simp [execOp, ho, he, Instr.loadAt, Instr.sureAddr, loadVar, run_isAgg hd1, hd2, run_load, hcell']
  unfold Oper.quietAt
  rw [hrun]
  exact ⟨rfl, rfl⟩
/-- a list in a cell of a deep row gets a name ahead of what reads it -/
theorem pw_alias {c : Code} {Q : Exit → AS → Prop} {id k off q ty sz sz' : Nat} {es es' : List (List D)} (hg : hget s.hp id = some (.deep q ty sz es)) (hal : alC es k off = some (sz', es')) (h : PW P c Q ⟨s.fr, (s.nx, .al id k off) :: s.hp, s.nx + 1⟩) : PW P c Q s := by
  intro X0 w0 m a w hs
  have hd := hs.dp id q ty sz es hg
  obtain ⟨e, g1, g2⟩ := alC_at hal
  cases hm : m.loc id with
  | none => rw [hm] at hd; exact hd.elim
  | some l0 =>
    rw [hm] at hd
    cases l0 with
    | nil => rw [hd.1] at g1; simp at g1
    | blk b c0 =>
      obtain ⟨_, arr, h2, h3, h4, h5, h6, Fp, h7, h8, h9⟩ := hd
      have hkl := (List.getElem?_eq_some_iff.1 g1).1
      have hjl : off < sz := by rw [← h6 e (List.mem_of_getElem? g1)]; exact (List.getElem?_eq_some_iff.1 g2).1
      have hlt : k * sz + off < arr.size := by rw [h3]; exact mul_apart (by omega) hjl
      have hv : arr[k * sz + off]? = some arr[k * sz + off] := by simp [hlt]
      have htr := h9 k e off _ _ g1 g2 hv
      have hne : id ≠ s.nx := fun e => by subst e; rw [hs.hget_nx] at hg; cases hg
      have hpar : hget ((s.nx, .al id k off) :: s.hp) id = some (.deep q ty sz es) := by rw [hget, if_neg hne]; exact hg
      generalize hvv : arr[k * sz + off] = v at hv htr
      have key : ∀ l : Loc, ((l = .nil ∧ v = .slice none 0 0) ∨ ∃ b' c', l = .blk b' c' ∧ v = .slice (some ⟨b', 0, none⟩) es'.length c') → Sim X0 w0 (upd m s.nx l) ⟨s.fr, (s.nx, .al id k off) :: s.hp, s.nx + 1⟩ a w := by
        intro l hl
        refine hs.alias_new ⟨q, ty, sz, es, e, sz', es', b, c0, arr, hpar, g1, g2, by rw [upd_ne m l hne]; exact hm, h2, ?_⟩
        rw [hv]
        rcases hl with ⟨rfl, rfl⟩ | ⟨b', c', rfl, rfl⟩
        · exact .inl ⟨upd_same _ _ _, rfl⟩
        · exact .inr ⟨b', c', upd_same _ _ _, rfl⟩
      cases htr with
      | nil => exact h X0 w0 _ a w (key .nil (.inl ⟨rfl, rfl⟩))
      | lst _ _ _ b' c' arr' ty' Fp' q1 q2 q3 q4 => exact h X0 w0 _ a w (key (.blk b' c') (.inr ⟨b', c', rfl, rfl⟩))
end
/-- a number's digits; none of 0 -/
def digB (n : Nat) : ByteArray := if n = 0 then ByteArray.empty else digB (n / 10) ++ strOfNums [48 + ((n % 10 : Nat) : Int)]
decreasing_by omega
theorem digB_zero : digB 0 = ByteArray.empty := by rw [digB, if_pos rfl]
theorem digB_pos {n : Nat} (h : 0 < n) : digB n = digB (n / 10) ++ strOfNums [48 + ((n % 10 : Nat) : Int)] := by rw [digB, if_neg (by omega)]
end Go.Proofs.YtjgpbbdapjjmiaaDoor
