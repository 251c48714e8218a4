/-
  The abstract machine: operations on memory. No program is named here.
-/
import Derived.Test.YtldcnlhfanbdfaaM2
namespace Go.Proofs.Ytldcnlhfanbdfaa
open Go.RowKit

def TI.cells : TI → Option Nat
  | .st n _ _ => some n
  | .arr l s _ => some (l * s)
  | _ => none
theorem ti_one {P : Program} {t : TypeId} {ti : TI} (h : tiB P t ti = true) (hc : ti.cells = none) : (∃ d, P.underlying t = some d ∧ isAggD d = false) ∧ ∃ i, P.info? t = some i ∧ i.size = 1 := by
  cases ti with
  | one z => obtain ⟨h1, i, h2, h3, _⟩ := tiB_one h; exact ⟨h1, i, h2, h3⟩
  | bol => exact ⟨⟨_, (tiB_bol h).1, rfl⟩, (tiB_bol h).2⟩
  | num k => obtain ⟨h1, i, v, h2, h3, _⟩ := tiB_num h; exact ⟨⟨_, h1, rfl⟩, i, h2, h3⟩
  | str => exact ⟨⟨_, (tiB_str h).1, rfl⟩, (tiB_str h).2⟩
  | slc e sz b z => have := tiB_slc h; exact ⟨⟨_, this.1, rfl⟩, this.2.2.2.2.2⟩
  | st n fs z => cases hc
  | arr l s z => cases hc
theorem ti_agg {P : Program} {t : TypeId} {ti : TI} {n : Nat} (h : tiB P t ti = true) (hc : ti.cells = some n) : (∃ d, P.underlying t = some d ∧ isAggD d = true) ∧ ∃ i, P.info? t = some i ∧ i.size = n := by
  cases ti with
  | st n' fs z => cases hc; obtain ⟨⟨f, h1, _⟩, i, v, h2, h3, _⟩ := tiB_st h; exact ⟨⟨_, h1, rfl⟩, i, h2, h3⟩
  | arr l s z => cases hc; obtain ⟨⟨e, i', h1, _⟩, i, v, h2, h3, _⟩ := tiB_arr h; exact ⟨⟨_, h1, rfl⟩, i, h2, h3⟩
  | _ => cases hc
/-- how many cells a type has -/
def TI.size (ti : TI) : Nat := ti.cells.getD 1
theorem ti_size {P : Program} {t : TypeId} {ti : TI} (h : tiB P t ti = true) : ∃ i, P.info? t = some i ∧ i.size = ti.size := by
  unfold TI.size
  cases hc : ti.cells with
  | none => exact (ti_one h hc).2
  | some n => exact (ti_agg h hc).2

theorem run_isAgg {P : Program} {t : TypeId} {d : TypeDesc} (h : P.underlying t = some d) (w : World) : (isAgg t).run P w = .ok (isAggD d) w := by
  simp only [isAgg, Sem.run_bind, run_underlying h, Result.andThen_ok]
  cases d <;> rfl
theorem run_size {P : Program} {t : TypeId} {i : TypeInfo} (h : P.info? t = some i) (w : World) : (sizeOf t).run P w = .ok i.size w := by
  simp [sizeOf, typeInfo, h]

def onePV : PV → Bool
  | .agg _ | .tup _ | .und => false
  | _ => true
def cellsPV : PV → List PV
  | .agg xs => xs
  | x => [x]
section
variable {m : Nat → Option Loc} {X : Nat → Prop} {w : World}
theorem R.one {x : PV} {v : Value} (h : R m X w x v) (h1 : onePV x = true) : v.oneCell' = true ∧ v.cells = #[v] := by
  cases h with
  | d x v h => exact ⟨h.one, h.cells⟩
  | agg => cases h1
  | tup => cases h1
  | und => cases h1
  | _ => exact ⟨rfl, rfl⟩
theorem R.cellsOf {x : PV} {v : Value} (h : R m X w x v) (h1 : ∀ y ∈ cellsPV x, onePV y = true) : v.cells.size = (cellsPV x).length ∧ ∀ (j : Nat) (y : PV) (u : Value), (cellsPV x)[j]? = some y → v.cells[j]? = some u → R m X w y u ∧ u.oneCell' = true := by
  cases h with
  | agg xs vs hl h => exact ⟨hl, fun j y u hy hu => ⟨h j y u hy hu, ((h j y u hy hu).one (h1 y (List.mem_of_getElem? hy))).1⟩⟩
  | tup xs vs => exact absurd (h1 (.tup xs) (by simp [cellsPV])) (by simp [onePV])
  | und => exact absurd (h1 .und (by simp [cellsPV])) (by simp [onePV])
  | d y v h =>
    have hr : R m X w (.d y) v := .d y v h
    have h2 := hr.one rfl
    refine ⟨by rw [h2.2]; rfl, fun j z u hz hu => ?_⟩
    rw [h2.2] at hu
    cases j with
    | zero => simp [cellsPV] at hz hu; subst hz hu; exact ⟨hr, h2.1⟩
    | succ j => simp [cellsPV] at hz
  | _ =>
    refine ⟨rfl, fun j z u hz hu => ?_⟩
    cases j with
    | zero =>
      simp [cellsPV] at hz
      simp [Value.cells] at hu
      subst hz hu
      refine ⟨?_, rfl⟩
      first | exact .rowN _ ‹_› | exact .rowB _ _ _ _ ‹_› ‹_› | exact .view0 _ _ _ _ _ | exact .viewB _ _ _ _ _ _ _ ‹_› ‹_› | exact .bptr _ _ _ _ ‹_› | exact .rptr _ _ _ _ _ _ ‹_› | exact .eptr _ _ _ ‹_› | exact .fn _ _ _ ‹_› ‹_›
    | succ j => simp [cellsPV] at hz
end

theorem mul_apart {k k' sz j : Nat} (h : k' < k) (hj : j < sz) : k' * sz + j < k * sz := by
  have : (k' + 1) * sz ≤ k * sz := Nat.mul_le_mul_right _ h
  rw [Nat.succ_mul] at this
  omega
/-- what a name of a part stands for -/
def alC (es : List (List D)) (k j : Nat) : Option (Nat × List (List D)) := match es[k]? with
  | some e => (match e[j]? with
    | some (.lst sz es') => some (sz, es')
    | _ => none)
  | none => none
/-- the content of a row, whatever kind it is of -/
def cont (hp : List (Nat × Blk)) (id : Nat) : Option (Nat × List (List D)) := match hget hp id with
  | some (.row _ sz es) => some (sz, es)
  | some (.deep _ _ sz es) => some (sz, es)
  | some (.al par k j) => (match hget hp par with
    | some (.deep _ _ _ es) => alC es k j
    | _ => none)
  | _ => none
/-- the cells of block b, in chunks of sz, read as es -/
def CellsRd (w : World) (b c sz : Nat) (es : List (List D)) : Prop := ∃ arr ty, w.heap[b]? = some (.cells arr ty (0, 0)) ∧ arr.size = c * sz ∧ es.length ≤ c ∧ (∀ e, e ∈ es → e.length = sz) ∧
  ∀ (k : Nat) (e : List D) (j : Nat) (d : D) (u : Value), es[k]? = some e → e[j]? = some d → arr[k * sz + j]? = some u → Rd w (fun _ => False) d u
theorem CellsRd.get {w : World} {b c sz : Nat} {es : List (List D)} (h : CellsRd w b c sz es) {k j : Nat} {e : List D} {d : D} (he : es[k]? = some e) (hd : e[j]? = some d) : ∃ u, w.cell? ⟨b, k * sz + j, none⟩ = some u ∧ Rd w (fun _ => False) d u := by
  obtain ⟨arr, ty, h1, h2, h3, h4, h5⟩ := h
  have hk := (List.getElem?_eq_some_iff.1 he).1
  have hj : j < sz := by rw [← h4 e (List.mem_of_getElem? he)]; exact (List.getElem?_eq_some_iff.1 hd).1
  have hlt : k * sz + j < arr.size := by rw [h2]; exact mul_apart (by omega) hj
  exact ⟨arr[k * sz + j], by simp [World.cell?, h1, hlt], h5 k e j d _ he hd (by simp [hlt])⟩
theorem Rd.any {w : World} {X : Nat → Prop} {d : D} {v : Value} (h : Rd w X d v) : Rd w (fun _ => False) d v := h.mono fun _ _ _ => ⟨rfl, fun h => h⟩
theorem Tr.any {w : World} {F : Nat → Prop} {d : D} {v : Value} (h : Tr w F d v) : Rd w (fun _ => False) d v := h.rd fun _ _ h => h
theorem DpOk.cells {w : World} {F : Nat → Prop} {ty : TypeId} {sz b c : Nat} {es : List (List D)} (h : DpOk w F ty sz es (some (.blk b c))) : CellsRd w b c sz es := by
  obtain ⟨_, arr, h2, h3, h4, h5, h6, Fp, h7, h8, h9⟩ := h
  exact ⟨arr, ty, h2, h3, h4, h6, fun k e j d u he hd hu => (h9 k e j d u he hd hu).any⟩
section
variable {X0 : Nat → Prop} {w0 : Base} {m : Mp} {s : AS} {a : Act} {w : World}
/-- what stands behind a name of a part -/
theorem Sim.alias (h : Sim X0 w0 m s a w) {id par k j q : Nat} {ty : TypeId} {sz sz' : Nat} {es es' : List (List D)} (hg : hget s.hp id = some (.al par k j)) (hp : hget s.hp par = some (.deep q ty sz es)) (hc : alC es k j = some (sz', es')) :
    ∃ e b c arr Fp v, es[k]? = some e ∧ e[j]? = some (.lst sz' es') ∧ m.loc par = some (.blk b c) ∧ w.heap[b]? = some (.cells arr ty (0, 0)) ∧ arr[k * sz + j]? = some v ∧ (∀ x, Fp x → m.ft par x) ∧ Tr w Fp (.lst sz' es') v ∧
      ((m.loc id = some .nil ∧ v = .slice none 0 0) ∨ ∃ b' c', m.loc id = some (.blk b' c') ∧ v = .slice (some ⟨b', 0, none⟩) es'.length c') := by
  obtain ⟨q2, ty2, sz2, es2, e, sz3, es3, b, c, arr, a1, a2, a3, a4, a5, a6⟩ := h.al id par k j hg
  rw [hp] at a1
  cases a1
  have hc' : alC es k j = some (sz3, es3) := by unfold alC; rw [a2]; simp only [a3]
  rw [hc] at hc'
  cases hc'
  have hd := h.dp par q ty sz es hp
  rw [a4] at hd
  obtain ⟨_, arr2, h2, h3, h4, h5, h6, Fp, h7, h8, h9⟩ := hd
  rw [a5] at h2
  cases h2
  rcases a6 with ⟨a7, a8⟩ | ⟨b', c', a7, a8⟩
  · exact ⟨e, b, c, arr, Fp k j, _, a2, a3, a4, a5, a8, h7 k j, h9 k e j _ _ a2 a3 a8, .inl ⟨a7, rfl⟩⟩
  · exact ⟨e, b, c, arr, Fp k j, _, a2, a3, a4, a5, a8, h7 k j, h9 k e j _ _ a2 a3 a8, .inr ⟨b', c', a7, rfl⟩⟩
theorem Tr.cells {F : Nat → Prop} {sz b c n : Nat} {es : List (List D)} (h : Tr w F (.lst sz es) (.slice (some ⟨b, 0, none⟩) n c)) : n = es.length ∧ F b ∧ CellsRd w b c sz es := by
  cases h with
  | lst _ sz es b c arr ty Fp h1 hh ha hn hm hz hsub hdis hc => exact ⟨rfl, h1, arr, ty, hh, ha, hn, hz, fun k e j d u he hd hu => (hc k e j d u he hd hu).any⟩
theorem Tr.nil_inv {F : Nat → Prop} {sz n c : Nat} {es : List (List D)} (h : Tr w F (.lst sz es) (.slice none n c)) : es = [] := by
  cases h; rfl
/-- the content of a row lies where the row lies -/
theorem Sim.cont (h : Sim X0 w0 m s a w) {id sz : Nat} {es : List (List D)} (hc : cont s.hp id = some (sz, es)) : (m.loc id = some .nil ∧ es = []) ∨ ∃ b c, m.loc id = some (.blk b c) ∧ CellsRd w b c sz es := by
  unfold Go.Proofs.Ytldcnlhfanbdfaa.cont at hc
  split at hc
  · rename_i ty sz1 es1 hg
    cases hc
    obtain ⟨l, h1, h2⟩ := h.hp id _ hg
    cases l with
    | nil => exact .inl ⟨h1, h2⟩
    | blk b c =>
      obtain ⟨arr, h3, h4, h5, h6, h7, h8⟩ := h2
      exact .inr ⟨b, c, h1, arr, ty, h3, h4, h5, h7, fun k e j d u he hd hu => (h8 k e j d u he hd hu).any⟩
  · rename_i q ty sz1 es1 hg
    cases hc
    have hd := h.dp id q ty sz es hg
    cases hl : m.loc id with
    | none => rw [hl] at hd; exact hd.elim
    | some l =>
      rw [hl] at hd
      cases l with
      | nil => exact .inl ⟨rfl, hd.1⟩
      | blk b c => exact .inr ⟨b, c, rfl, hd.cells⟩
  · rename_i par k j hg
    split at hc
    · rename_i q ty sz1 es1 hp
      obtain ⟨e, b, c, arr, Fp, v, h1, h2, h3, h4, h5, h6, h7, h8⟩ := h.alias hg hp hc
      rcases h8 with ⟨h9, rfl⟩ | ⟨b', c', h9, rfl⟩
      · exact .inl ⟨h9, h7.nil_inv⟩
      · exact .inr ⟨b', c', h9, h7.cells.2.2⟩
    · cases hc
  · cases hc
end
/-- data of a deep row, seen cell by cell: lists are not seen -/
def scP : D → PV
  | .lst _ _ => .und
  | .int k n => .d (.int k n)
  | .bool b => .d (.bool b)
  | .str s => .d (.str s)
theorem scP_R {m : Nat → Option Loc} {X X' : Nat → Prop} {w : World} {d : D} {v : Value} (h : Rd w X' d v) : R m X w (scP d) v := by
  cases h with
  | int k n => exact .d _ _ (.int k n)
  | bool b => exact .d _ _ (.bool b)
  | str s => exact .d _ _ (.str s)
  | nil => exact .und _
  | lst => exact .und _
/-- the cells that lie behind a pointer -/
def rdCells (s : AS) : PV → Option (List PV)
  | .eptr cs => some (cs.map .d)
  | .bptr id off => match hget s.hp id with
    | some (.box _ cs) => some (cs.drop off)
    | some (.pbox _ _ cs) => some (cs.drop off)
    | _ => none
  | .rptr id sz k off => match hget s.hp id with
    | some (.row _ sz' es) => if sz' = sz then (match es[k]? with | some e => some ((e.drop off).map .d) | none => none) else none
    | some (.deep _ _ sz' es) => if sz' = sz then (match es[k]? with | some e => some ((e.drop off).map scP) | none => none) else none
    | some (.al par i j) => (match hget s.hp par with
      | some (.deep _ _ _ es) => (match alC es i j with
        | some (sz', es') => if sz' = sz then (match es'[k]? with | some e => some ((e.drop off).map scP) | none => none) else none
        | none => none)
      | _ => none)
    | _ => none
  | _ => none

section
variable {X0 : Nat → Prop} {w0 : Base} {m : Mp} {s : AS} {a : Act} {w : World}
theorem CellsRd.scs {b c sz k off : Nat} {es : List (List D)} {e : List D} (h : CellsRd w b c sz es) (he : es[k]? = some e) {mm : Nat → Option Loc} {X : Nat → Prop} : ∀ (j : Nat) (y : PV), ((e.drop off).map scP)[j]? = some y → ∃ u, w.cell? ⟨b, k * sz + off + j, none⟩ = some u ∧ R mm X w y u ∧ u.oneCell' = true := by
  intro j y hy
  rw [List.getElem?_map, List.getElem?_drop] at hy
  cases hj : e[off + j]? with
  | none => rw [hj] at hy; cases hy
  | some d =>
    rw [hj] at hy
    cases hy
    obtain ⟨u, h1, h2⟩ := h.get he hj
    exact ⟨u, by rw [Nat.add_assoc]; exact h1, scP_R h2, h2.one⟩
theorem Sim.cells (h : Sim X0 w0 m s a w) {x : PV} {cs : List PV} (hx : rdCells s x = some cs) {v : Value} (hv : R m.loc (Owned X0 m s.hp) w x v) :
    ∃ b off, v = .pointer (some ⟨b, off, none⟩) ∧ ∀ (j : Nat) (y : PV), cs[j]? = some y → ∃ u, w.cell? ⟨b, off + j, none⟩ = some u ∧ R m.loc (Owned X0 m s.hp) w y u ∧ u.oneCell' = true := by
  cases hv with
  | eptr ds b off hd =>
    cases hx
    refine ⟨b, off, rfl, fun j y hy => ?_⟩
    rw [List.getElem?_map] at hy
    cases hj : ds[j]? with
    | none => rw [hj] at hy; cases hy
    | some d =>
      rw [hj] at hy
      cases hy
      obtain ⟨_, u, h2, h3⟩ := hd j d hj
      exact ⟨u, h2, .d _ _ h3, h3.one⟩
  | bptr id off b c hm =>
    simp only [rdCells] at hx
    split at hx
    · rename_i ty cs' hg
      cases hx
      obtain ⟨arr, h3, h4, h5⟩ := h.blk hg hm
      refine ⟨b, off, rfl, fun j y hy => ?_⟩
      rw [List.getElem?_drop] at hy
      have hlt : off + j < arr.size := by rw [h4]; exact (List.getElem?_eq_some_iff.1 hy).1
      exact ⟨arr[off + j], by simp [World.cell?, h3, hlt], h5 _ _ _ hy (by simp [hlt])⟩
    · rename_i q ty cs' hg
      cases hx
      obtain ⟨arr, h3, h4, h5⟩ := h.blk hg hm
      refine ⟨b, off, rfl, fun j y hy => ?_⟩
      rw [List.getElem?_drop] at hy
      have hlt : off + j < arr.size := by rw [h4]; exact (List.getElem?_eq_some_iff.1 hy).1
      exact ⟨arr[off + j], by simp [World.cell?, h3, hlt], h5 _ _ _ hy (by simp [hlt])⟩
    · cases hx
  | rptr id sz k off b c hm =>
    have hcont : ∀ es, Go.Proofs.Ytldcnlhfanbdfaa.cont s.hp id = some (sz, es) → CellsRd w b c sz es := by
      intro es hc
      rcases h.cont hc with ⟨h1, _⟩ | ⟨b', c', h1, h2⟩
      · rw [hm] at h1; cases h1
      · rw [hm] at h1; cases h1; exact h2
    simp only [rdCells] at hx
    split at hx
    · rename_i ty sz' es hg
      split at hx
      · rename_i hsz
        subst hsz
        split at hx
        · rename_i e he
          cases hx
          obtain ⟨arr, h3, h4, h5, h6, h7, h8⟩ := h.blk hg hm
          refine ⟨b, k * sz' + off, rfl, fun j y hy => ?_⟩
          rw [List.getElem?_map, List.getElem?_drop] at hy
          cases hj : e[off + j]? with
          | none => rw [hj] at hy; cases hy
          | some d =>
            rw [hj] at hy
            cases hy
            have hle := h7 e (List.mem_of_getElem? he)
            have hk := (List.getElem?_eq_some_iff.1 he).1
            have hj2 := (List.getElem?_eq_some_iff.1 hj).1
            have hlt : k * sz' + off + j < arr.size := by
              rw [h4]
              have : (k + 1) * sz' ≤ c * sz' := Nat.mul_le_mul_right _ (by omega)
              rw [Nat.succ_mul] at this
              omega
            have h9 := h8 k e (off + j) d arr[k * sz' + off + j] he hj (by rw [← Nat.add_assoc]; simp [hlt])
            exact ⟨arr[k * sz' + off + j], by simp [World.cell?, h3, hlt], .d _ _ h9, h9.one⟩
        · cases hx
      · cases hx
    · rename_i q ty sz' es hg
      split at hx
      · rename_i hsz
        subst hsz
        split at hx
        · rename_i e he
          cases hx
          exact ⟨b, k * sz' + off, rfl, (hcont es (by unfold Go.Proofs.Ytldcnlhfanbdfaa.cont; rw [hg])).scs he⟩
        · cases hx
      · cases hx
    · rename_i par i j hg
      split at hx
      · rename_i q ty sz1 es1 hp
        split at hx
        · rename_i sz' es' hal
          split at hx
          · rename_i hsz
            subst hsz
            split at hx
            · rename_i e he
              cases hx
              exact ⟨b, k * sz' + off, rfl, (hcont es' (by unfold Go.Proofs.Ytldcnlhfanbdfaa.cont; rw [hg]; simp only [hp]; exact hal)).scs he⟩
            · cases hx
          · cases hx
        · cases hx
      · cases hx
    · cases hx
  | _ => cases hx
end

section rules
variable {P : Program} {o : Oper} {s : AS} {K : AS → Prop} {KP : PV → Prop}
theorem pq_load1 {t : TypeId} {x : Operand} {ti : TI} {cs : List PV} {y : PV} (ho : o.op = .load t x) (ht : tiB P t ti = true) (hc : ti.cells = none) (hx : rdCells s (s.get x) = some cs) (hy : cs[0]? = some y) (hK : KP y) : PQ P o s KP := by
  refine ⟨y, fun X0 w0 m a wb hs => ?_, hK⟩
  obtain ⟨b, off, h1, h2⟩ := hs.cells hx (hs.get x)
  obtain ⟨v, h3, h4, _⟩ := h2 0 y hy
  obtain ⟨⟨d, hd, hda⟩, _⟩ := ti_one ht hc
  simp only [Nat.add_zero] at h3
  refine ⟨v, fun w' hb => ?_, fun w' hb => h4.mono (fun _ _ h => h) fun b hb1 hb2 => ⟨hb.block b hb1, hb2⟩⟩
  have h5 : w'.cell? ⟨b, off, none⟩ = some v := (hb.cell (p := ⟨b, off, none⟩) (cell_lt' h3)).trans h3
  have hrun : (execOp a.eval o).run P w' = .ok (.value v) w' := by
    simp [execOp, ho, h1, Instr.loadAt, Instr.sureAddr, loadVar, run_isAgg hd, hda, run_load, h5]
  unfold Oper.quietAt
  rw [hrun]
  exact ⟨rfl, rfl⟩
theorem pq_loadN {t : TypeId} {x : Operand} {ti : TI} {n : Nat} {cs : List PV} (ho : o.op = .load t x) (ht : tiB P t ti = true) (hc : ti.cells = some n) (hx : rdCells s (s.get x) = some cs) (hn : n ≤ cs.length) (hK : KP (.agg (cs.take n))) : PQ P o s KP := by
  refine ⟨_, fun X0 w0 m a w hs => ?_, hK⟩
  obtain ⟨b, off, h1, h2⟩ := hs.cells hx (hs.get x)
  obtain ⟨⟨d, hd, hda⟩, i, hi, hsz⟩ := ti_agg ht hc
  have hcell : ∀ j, j < n → w.cell? ((⟨b, off, none⟩ : Addr).add j) = some ((w.cell? ⟨b, off + j, none⟩).getD undef) := by
    intro j hj
    obtain ⟨u, h3, _⟩ := h2 j cs[j] (List.getElem?_eq_getElem (by omega))
    rw [Addr.add_lit, h3]
    rfl
  refine ⟨.agg ((List.range n).map fun j => (w.cell? ⟨b, off + j, none⟩).getD undef).toArray, fun w' hb => ?_, fun w' hb => ?_⟩
  · have hl := run_loadCells (P := P) w' ⟨b, off, none⟩ n (fun j => (w.cell? ⟨b, off + j, none⟩).getD undef) fun j hj => (hb.cell (p := (⟨b, off, none⟩ : Addr).add j) (cell_lt' (hcell j hj))).trans (hcell j hj)
    have hrun : (execOp a.eval o).run P w' = .ok (.value (.agg ((List.range n).map fun j => (w.cell? ⟨b, off + j, none⟩).getD undef).toArray)) w' := by
      simp [execOp, ho, h1, Instr.loadAt, Instr.sureAddr, loadVar, run_isAgg hd, hda, run_size hi, hsz, hl]
    unfold Oper.quietAt
    rw [hrun]
    exact ⟨rfl, rfl⟩
  · refine R.mono (fun _ _ h => h) (fun b hb1 hb2 => ⟨hb.block b hb1, hb2⟩) (w := w) (X := Owned X0 m s.hp) (.agg _ _ (by simp; omega) fun j y u hy hu => ?_)
    rw [List.getElem?_take] at hy
    split at hy
    · rename_i hj
      obtain ⟨u', h3, h4, _⟩ := h2 j y hy
      simp [hj, h3] at hu
      subst hu
      exact h4
    · cases hy

/-- a variable of the call's own -/
theorem po_box {t : TypeId} {x : Operand} (ho : o.op = .box t x) (h1 : ∀ y ∈ cellsPV (s.get x), onePV y = true) (hK : K (AS.put ⟨s.fr, (s.nx, .box t (cellsPV (s.get x))) :: s.hp, s.nx + 1⟩ o.dst (.bptr s.nx 0))) : PO P o s K :=
  PO.mk fun X0 w0 m a w hs => by
    have h2 := (hs.get x).cellsOf h1
    refine ⟨_, _, _, _, .bptr s.nx 0, ?_, hs.alloc (blk := .box t (cellsPV (s.get x))) (arr := (a.eval x).cells) (c := 1) h2, .bptr _ _ w.heap.size 1 (upd_same _ _ _), hK⟩
    simp [execOp, ho, Instr.box, newVar, newRow, Blk.ty]
/-- a variable of zeros -/
theorem po_alloc {t : TypeId} {z : List D} (ho : o.op = .alloc t) (hz : (∃ i v, P.info? t = some i ∧ i.zero = some v ∧ zB z v = true)) (hK : K (AS.put ⟨s.fr, (s.nx, .box t (z.map .d)) :: s.hp, s.nx + 1⟩ o.dst (.bptr s.nx 0))) : PO P o s K :=
  PO.mk fun X0 w0 m a w hs => by
    obtain ⟨i, v, hi, hv, hb⟩ := hz
    obtain ⟨h1, h2⟩ := zB_rd hb
    refine ⟨_, _, _, _, .bptr s.nx 0, ?_, hs.alloc (blk := .box t (z.map .d)) (arr := v.cells) (c := 1) ⟨by simp [h1], fun j x u hx hu => ?_⟩, .bptr _ _ w.heap.size 1 (upd_same _ _ _), hK⟩
    · simp [execOp, ho, Instr.alloc, zeroValue, typeInfo, hi, hv, newVar, newRow, Blk.ty]
    · rw [List.getElem?_map] at hx
      cases hj : z[j]? with
      | none => rw [hj] at hx; cases hx
      | some d =>
        rw [hj] at hx
        cases hx
        have := h2 j d u hj hu w (Owned X0 m s.hp)
        exact ⟨.d _ _ this, this.one⟩

/-- lists spliced -/
def spl {α : Type} (cs : List α) (off : Nat) (xs : List α) : List α := cs.take off ++ xs ++ cs.drop (off + xs.length)
theorem spl_len {α : Type} {cs xs : List α} {off : Nat} (h : off + xs.length ≤ cs.length) : (spl cs off xs).length = cs.length := by
  simp [spl]; omega
theorem spl_get {α : Type} {cs xs : List α} {off : Nat} (h : off + xs.length ≤ cs.length) (j : Nat) : (spl cs off xs)[j]? = if off ≤ j ∧ j < off + xs.length then xs[j - off]? else cs[j]? := by
  have hl : (cs.take off).length = off := by simp; omega
  unfold spl
  by_cases h1 : j < off
  · rw [if_neg (by omega), List.append_assoc, List.getElem?_append_left (by omega), List.getElem?_take_of_lt h1]
  · by_cases h2 : j < off + xs.length
    · rw [if_pos ⟨by omega, h2⟩, List.getElem?_append_left (by simp; omega), List.getElem?_append_right (by omega), hl]
    · rw [if_neg (by omega), List.getElem?_append_right (by simp; omega), List.getElem?_drop]
      congr 1
      simp
      omega

/-- a store into a block of the call's own -/
theorem store_run {t : TypeId} {b off : Nat} {v : Value} {i : TypeInfo} {w : World} {arr : Array Value} {ty : TypeId} (hi : P.info? t = some i) (hsz : v.cells.size = i.size) (hh : w.heap[b]? = some (.cells arr ty (0, 0))) (hl : off + v.cells.size ≤ arr.size) (h1 : ∀ u ∈ v.cells.toList, u.oneCell' = true) :
    (Instr.storeAt t (.pointer (some ⟨b, off, none⟩)) v).run P w = .ok () (w.setRow b (spl arr.toList off v.cells.toList).toArray) := by
  have hst := run_storeCells_at P b off ty v.cells.toList 0 arr w hh (by simpa using hl) h1
  simp only [Nat.add_zero] at hst
  simp only [Instr.storeAt, Instr.sureAddr, storeVar, Sem.run_bind, Sem.run_pure, Result.andThen_ok, run_size hi, hsz]
  simp only [ne_eq, not_true_eq_false, if_false, hst]
  rfl

/-- a block of the call's own has been written -/
theorem Sim.restore {X0 : Nat → Prop} {w0 : Base} {m : Mp} {a : Act} {w : World} (hs : Sim X0 w0 m s a w) {id b c : Nat} {blk blk' : Blk} {arr arr' : Array Value} (hg : hget s.hp id = some blk) (hm : m.loc id = some (.blk b c)) (hty : blk'.ty = blk.ty) (hh : w.heap[b]? = some (.cells arr blk.ty (0, 0)))
    (hok : ∀ (m' : Nat → Option Loc) (X' : Nat → Prop) (w' : World), (∀ i l, m.loc i = some l → m' i = some l) → Stay w w' (Owned X0 m s.hp) X' → blk'.cellsOk m' X' w' arr' c) (hpl : blk.plain = true := by rfl) (hpl' : blk'.plain = true := by rfl) (hpo : blk'.pinOf = blk.pinOf := by rfl) : Sim X0 w0 (upd m id (.blk b c)) ⟨s.fr, hset s.hp id blk', s.nx⟩ a (w.setRow b arr') := by
  have hb := hs.owns hg hm hpl
  refine hs.change (i := id) (blk' := blk') (l' := .blk b c) (hpin := fun p e => by rw [hpo] at e; rw [← hm]; exact hs.pin id blk p hg e) (fun k => k = b) (.inr hm) (by rw [hget_hset]; simp [hg]) hpl' (fun id' hne blk hb' => by rw [hget_hset, if_neg hne] at hb'; exact hb') (fun id' q ty sz es hd => ?_) (Nat.le_refl _) (hs.lt_nx hm) ?_ (fun k hk hne => setRow_other w b k _ hne) ?_ ?_ ?_
  · have hne : id' ≠ id := fun e => by subst e; rw [hg] at hd; cases hd; cases hpl
    exact ⟨hne, by rw [hget_hset, if_neg hne]⟩
  · exact ⟨rfl, rfl, rfl, by simp [World.setRow], fun k hk hne => setRow_other w b k _ (fun e => by subst e; rcases hb.1 with h | h; omega; exact hne h), Nat.le_refl _⟩
  · rintro k rfl
    exact ⟨id, _, hg, Blk.has_root hpl hm, .inl rfl⟩
  · intro b' c' e
    cases e
    exact ⟨hb.1, by simpa [World.setRow] using hb.2, .inr rfl⟩
  · intro hst
    exact ⟨_, by rw [hty]; exact setRow_heap w b arr _ _ _ hh, hok _ _ _ (upd_mono m _ _ (.inr hm)) hst⟩

theorem po_store_box {t : TypeId} {p x : Operand} {ti : TI} {id off : Nat} {ty : TypeId} {cs : List PV} (ho : o.op = .store t p x) (ht : tiB P t ti = true) (hp : s.get p = .bptr id off) (hg : hget s.hp id = some (.box ty cs))
    (h1 : ∀ y ∈ cellsPV (s.get x), onePV y = true) (hn : (cellsPV (s.get x)).length = ti.size) (hl : off + ti.size ≤ cs.length)
    (hK : K (AS.put ⟨s.fr, hset s.hp id (.box ty (spl cs off (cellsPV (s.get x)))), s.nx⟩ o.dst .und)) : PO P o s K :=
  PO.skip fun X0 w0 m a w hs => by
    have h2 := (hs.get x).cellsOf h1
    have h3 := hs.get p
    rw [hp] at h3
    obtain ⟨b, c, hm, he⟩ := h3.bptr_inv
    obtain ⟨arr, hh, ha, hc⟩ := hs.blk hg hm
    obtain ⟨i, hi, hisz⟩ := ti_size ht
    have hb := hs.owns hg hm
    have hvl : off + (a.eval x).cells.size ≤ arr.size := by rw [h2.1, hn, ha]; exact hl
    have h6 : ∀ u ∈ (a.eval x).cells.toList, u.oneCell' = true := by
      intro u hu
      obtain ⟨j, hj⟩ := List.getElem?_of_mem hu
      have hj' : (a.eval x).cells[j]? = some u := by simpa using hj
      have hlt : j < (cellsPV (s.get x)).length := by rw [← h2.1]; exact (Array.getElem?_eq_some_iff.1 hj').1
      exact (h2.2 j _ u (List.getElem?_eq_getElem hlt) hj').2
    have hrun := store_run (P := P) (t := t) hi (by rw [h2.1, hn, hisz]) hh hvl h6
    refine ⟨w.setRow b (spl arr.toList off (a.eval x).cells.toList).toArray, upd m id (.blk b c), ⟨s.fr, hset s.hp id (.box ty (spl cs off (cellsPV (s.get x)))), s.nx⟩, ?_, ?_, hK⟩
    · simp only [execOp, ho, he, Sem.run_bind, hrun, Result.andThen_ok, Sem.run_pure]
    · refine hs.restore hg hm (blk' := .box ty (spl cs off (cellsPV (s.get x)))) rfl hh fun m' X' w' hmm hst => ?_
      · refine ⟨by rw [List.size_toArray, spl_len (by simpa using hvl), spl_len (by rw [hn]; exact hl)]; simpa using ha, fun j y u hy hu => ?_⟩
        have hu' : (spl arr.toList off (a.eval x).cells.toList)[j]? = some u := by simpa using hu
        rw [spl_get (by simpa using hvl)] at hu'
        rw [spl_get (by rw [hn]; exact hl)] at hy
        have e1 : (a.eval x).cells.toList.length = (cellsPV (s.get x)).length := by simpa using h2.1
        rw [e1] at hu'
        split at hy
        · rename_i hin
          rw [if_pos hin] at hu'
          have := h2.2 (j - off) y u hy (by simpa using hu')
          exact ⟨this.1.mono hmm hst, this.2⟩
        · rename_i hin
          rw [if_neg hin] at hu'
          have := hc j y u hy (by simpa using hu')
          exact ⟨this.1.mono hmm hst, this.2⟩

def dsOf : List PV → Option (List D)
  | [] => some []
  | .d x :: r => match dsOf r with
    | some l => some (x :: l)
    | none => none
  | _ => none
theorem po_store_pbox {t : TypeId} {p x : Operand} {ti : TI} {id off : Nat} {q : Nat} {ty : TypeId} {cs : List PV} (ho : o.op = .store t p x) (ht : tiB P t ti = true) (hp : s.get p = .bptr id off) (hg : hget s.hp id = some (.pbox q ty cs))
    (h1 : ∀ y ∈ cellsPV (s.get x), onePV y = true) (hn : (cellsPV (s.get x)).length = ti.size) (hl : off + ti.size ≤ cs.length)
    (hK : K (AS.put ⟨s.fr, hset s.hp id (.pbox q ty (spl cs off (cellsPV (s.get x)))), s.nx⟩ o.dst .und)) : PO P o s K :=
  PO.skip fun X0 w0 m a w hs => by
    have h2 := (hs.get x).cellsOf h1
    have h3 := hs.get p
    rw [hp] at h3
    obtain ⟨b, c, hm, he⟩ := h3.bptr_inv
    obtain ⟨arr, hh, ha, hc⟩ := hs.blk hg hm
    obtain ⟨i, hi, hisz⟩ := ti_size ht
    have hb := hs.owns hg hm
    have hvl : off + (a.eval x).cells.size ≤ arr.size := by rw [h2.1, hn, ha]; exact hl
    have h6 : ∀ u ∈ (a.eval x).cells.toList, u.oneCell' = true := by
      intro u hu
      obtain ⟨j, hj⟩ := List.getElem?_of_mem hu
      have hj' : (a.eval x).cells[j]? = some u := by simpa using hj
      have hlt : j < (cellsPV (s.get x)).length := by rw [← h2.1]; exact (Array.getElem?_eq_some_iff.1 hj').1
      exact (h2.2 j _ u (List.getElem?_eq_getElem hlt) hj').2
    have hrun := store_run (P := P) (t := t) hi (by rw [h2.1, hn, hisz]) hh hvl h6
    refine ⟨w.setRow b (spl arr.toList off (a.eval x).cells.toList).toArray, upd m id (.blk b c), ⟨s.fr, hset s.hp id (.pbox q ty (spl cs off (cellsPV (s.get x)))), s.nx⟩, ?_, ?_, hK⟩
    · simp only [execOp, ho, he, Sem.run_bind, hrun, Result.andThen_ok, Sem.run_pure]
    · refine hs.restore hg hm (blk' := .pbox q ty (spl cs off (cellsPV (s.get x)))) rfl hh fun m' X' w' hmm hst => ?_
      · refine ⟨by rw [List.size_toArray, spl_len (by simpa using hvl), spl_len (by rw [hn]; exact hl)]; simpa using ha, fun j y u hy hu => ?_⟩
        have hu' : (spl arr.toList off (a.eval x).cells.toList)[j]? = some u := by simpa using hu
        rw [spl_get (by simpa using hvl)] at hu'
        rw [spl_get (by rw [hn]; exact hl)] at hy
        have e1 : (a.eval x).cells.toList.length = (cellsPV (s.get x)).length := by simpa using h2.1
        rw [e1] at hu'
        split at hy
        · rename_i hin
          rw [if_pos hin] at hu'
          have := h2.2 (j - off) y u hy (by simpa using hu')
          exact ⟨this.1.mono hmm hst, this.2⟩
        · rename_i hin
          rw [if_neg hin] at hu'
          have := hc j y u hy (by simpa using hu')
          exact ⟨this.1.mono hmm hst, this.2⟩

theorem dsOf_map : ∀ {xs : List PV} {ds : List D}, dsOf xs = some ds → xs = ds.map .d
  | [], ds, h => by cases h; rfl
  | .d x :: r, ds, h => by
    simp only [dsOf] at h
    split at h
    · rename_i l hl
      cases h
      rw [dsOf_map hl]; rfl
    · cases h
  | .agg _ :: _, _, h | .tup _ :: _, _, h | .row _ _ :: _, _, h | .view _ _ _ _ :: _, _, h | .bptr _ _ :: _, _, h | .rptr _ _ _ _ :: _, _, h | .eptr _ :: _, _, h | .fn _ _ :: _, _, h | .und :: _, _, h => by cases h
theorem onePV_ds {ds : List D} : ∀ y ∈ ds.map PV.d, onePV y = true := by
  intro y hy
  obtain ⟨d, _, rfl⟩ := List.mem_map.1 hy
  rfl
theorem po_store_row {t : TypeId} {p x : Operand} {ti : TI} {id sz k off : Nat} {ty : TypeId} {es : List (List D)} {e ds : List D} (ho : o.op = .store t p x) (ht : tiB P t ti = true) (hp : s.get p = .rptr id sz k off) (hg : hget s.hp id = some (.row ty sz es)) (hk : es[k]? = some e)
    (hd : dsOf (cellsPV (s.get x)) = some ds) (hn : ds.length = ti.size) (hl : off + ti.size ≤ e.length)
    (hK : K (AS.put ⟨s.fr, hset s.hp id (.row ty sz (es.set k (spl e off ds))), s.nx⟩ o.dst .und)) : PO P o s K :=
  PO.skip fun X0 w0 m a w hs => by
    have hd' := dsOf_map hd
    have h2 := (hs.get x).cellsOf (by rw [hd']; exact onePV_ds)
    rw [hd', List.length_map] at h2
    have h3 := hs.get p
    rw [hp] at h3
    obtain ⟨b, c, hm, he⟩ := h3.rptr_inv
    obtain ⟨arr, hh, ha, hec, hcm, hes, hc⟩ := hs.blk hg hm
    obtain ⟨i, hi, hisz⟩ := ti_size ht
    have hesz := hes e (List.mem_of_getElem? hk)
    have hklt := (List.getElem?_eq_some_iff.1 hk).1
    have hbig : (k + 1) * sz ≤ c * sz := Nat.mul_le_mul_right _ (by omega)
    rw [Nat.succ_mul] at hbig
    have hvl : k * sz + off + (a.eval x).cells.size ≤ arr.size := by rw [h2.1, hn, ha]; omega
    have h6 : ∀ u ∈ (a.eval x).cells.toList, u.oneCell' = true := by
      intro u hu
      obtain ⟨j, hj⟩ := List.getElem?_of_mem hu
      have hj' : (a.eval x).cells[j]? = some u := by simpa using hj
      have hlt : j < (ds.map PV.d).length := by rw [List.length_map, ← h2.1]; exact (Array.getElem?_eq_some_iff.1 hj').1
      exact (h2.2 j _ u (List.getElem?_eq_getElem hlt) hj').2
    have hrun := store_run (P := P) (t := t) hi (by rw [h2.1, hn, hisz]) hh hvl h6
    refine ⟨w.setRow b (spl arr.toList (k * sz + off) (a.eval x).cells.toList).toArray, upd m id (.blk b c), ⟨s.fr, hset s.hp id (.row ty sz (es.set k (spl e off ds))), s.nx⟩, ?_, ?_, hK⟩
    · simp only [execOp, ho, he, Sem.run_bind, hrun, Result.andThen_ok, Sem.run_pure]
    · refine hs.restore hg hm (blk' := .row ty sz (es.set k (spl e off ds))) rfl hh fun m' X' w' hmm hst => ?_
      have e1 : (a.eval x).cells.toList.length = ds.length := by simpa using h2.1
      refine ⟨by rw [List.size_toArray, spl_len (by simpa using hvl)]; simpa using ha, by simpa using hec, hcm, ?_, ?_⟩
      · intro e' he'
        obtain ⟨j, hj⟩ := List.getElem?_of_mem he'
        rw [List.getElem?_set] at hj
        split at hj
        · cases hj
          rw [spl_len (by rw [hn]; exact hl)]
          exact hesz
        · exact hes e' (List.mem_of_getElem? hj)
      · intro k' e' j d u he' hd2 hu
        have hu' : (spl arr.toList (k * sz + off) (a.eval x).cells.toList)[k' * sz + j]? = some u := by simpa using hu
        rw [spl_get (by simpa using hvl), e1] at hu'
        rw [List.getElem?_set] at he'
        split at he'
        · rename_i hkk
          subst hkk
          cases he'
          rw [spl_get (by rw [hn]; exact hl)] at hd2
          split at hd2
          · rename_i hin
            rw [if_pos (by omega)] at hu'
            have h7 := (h2.2 (j - off) (.d d) u (by rw [List.getElem?_map, hd2]; rfl) (by rw [show k * sz + j - (k * sz + off) = j - off by omega] at hu'; simpa using hu')).1.rd
            exact h7.mono hst
          · rename_i hin
            rw [if_neg (by omega)] at hu'
            exact (hc k e j d u hk hd2 (by simpa using hu')).mono hst
        · rename_i hne
          have hj : j < sz := by rw [← hes e' (List.mem_of_getElem? he')]; exact (List.getElem?_eq_some_iff.1 hd2).1
          have hout : ¬ (k * sz + off ≤ k' * sz + j ∧ k' * sz + j < k * sz + off + ds.length) := by
            rcases Nat.lt_or_gt_of_ne hne with h7 | h7
            · have h8 : (k + 1) * sz ≤ k' * sz := Nat.mul_le_mul_right _ h7
              rw [Nat.succ_mul] at h8
              omega
            · have := mul_apart h7 hj
              omega
          rw [if_neg hout] at hu'
          exact (hc k' e' j d u he' hd2 (by simpa using hu')).mono hst
end rules
end Go.Proofs.Ytldcnlhfanbdfaa
