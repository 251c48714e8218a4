/-
  The abstract machine: its operations, one rule each. No program is named here.
-/
import Derived.Test.YtldcnlhfanbdfaaM1
import Derived.Deep.Quiet
import Derived.StillTail
import Derived.BigQuiet
namespace Go.Proofs.Ytldcnlhfanbdfaa
open Go.RowKit

section inv
variable {m : Nat → Option Loc} {X : Nat → Prop} {w : World} {v : Value}
theorem R.rd {x : D} (h : R m X w (.d x) v) : Rd w X x v := by cases h; assumption
theorem R.int {k : IntKind} {n : Int} (h : R m X w (.d (.int k n)) v) : v = .int k n := by cases h.rd; rfl
theorem R.bool {b : Bool} (h : R m X w (.d (.bool b)) v) : v = .bool b := by cases h.rd; rfl
theorem R.str {s : ByteArray} (h : R m X w (.d (.str s)) v) : v = .string s := by cases h.rd; rfl
theorem R.bptr_inv {id off : Nat} (h : R m X w (.bptr id off) v) : ∃ b c, m id = some (.blk b c) ∧ v = .pointer (some ⟨b, off, none⟩) := by
  cases h with
  | bptr _ _ b c hm => exact ⟨b, c, hm, rfl⟩
theorem R.rptr_inv {id sz k off : Nat} (h : R m X w (.rptr id sz k off) v) : ∃ b c, m id = some (.blk b c) ∧ v = .pointer (some ⟨b, k * sz + off, none⟩) := by
  cases h with
  | rptr _ _ _ _ b c hm => exact ⟨b, c, hm, rfl⟩
theorem R.eptr_inv {cs : List D} (h : R m X w (.eptr cs) v) : ∃ b off, v = .pointer (some ⟨b, off, none⟩) ∧ ∀ (j : Nat) (d : D), cs[j]? = some d → ¬ X b ∧ ∃ u, w.cell? ⟨b, off + j, none⟩ = some u ∧ Rd w X d u := by
  cases h with
  | eptr _ b off hd => exact ⟨b, off, rfl, hd⟩
theorem R.row_inv {id n : Nat} (h : R m X w (.row id n) v) : (m id = some .nil ∧ n = 0 ∧ v = .slice none 0 0) ∨ ∃ b c, m id = some (.blk b c) ∧ n ≤ c ∧ v = .slice (some ⟨b, 0, none⟩) n c := by
  cases h with
  | rowN _ hm => exact .inl ⟨hm, rfl, rfl⟩
  | rowB _ _ b c hm hn => exact .inr ⟨b, c, hm, hn, rfl⟩
theorem R.view_inv {id sz lo n : Nat} (h : R m X w (.view id sz lo n) v) : (∃ A c, n = 0 ∧ v = .slice A 0 c) ∨ ∃ b c c', m id = some (.blk b c) ∧ n ≤ c' ∧ v = .slice (some ⟨b, lo * sz, none⟩) n c' := by
  cases h with
  | view0 _ _ _ A c => exact .inl ⟨A, c, rfl, rfl⟩
  | viewB _ _ _ _ b c c' hm hc => exact .inr ⟨b, c, c', hm, hc, rfl⟩
theorem Rd.lst_inv {sz : Nat} {es : List (List D)} (h : Rd w X (.lst sz es) v) : (∃ A c, es = [] ∧ v = .slice A 0 c) ∨ ∃ b off c, v = .slice (some ⟨b, off, none⟩) es.length c ∧ es.length ≤ c ∧ (∀ e, e ∈ es → e.length = sz) ∧
    ∀ (k : Nat) (e : List D) (j : Nat) (d : D), es[k]? = some e → e[j]? = some d → ¬ X b ∧ ∃ u, w.cell? ⟨b, off + (k * sz + j), none⟩ = some u ∧ Rd w X d u := by
  cases h with
  | nil _ A c => exact .inl ⟨A, c, rfl, rfl⟩
  | lst _ _ b off c hcap hsz hc hr =>
    refine .inr ⟨b, off, c, rfl, hcap, hsz, fun k e j d he hd => ?_⟩
    obtain ⟨h1, u, h2⟩ := hc k e j d he hd
    exact ⟨h1, u, h2, hr k e j d u he hd h2⟩
end inv
theorem Sim.blk {X0 : Nat → Prop} {w0 : Base} {m : Mp} {s : AS} {a : Act} {w : World} (hs : Sim X0 w0 m s a w) {id b c : Nat} {blk : Blk} (hg : hget s.hp id = some blk) (hm : m.loc id = some (.blk b c)) (hpl : blk.plain = true := by rfl) : ∃ arr, w.heap[b]? = some (.cells arr blk.ty (0, 0)) ∧ blk.cellsOk m.loc (Owned X0 m s.hp) w arr c := by
  obtain ⟨l, h1, h2⟩ := hs.hp id blk hg
  rw [hm] at h1
  cases h1
  exact Blk.ok_to hpl h2
theorem Sim.owns {X0 : Nat → Prop} {w0 : Base} {m : Mp} {s : AS} {a : Act} {w : World} (hs : Sim X0 w0 m s a w) {id b c : Nat} {blk : Blk} (hg : hget s.hp id = some blk) (hm : m.loc id = some (.blk b c)) (hpl : blk.plain = true := by rfl) : (w0.w.heap.size ≤ b ∨ w0.chg b) ∧ b < w.heap.size :=
  hs.own id blk b hg (Blk.has_root hpl hm)

/-- what a type of the program is -/
inductive TI where
  | one (z : List D)
  | bol
  | num (k : IntKind)
  | slc (e : TypeId) (sz bytes : Nat) (z : List D)
  | st (n : Nat) (fs : List (Nat × Nat)) (z : List D)
  | arr (len : Nat) (sz : Nat) (z : List D)
  | str
def tget : List (Nat × TI) → Nat → Option TI
  | [], _ => none
  | (k, b) :: r, i => if i = k then some b else tget r i
def isAggD : TypeDesc → Bool
  | .struct _ | .array _ _ => true
  | _ => false
def zEq : D → Value → Bool
  | .int k n, .int k' n' => k == k' && n == n'
  | .bool b, .bool b' => b == b'
  | .str s, .string s' => s.data.toList == s'.data.toList
  | .lst _ [], .slice none 0 0 => true
  | _, _ => false
theorem zEq_rd {d : D} {v : Value} (h : zEq d v = true) (w : World) (X : Nat → Prop) : Rd w X d v := by
  unfold zEq at h
  split at h
  · simp at h; obtain ⟨rfl, rfl⟩ := h; exact .int _ _
  · simp at h; subst h; exact .bool _
  · rename_i s s'
    have e : s = s' := by
      have h1 : s.data = s'.data := Array.ext' (by simpa using h)
      cases s; cases s'; simp_all
    subst e; exact .str _
  · exact .nil _ _ _
  · cases h
def zB (z : List D) (v : Value) : Bool := z.length == v.cells.size && (z.zip v.cells.toList).all fun p => zEq p.1 p.2
theorem zB_rd {z : List D} {v : Value} (h : zB z v = true) : v.cells.size = z.length ∧ ∀ (j : Nat) (d : D) (u : Value), z[j]? = some d → v.cells[j]? = some u → ∀ w X, Rd w X d u := by
  simp only [zB, Bool.and_eq_true, beq_iff_eq] at h
  refine ⟨h.1.symm, fun j d u hd hu w X => zEq_rd ?_ w X⟩
  have hm : (d, u) ∈ z.zip v.cells.toList := List.mem_of_getElem? (i := j) (by rw [List.getElem?_zip_eq_some]; exact ⟨hd, by simpa using hu⟩)
  exact List.all_eq_true.1 h.2 _ hm
def zOpt (z : List D) : Option Value → Bool
  | some v => zB z v
  | none => false
def tiB (P : Program) (t : TypeId) : TI → Bool
  | .one z => (match P.underlying t with | some d => !isAggD d | none => false) && (match P.info? t with | some i => i.size == 1 && (z.isEmpty || zOpt z i.zero) | none => false)
  | .bol => (match P.underlying t with | some .bool => true | _ => false) && (match P.info? t with | some i => i.size == 1 | none => false)
  | .num k => (match P.underlying t with | some (.int k') => k == k' | _ => false) && (match P.info? t with | some i => i.size == 1 && zOpt [.int k 0] i.zero | none => false)
  | .str => (match P.underlying t with | some .string => true | _ => false) && (match P.info? t with | some i => i.size == 1 | none => false)
  | .slc e sz bytes z => (match P.underlying t with | some (.slice e') => e == e' | _ => false) && (match P.info? e with | some i => i.size == sz && i.bytes == bytes && zOpt z i.zero && z.length == sz | none => false) && decide (0 < sz) && decide (bytes ≤ 256) && (match P.info? t with | some i => i.size == 1 | none => false)
  | .st n fs z => (match P.underlying t with | some (.struct fields) => fields.size == fs.length && (fields.toList.zip fs).all (fun p => p.1.offset == p.2.1 && (match P.info? p.1.type with | some i => i.size == p.2.2 && decide (0 < p.2.2) | none => false)) | _ => false) && (match P.info? t with | some i => i.size == n && zOpt z i.zero && z.length == n | none => false)
  | .arr len sz z => (match P.underlying t with | some (.array l e) => l == len && (match P.info? e with | some i => i.size == sz | none => false) | _ => false) && (match P.info? t with | some i => i.size == len * sz && zOpt z i.zero && z.length == len * sz | none => false)
def GOK (P : Program) (G : List (Nat × TI)) : Prop := ∀ t ti, tget G t = some ti → tiB P t ti = true
theorem GOK.of_all {P : Program} {G : List (Nat × TI)} (h : (G.all fun p => tiB P p.1 p.2) = true) : GOK P G := by
  intro t ti ht
  induction G with
  | nil => cases ht
  | cons p r ih =>
    obtain ⟨k, b⟩ := p
    simp only [List.all_cons, Bool.and_eq_true] at h
    simp only [tget] at ht
    split at ht
    · rename_i e; subst e; cases ht; exact h.1
    · exact ih h.2 ht

section facts
variable {P : Program} {t : TypeId}
theorem tiB_bol (h : tiB P t .bol = true) : P.underlying t = some .bool ∧ ∃ i, P.info? t = some i ∧ i.size = 1 := by
  simp only [tiB, Bool.and_eq_true] at h
  obtain ⟨h1, h2⟩ := h
  refine ⟨by split at h1 <;> simp_all, ?_⟩
  split at h2
  · exact ⟨_, by assumption, by simpa using h2⟩
  · cases h2
theorem tiB_num {k : IntKind} (h : tiB P t (.num k) = true) : P.underlying t = some (.int k) ∧ ∃ i v, P.info? t = some i ∧ i.size = 1 ∧ i.zero = some v ∧ zB [.int k 0] v = true := by
  simp only [tiB, Bool.and_eq_true] at h
  obtain ⟨h1, h2⟩ := h
  refine ⟨by split at h1 <;> simp_all, ?_⟩
  split at h2
  · rename_i i hi
    simp only [Bool.and_eq_true, beq_iff_eq] at h2
    obtain ⟨a1, a2⟩ := h2
    unfold zOpt at a2
    split at a2
    · rename_i v hv; exact ⟨i, v, hi, a1, hv, a2⟩
    · cases a2
  · cases h2
theorem tiB_str (h : tiB P t .str = true) : P.underlying t = some .string ∧ ∃ i, P.info? t = some i ∧ i.size = 1 := by
  simp only [tiB, Bool.and_eq_true] at h
  obtain ⟨h1, h2⟩ := h
  refine ⟨by split at h1 <;> simp_all, ?_⟩
  split at h2
  · exact ⟨_, by assumption, by simpa using h2⟩
  · cases h2
theorem tiB_one {z : List D} (h : tiB P t (.one z) = true) : (∃ d, P.underlying t = some d ∧ isAggD d = false) ∧ ∃ i, P.info? t = some i ∧ i.size = 1 ∧ (z = [] ∨ ∃ v, i.zero = some v ∧ zB z v = true) := by
  simp only [tiB, Bool.and_eq_true] at h
  obtain ⟨h1, h2⟩ := h
  refine ⟨?_, ?_⟩
  · split at h1
    · rename_i d hd; exact ⟨d, hd, by simpa using h1⟩
    · cases h1
  · split at h2
    · rename_i i hi
      simp only [Bool.and_eq_true, beq_iff_eq, Bool.or_eq_true, List.isEmpty_iff] at h2
      refine ⟨i, hi, h2.1, h2.2.imp id fun h3 => ?_⟩
      unfold zOpt at h3
      split at h3
      · rename_i v hv; exact ⟨v, hv, h3⟩
      · cases h3
    · cases h2
theorem tiB_slc {e : TypeId} {sz bytes : Nat} {z : List D} (h : tiB P t (.slc e sz bytes z) = true) : P.underlying t = some (.slice e) ∧ (∃ i v, P.info? e = some i ∧ i.size = sz ∧ i.bytes = bytes ∧ i.zero = some v ∧ zB z v = true) ∧ z.length = sz ∧ 0 < sz ∧ bytes ≤ 256 ∧ ∃ i, P.info? t = some i ∧ i.size = 1 := by
  simp only [tiB, Bool.and_eq_true, decide_eq_true_eq] at h
  obtain ⟨⟨⟨⟨h1, h2⟩, h3⟩, h4⟩, h5⟩ := h
  have g1 : P.underlying t = some (.slice e) := by
    split at h1
    · simp at h1; subst h1; assumption
    · cases h1
  split at h2
  · rename_i i hi
    simp only [Bool.and_eq_true, beq_iff_eq] at h2
    obtain ⟨⟨⟨a1, a2⟩, a3⟩, a4⟩ := h2
    unfold zOpt at a3
    split at a3
    · rename_i v hv
      refine ⟨g1, ⟨i, v, hi, a1, a2, hv, a3⟩, a4, h3, h4, ?_⟩
      split at h5
      · rename_i i' hi'; exact ⟨i', hi', by simpa using h5⟩
      · cases h5
    · cases a3
  · cases h2
theorem tiB_st {n : Nat} {fs : List (Nat × Nat)} {z : List D} (h : tiB P t (.st n fs z) = true) : (∃ fields, P.underlying t = some (.struct fields) ∧ fields.size = fs.length ∧ ∀ (j : Nat) (f : Field) (p : Nat × Nat), fields[j]? = some f → fs[j]? = some p → f.offset = p.1 ∧ 0 < p.2 ∧ ∃ i, P.info? f.type = some i ∧ i.size = p.2) ∧ ∃ i v, P.info? t = some i ∧ i.size = n ∧ i.zero = some v ∧ zB z v = true ∧ z.length = n := by
  simp only [tiB, Bool.and_eq_true] at h
  obtain ⟨h1, h2⟩ := h
  refine ⟨?_, ?_⟩
  · split at h1
    · rename_i fields hf
      simp only [Bool.and_eq_true, beq_iff_eq] at h1
      refine ⟨fields, hf, h1.1, fun j f p h3 h4 => ?_⟩
      have hm : (f, p) ∈ fields.toList.zip fs := List.mem_of_getElem? (i := j) (by rw [List.getElem?_zip_eq_some]; exact ⟨by simpa using h3, h4⟩)
      have := List.all_eq_true.1 h1.2 _ hm
      simp only [Bool.and_eq_true, beq_iff_eq] at this
      obtain ⟨g1, g2⟩ := this
      split at g2
      · rename_i i hi
        simp only [Bool.and_eq_true, beq_iff_eq, decide_eq_true_eq] at g2
        exact ⟨g1, g2.2, i, hi, g2.1⟩
      · cases g2
    · cases h1
  · split at h2
    · rename_i i hi
      simp only [Bool.and_eq_true, beq_iff_eq] at h2
      obtain ⟨⟨a1, a2⟩, a3⟩ := h2
      unfold zOpt at a2
      split at a2
      · rename_i v hv; exact ⟨i, v, hi, a1, hv, a2, a3⟩
      · cases a2
    · cases h2
theorem tiB_arr {len sz : Nat} {z : List D} (h : tiB P t (.arr len sz z) = true) : (∃ e i, P.underlying t = some (.array len e) ∧ P.info? e = some i ∧ i.size = sz) ∧ ∃ i v, P.info? t = some i ∧ i.size = len * sz ∧ i.zero = some v ∧ zB z v = true ∧ z.length = len * sz := by
  simp only [tiB, Bool.and_eq_true] at h
  obtain ⟨h1, h2⟩ := h
  refine ⟨?_, ?_⟩
  · split at h1
    · rename_i l e hf
      simp only [Bool.and_eq_true, beq_iff_eq] at h1
      obtain ⟨g1, g2⟩ := h1
      subst g1
      split at g2
      · rename_i i hi; exact ⟨e, i, hf, hi, by simpa using g2⟩
      · cases g2
    · cases h1
  · split at h2
    · rename_i i hi
      simp only [Bool.and_eq_true, beq_iff_eq] at h2
      obtain ⟨⟨a1, a2⟩, a3⟩ := h2
      unfold zOpt at a2
      split at a2
      · rename_i v hv; exact ⟨i, v, hi, a1, hv, a2, a3⟩
      · cases a2
    · cases h2
end facts

/-- one operation: from s it leads into K -/
def PO (P : Program) (o : Oper) (s : AS) (K : AS → Prop) : Prop :=
  ∀ (X0 : Nat → Prop) (w0 : Base) (m : Mp) (a : Act) (w : World) (Q : Exit → Act → World → Prop), Sim X0 w0 m s a w → o.wp P a w (fun a' w' => ∃ m' s', K s' ∧ Sim X0 w0 m' s' a' w') Q

section rules
variable {P : Program} {o : Oper} {s : AS} {K : AS → Prop}
theorem PO.mk (h : ∀ (X0 : Nat → Prop) (w0 : Base) (m : Mp) (a : Act) (w : World), Sim X0 w0 m s a w → ∃ v w' m' s' x, (execOp a.eval o).run P w = .ok (.value v) w' ∧ Sim X0 w0 m' s' a w' ∧ R m' (Owned X0 m' s'.hp) w' x v ∧ K (s'.put o.dst x)) : PO P o s K := by
  intro X0 w0 m a w Q hs
  obtain ⟨v, w', m', s', x, h1, h2, h3, h4⟩ := h X0 w0 m a w hs
  unfold Oper.wp
  rw [h1]
  exact ⟨m', _, h4, h2.put h3 o.dst⟩
theorem PO.skip (h : ∀ (X0 : Nat → Prop) (w0 : Base) (m : Mp) (a : Act) (w : World), Sim X0 w0 m s a w → ∃ w' m' s', (execOp a.eval o).run P w = .ok .skip w' ∧ Sim X0 w0 m' s' a w' ∧ K (s'.put o.dst .und)) : PO P o s K := by
  intro X0 w0 m a w Q hs
  obtain ⟨w', m', s', h1, h2, h4⟩ := h X0 w0 m a w hs
  unfold Oper.wp
  rw [h1]
  exact ⟨m', _, h4, h2.put (.und _) o.dst⟩
/-- the operation yields a value that reads as x, in whatever world -/
def PureAt (P : Program) (o : Oper) (s : AS) (x : PV) : Prop := ∀ (m : Nat → Option Loc) (X : Nat → Prop) (w : World) (a : Act), (∀ q, R m X w (s.get q) (a.eval q)) → ∃ v, (∀ u, (execOp a.eval o).run P u = .ok (.value v) u) ∧ R m X w x v
/-- the operation yields one value, which reads as x, in all later worlds -/
def QuietAt (P : Program) (o : Oper) (s : AS) (x : PV) : Prop := ∀ (X0 : Nat → Prop) (w0 : Base) (m : Mp) (a : Act) (wb : World), Sim X0 w0 m s a wb →
  ∃ v, (∀ w', Bel wb.heap.size wb w' → o.quietAt P a (fun w'' => Bel wb.heap.size wb w'') w' v) ∧ (∀ w', Bel wb.heap.size wb w' → R m (Owned X0 m s.hp) w' x v)
theorem QuietAt.of_pure {x : PV} (h : PureAt P o s x) : QuietAt P o s x := by
  intro X0 w0 m a wb hs
  obtain ⟨v, h1, h2⟩ := h m _ wb a hs.get
  refine ⟨v, fun w' _ => ?_, fun w' hb => h2.mono (fun _ _ h => h) fun b hb1 hb2 => ⟨hb.block b hb1, hb2⟩⟩
  unfold Oper.quietAt
  rw [h1]
  exact ⟨rfl, rfl⟩
def PQ (P : Program) (o : Oper) (s : AS) (KP : PV → Prop) : Prop := ∃ x, QuietAt P o s x ∧ KP x
variable {KP : PV → Prop}
theorem PQ.pure (x : PV) (hK : KP x) (h : PureAt P o s x) : PQ P o s KP := ⟨x, QuietAt.of_pure h, hK⟩
theorem PQ.po (h : PQ P o s fun x => K (s.put o.dst x)) : PO P o s K := by
  obtain ⟨x, h1, h2⟩ := h
  intro X0 w0 m a w Q hs
  obtain ⟨v, h3, h4⟩ := h1 X0 w0 m a w hs
  refine Oper.wp_of_quiet (C := fun w' => Bel w.heap.size w w') (K := fun a' => a' = a.put o.dst v) (Bel.refl _ _) (fun a' w' hb e => ?_) ⟨v, h3, rfl⟩
  subst e
  exact ⟨m, _, h2, (hs.later hb).put (h4 w' hb) o.dst⟩

theorem pq_move {x : Operand} (ho : o.op = .move x ∨ o.op = .assign x) (hK : KP (s.get x)) : PQ P o s KP :=
  PQ.pure _ hK fun m X w a hq => ⟨a.eval x, fun u => by rcases ho with h | h <;> simp [execOp, h], hq x⟩
theorem po_nil {x : Operand} (ho : o.op = .move x ∨ o.op = .assign x) (hx : x = .const (.slice none 0 0)) (ty : TypeId) (sz : Nat) (hK : K (AS.put ⟨s.fr, (s.nx, .row ty sz []) :: s.hp, s.nx + 1⟩ o.dst (.row s.nx 0))) : PO P o s K :=
  PO.mk fun X0 w0 m a w hs => ⟨.slice none 0 0, w, _, _, .row s.nx 0, by subst hx; rcases ho with h | h <;> simp [execOp, h, Act.eval], hs.ghost ty sz, .rowN _ (upd_same _ _ _), hK⟩
theorem pq_pick {c x y : Operand} {b : Bool} (ho : o.op = .pick c x y) (hc : s.get c = .d (.bool b)) (ht : b = true → KP (s.get x)) (hf : b = false → KP (s.get y)) : PQ P o s KP := by
  cases b with
  | true => exact PQ.pure _ (ht rfl) fun m X w a hq => ⟨a.eval x, fun u => by have h1 := hq c; rw [hc] at h1; simp [execOp, ho, h1.bool, asBool], hq x⟩
  | false => exact PQ.pure _ (hf rfl) fun m X w a hq => ⟨a.eval y, fun u => by have h1 := hq c; rw [hc] at h1; simp [execOp, ho, h1.bool, asBool], hq y⟩
theorem pq_not {t : TypeId} {x : Operand} {b : Bool} (ho : o.op = .unOp .not t x) (hx : s.get x = .d (.bool b)) (hK : KP (.d (.bool !b))) : PQ P o s KP :=
  PQ.pure _ hK fun m X w a hq => ⟨.bool !b, fun u => by have h1 := hq x; rw [hx] at h1; simp [execOp, ho, h1.bool, Op.unary], .d _ _ (.bool _)⟩

/-- the number fits into an int -/
def inI (n : Int) : Prop := -9223372036854775808 ≤ n ∧ n ≤ 9223372036854775807
theorem wrapI {n : Int} (h : inI n) : IntKind.i64.wrap n = n := by
  unfold inI at h
  exact IntWalk.i64_in _ (by omega)
def arK (k : IntKind) (n : Int) (K : PV → Prop) : Prop :=
  match k with
  | .i64 => inI n ∧ K (.d (.int .i64 n))
  | k => K (.d (.int k (k.wrap n)))
theorem arK_run {k : IntKind} {n : Int} {K : PV → Prop} (h : arK k n K) : K (.d (.int k (k.wrap n))) := by
  unfold arK at h
  split at h
  · rw [wrapI h.1]; exact h.2
  · exact h
def andI (k : IntKind) (a b : Int) : Int := k.wrap ((BitVec.ofInt k.bits a &&& BitVec.ofInt k.bits b).toNat : Int)
theorem andI_255 (a : Int) : 0 ≤ andI .u64 a 255 ∧ andI .u64 a 255 ≤ 255 := by
  unfold andI
  have h : (BitVec.ofInt IntKind.u64.bits a &&& BitVec.ofInt IntKind.u64.bits 255).toNat ≤ 255 := by
    rw [BitVec.toNat_and]
    exact Nat.le_trans Nat.and_le_right (by decide)
  generalize (BitVec.ofInt IntKind.u64.bits a &&& BitVec.ofInt IntKind.u64.bits 255).toNat = n at h
  unfold IntKind.wrap
  simp [IntKind.bits, IntKind.signed]
  omega
theorem andI_inI (a : Int) : inI (andI .u64 a 255) := by
  have := andI_255 a
  unfold inI
  omega
def intK (op : BinOp) (k : IntKind) (a b : Int) (K : PV → Prop) : Prop :=
  match op with
  | .add => arK k (a + b) K
  | .sub => arK k (a - b) K
  | .mul => arK k (a * b) K
  | .quo => b ≠ 0 ∧ arK k (a.tdiv b) K
  | .rem => b ≠ 0 ∧ K (.d (.int k (a.tmod b)))
  | .eql => K (.d (.bool (a == b)))
  | .neq => K (.d (.bool (a != b)))
  | .lss => K (.d (.bool (decide (a < b))))
  | .leq => K (.d (.bool (decide (a ≤ b))))
  | .gtr => K (.d (.bool (decide (b < a))))
  | .geq => K (.d (.bool (decide (b ≤ a))))
  | .and => K (.d (.int k (andI k a b)))
  | _ => False
theorem pq_int {op : BinOp} {t t' : TypeId} {x y : Operand} {k : IntKind} {a b : Int} (ho : o.op = .binOp op t x y t') (hx : s.get x = .d (.int k a)) (hy : s.get y = .d (.int k b)) (hK : intK op k a b KP) : PQ P o s KP := by
  have key : ∀ (z : PV) (r : Value), KP z → (∀ w, (eqGuard op t x y (.int k a) (.int k b) >>= fun _ => binOp op t (.int k a) (.int k b)).run P w = .ok r w) → (∀ m X w, R m X w z r) → PQ P o s KP := by
    intro z r hz hr hR
    refine PQ.pure z hz fun m X w ac hq => ⟨r, fun u => ?_, hR m X w⟩
    have h1 := hq x
    have h2 := hq y
    rw [hx] at h1
    rw [hy] at h2
    have hr' := hr u
    simp only [execOp, ho, h1.int, h2.int, Sem.run_bind] at hr' ⊢
    simp only [hr', Result.andThen_ok, Sem.run_pure]
  have hi : ∀ n : Int, ∀ m X w, R m X w (.d (.int k n)) (.int k n) := fun n m X w => .d _ _ (.int _ _)
  have hb : ∀ c : Bool, ∀ m X w, R m X w (.d (.bool c)) (.bool c) := fun n m X w => .d _ _ (.bool _)
  cases op <;> simp only [intK] at hK
  case add => exact key _ _ (arK_run hK) (fun w => by simp [go_sem]) (hi _)
  case sub => exact key _ _ (arK_run hK) (fun w => by simp [go_sem]) (hi _)
  case mul => exact key _ _ (arK_run hK) (fun w => by simp [go_sem]) (hi _)
  case quo => exact key _ _ (arK_run hK.2) (fun w => by simp [go_sem, hK.1]) (hi _)
  case rem => exact key _ _ hK.2 (fun w => by simp [go_sem, hK.1]) (hi _)
  case eql => exact key _ _ hK (fun w => by simp [go_sem]) (hb _)
  case neq => exact key _ _ hK (fun w => by simp [go_sem]) (hb _)
  case lss => exact key _ _ hK (fun w => by simp [go_sem]) (hb _)
  case leq => exact key _ _ hK (fun w => by simp [go_sem]) (hb _)
  case gtr => exact key _ _ hK (fun w => by simp [go_sem]) (hb _)
  case geq => exact key _ _ hK (fun w => by simp [go_sem]) (hb _)
  case and => exact key _ _ hK (fun w => by simp [go_sem, andI, Op.intBits]) (hi _)
theorem pq_shr {t t' : TypeId} {x y : Operand} {k k' : IntKind} {a b : Int} (ho : o.op = .binOp .shr t x y t') (hx : s.get x = .d (.int k a)) (hy : s.get y = .d (.int k' b)) (hb : 0 ≤ b) (hK : KP (.d (.int k (a.fdiv (2 ^ (min b.toNat k.bits)))))) : PQ P o s KP :=
  PQ.pure _ hK fun m X w ac hq => ⟨.int k (a.fdiv (2 ^ (min b.toNat k.bits))), fun u => by
    have h1 := hq x
    have h2 := hq y
    rw [hx] at h1
    rw [hy] at h2
    have hb' : ¬ b < 0 := by omega
    have hr : (eqGuard .shr t x y (.int k a) (.int k' b) >>= fun _ => binOp .shr t (.int k a) (.int k' b)).run P u = .ok (.int k (a.fdiv (2 ^ (min b.toNat k.bits)))) u := by simp [eqGuard, binOp, Op.shift, hb']
    simp only [execOp, ho, h1.int, h2.int, Sem.run_bind] at hr ⊢
    simp only [hr, Result.andThen_ok, Sem.run_pure], .d _ _ (.int _ _)⟩
end rules
end Go.Proofs.Ytldcnlhfanbdfaa
