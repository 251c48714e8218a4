/-
  The abstract machine as one function that can be reckoned with, and its soundness. No program is named here.
-/
import Derived.Test.YthocihmhljmgdaaGreatDoorZMe
namespace Go.Proofs.YthocihmhljmgdaaGreatDoor
open Go.RowKit

section more
variable {P : Program} {o : Oper} {s : AS} {K : AS → Prop} {KP : PV → Prop}
theorem pq_neg {t : TypeId} {x : Operand} {k : IntKind} {n : Int} (ho : o.op = .unOp .neg t x) (hx : s.get x = .d (.int k n)) (hK : arK k (0 - n) KP) : PQ P o s KP :=
  PQ.pure _ (arK_run (K := KP) hK) fun m X w a hq => ⟨_, fun u => by have h1 := hq x; rw [hx] at h1; simp [execOp, ho, h1.int, Op.unary, Op.intArith], .d _ _ (.int _ _)⟩
def boolK (op : BinOp) (a b : Bool) (K : PV → Prop) : Prop :=
  match op with
  | .eql => K (.d (.bool (a == b)))
  | .neq => K (.d (.bool (!(a == b))))
  | _ => False
theorem pq_bool {op : BinOp} {t t' : TypeId} {x y : Operand} {a b : Bool} (ho : o.op = .binOp op t x y t') (ht : tiB P t .bol = true) (hx : s.get x = .d (.bool a)) (hy : s.get y = .d (.bool b)) (hK : boolK op a b KP) : PQ P o s KP := by
  have hu := (tiB_bol ht).1
  have heq : ∀ w, (Op.equal t (.bool a) (.bool b)).run P w = .ok (a == b) w := by
    intro w
    show (Op.equalIn (9999 + 1) t (.bool a) (.bool b)).run P w = _
    rw [Op.equalIn, Sem.run_bind, run_underlying hu]
    rfl
  cases op <;> simp only [boolK] at hK
  all_goals first | exact hK.elim | skip
  · refine PQ.pure _ hK fun m X w ac hq => ⟨.bool (a == b), fun u => ?_, .d _ _ (.bool _)⟩
    have h1 := hq x
    have h2 := hq y
    rw [hx] at h1
    rw [hy] at h2
    simp only [execOp, ho, h1.bool, h2.bool, eqGuard_at_bool, binOp, Sem.run_bind, Sem.run_pure, Result.andThen_ok, heq]
  · refine PQ.pure _ hK fun m X w ac hq => ⟨.bool (!(a == b)), fun u => ?_, .d _ _ (.bool _)⟩
    have h1 := hq x
    have h2 := hq y
    rw [hx] at h1
    rw [hy] at h2
    simp only [execOp, ho, h1.bool, h2.bool, eqGuard_at_bool, binOp, Sem.run_bind, Sem.run_pure, Result.andThen_ok, heq]
def strK (op : BinOp) (a b : ByteArray) (K : PV → Prop) : Prop :=
  match op with
  | .eql => K (.d (.bool (decide (a = b))))
  | .neq => K (.d (.bool (!decide (a = b))))
  | .lss => K (.d (.bool (Op.bytesLess a.toList b.toList)))
  | .leq => K (.d (.bool (Op.bytesLess a.toList b.toList || decide (a = b))))
  | .gtr => K (.d (.bool (!(Op.bytesLess a.toList b.toList || decide (a = b)))))
  | .geq => K (.d (.bool (!Op.bytesLess a.toList b.toList)))
  | .add => a.size + b.size ≤ 9223372036854775807 ∧ K (.d (.str (a ++ b)))
  | _ => False
theorem eqL_dec (a b : ByteArray) : (a.toList == b.toList) = decide (a = b) := by
  rw [ByteArray.toList_eq, ByteArray.toList_eq]
  by_cases h : a = b
  · subst h; simp
  · rw [decide_eq_false h, beq_eq_false_iff_ne]
    intro e
    exact h (ByteArray.ext (Array.toList_inj.1 e))
theorem pq_str {op : BinOp} {t t' : TypeId} {x y : Operand} {a b : ByteArray} (ho : o.op = .binOp op t x y t') (hx : s.get x = .d (.str a)) (hy : s.get y = .d (.str b)) (hK : strK op a b KP) : PQ P o s KP := by
  cases op <;> simp only [strK] at hK
  all_goals first | exact hK.elim | skip
  case add =>
    refine PQ.pure _ hK.2 fun m X w ac hq => ⟨.string (a ++ b), fun u => ?_, .d _ _ (.str _)⟩
    have h1 := hq x
    have h2 := hq y
    rw [hx] at h1
    rw [hy] at h2
    have hn : ¬ (((a.size + b.size : Nat) : Int) > IntKind.i64.max) := by have := hK.1; rw [IntKind.max_i64]; omega
    simp only [execOp, ho, h1.str, h2.str, eqGuard_at_string, binOp, Op.stringOp, hn, if_false, Sem.run_bind, Sem.run_pure, Result.andThen_ok]
  all_goals
    refine PQ.pure _ hK fun m X w ac hq => ⟨.bool _, fun u => ?_, .d _ _ (.bool _)⟩
    have h1 := hq x
    have h2 := hq y
    rw [hx] at h1
    rw [hy] at h2
    simp only [execOp, ho, h1.str, h2.str, eqGuard_at_string, binOp, Op.stringOp, Sem.run_bind, Sem.run_pure, Result.andThen_ok, eqL_dec]
theorem pq_index_str {t : TypeId} {x i : Operand} {b : ByteArray} {k : IntKind} {n : Int} {u : UInt8} (ho : o.op = .index t x i) (ht : tiB P t .str = true) (hx : s.get x = .d (.str b)) (hi : s.get i = .d (.int k n)) (h0 : 0 ≤ n) (hu : b[n.toNat]? = some u) (hK : KP (.d (.int .u8 u.toNat))) : PQ P o s KP :=
  PQ.pure _ hK fun m X w a hq => by
    have h1 := hq x
    have h2 := hq i
    rw [hx] at h1
    rw [hi] at h2
    exact ⟨.int .u8 u.toNat, fun u' => by simp [execOp, ho, h1.str, h2.int, Instr.index, asIntOf, run_underlying (tiB_str ht).1, h0, hu], .d _ _ (.int _ _)⟩
theorem pq_slice_str {t : TypeId} {x : Operand} {lo hi : Option Operand} {b : ByteArray} {l h : Int} (ho : o.op = .slice t x lo hi none) (ht : tiB P t .str = true) (hx : s.get x = .d (.str b))
    (hlo : bnd s 0 lo = some l) (hhi : bnd s b.size hi = some h) (h0 : 0 ≤ l) (h1 : l ≤ h) (h2 : h ≤ b.size) (hK : KP (.d (.str (b.extract l.toNat h.toNat)))) : PQ P o s KP :=
  PQ.pure _ hK fun m X w a hq => by
    have hx1 := hq x
    rw [hx] at hx1
    have g1 := (tiB_str ht).1
    refine ⟨.string (b.extract l.toNat h.toNat), fun u => ?_, .d _ _ (.str _)⟩
    have key : (Instr.sliceBounds false b.size b.size (lo.map a.eval) (hi.map a.eval) none).run P u = .ok (l.toNat, h.toNat, b.size) u := by
      cases hi with
      | none =>
        cases hhi
        cases lo with
        | none => cases hlo; simp [Instr.sliceBounds]
        | some q =>
          obtain ⟨k, hk⟩ := bnd_run hq hlo
          simp [Instr.sliceBounds, hk, bound_run h0 h1]
      | some q' =>
        obtain ⟨k', hk'⟩ := bnd_run hq hhi
        have e1 : ((h.toNat : Nat) : Int) = h := Int.toNat_of_nonneg (by omega)
        cases lo with
        | none => cases hlo; simp [Instr.sliceBounds, hk', bound_run (show (0 : Int) ≤ h by omega) h2]
        | some q =>
          obtain ⟨k, hk⟩ := bnd_run hq hlo
          simp [Instr.sliceBounds, hk, hk', bound_run (show (0 : Int) ≤ h by omega) h2, bound_run (y := h.toNat) h0 (by omega)]
    simp [execOp, ho, hx1.str, Instr.sliceAt, Instr.slice, run_underlying g1, key]
theorem pq_min {x y : Operand} {ts : Array TypeId} {k : IntKind} {a b : Int} (ho : o.op = .call { callee := .builtin .min, args := #[x, y], argTypes := ts }) (hx : s.get x = .d (.int k a)) (hy : s.get y = .d (.int k b)) (hK : KP (.d (.int k (min a b)))) : PQ P o s KP :=
  PQ.pure _ hK fun m X w ac hq => by
    have h1 := hq x
    have h2 := hq y
    rw [hx] at h1
    rw [hy] at h2
    refine ⟨.int k (min a b), fun u => ?_, .d _ _ (.int _ _)⟩
    have : (if b < a then b else a) = min a b := by rw [Int.min_def]; split <;> split <;> omega
    simp [execOp, ho, resolve, invoke, builtin, Builtin.min_, Builtin.min2, h1.int, h2.int, this]
theorem pq_max {x y : Operand} {ts : Array TypeId} {k : IntKind} {a b : Int} (ho : o.op = .call { callee := .builtin .max, args := #[x, y], argTypes := ts }) (hx : s.get x = .d (.int k a)) (hy : s.get y = .d (.int k b)) (hK : KP (.d (.int k (max a b)))) : PQ P o s KP :=
  PQ.pure _ hK fun m X w ac hq => by
    have h1 := hq x
    have h2 := hq y
    rw [hx] at h1
    rw [hy] at h2
    refine ⟨.int k (max a b), fun u => ?_, .d _ _ (.int _ _)⟩
    have : (if a < b then b else a) = max a b := by rw [Int.max_def]; split <;> split <;> omega
    simp [execOp, ho, resolve, invoke, builtin, Builtin.max_, Builtin.max2, h1.int, h2.int, this]
theorem pq_convert {src dst : TypeId} {x : Operand} {k k' : IntKind} {n : Int} {ti : TI} (ho : o.op = .convert src dst x) (hs : tiB P src ti = true) (ht : tiB P dst (.num k') = true) (hx : s.get x = .d (.int k n)) (hK : arK k' n KP) : PQ P o s KP :=
  PQ.pure _ (arK_run (K := KP) hK) fun m X w a hq => by
    have h1 := hq x
    rw [hx] at h1
    obtain ⟨i, hi, _⟩ := ti_size hs
    have hu : ∃ d, P.underlying src = some d := by
      cases hc : ti.cells with
      | none => obtain ⟨⟨d, h, _⟩, _⟩ := ti_one hs hc; exact ⟨d, h⟩
      | some n => obtain ⟨⟨d, h, _⟩, _⟩ := ti_agg hs hc; exact ⟨d, h⟩
    obtain ⟨d, hd⟩ := hu
    refine ⟨.int k' (k'.wrap n), fun u => ?_, .d _ _ (.int _ _)⟩
    simp [execOp, ho, h1.int, convert, run_underlying hd, run_underlying (tiB_num ht).1, Conv.intToInt]
theorem po_make {t e : TypeId} {sz bytes : Nat} {z : List D} {l c : Operand} {n : Nat} (ho : o.op = .makeSlice t l c) (ht : tiB P t (.slc e sz bytes z) = true) (hl : s.get l = .d (.int .i64 (n : Int))) (hc : s.get c = .d (.int .i64 (n : Int))) (hn : n ≤ 1048576)
    (hK : K (AS.put ⟨s.fr, (s.nx, .row e sz (List.replicate n z)) :: s.hp, s.nx + 1⟩ o.dst (.row s.nx n))) : PO P o s K :=
  PO.mk fun X0 w0 m a w hs => by
    obtain ⟨h1, ⟨i, v, h4, h5, h5b, h6, h7⟩, h8, h9, h10, _⟩ := tiB_slc ht
    obtain ⟨g1, g2⟩ := zB_rd h7
    have e1 := hs.get l
    have e2 := hs.get c
    rw [hl] at e1
    rw [hc] at e2
    have hb : (i.bytes : Int) * (n : Int) ≤ 281474976710656 := by
      have h : i.bytes * n ≤ 256 * 1048576 := Nat.mul_le_mul (by omega) hn
      have h' : ((i.bytes * n : Nat) : Int) ≤ 281474976710656 := by omega
      rwa [Int.natCast_mul] at h'
    have hr := run_make (P := P) w t e i v h1 h4 h6 .i64 .i64 n n (by omega) (by omega) hb (by omega)
    simp only [Int.toNat_natCast, h5] at hr
    have hal := hs.alloc (blk := .row e sz (List.replicate n z)) (arr := madeCells v.cells (n * sz)) (c := n) ⟨size_madeCells _ _, by simp, by unfold maxLen; omega, fun e' he' => by rw [List.eq_of_mem_replicate he']; exact h8, fun k e' j d u hk hj hu => by
      have he' : e' = z := List.eq_of_mem_replicate (List.mem_of_getElem? hk)
      subst he'
      have hjlt : j < sz := by rw [← h8]; exact (List.getElem?_eq_some_iff.1 hj).1
      have hsz : v.cells.size = sz := by rw [g1, h8]
      have hlt : k * sz + j < n * sz := by
        have := (Array.getElem?_eq_some_iff.1 hu).1
        rwa [size_madeCells] at this
      have hmod : (k * sz + j) % sz = j := by rw [Nat.mul_comm, Nat.mul_add_mod, Nat.mod_eq_of_lt hjlt]
      have hu2 : v.cells[j]? = some u := by
        simp only [madeCells, Array.getElem?_map] at hu
        rw [Array.getElem?_range] at hu
        simp only [hlt, if_true, Option.map_some, hsz, hmod] at hu
        rw [← hu]
        have hjs : j < v.cells.size := by omega
        simp [hjs]
      exact g2 j d u hj hu2 w _⟩
    refine ⟨.slice (some ⟨w.heap.size, 0, none⟩) n n, _, _, _, .row s.nx n, ?_, hal, .rowB _ _ w.heap.size n (upd_same _ _ _) (Nat.le_refl _), hK⟩
    simp [execOp, ho, e1.int, e2.int, hr, Blk.ty]
theorem zEq_tr {d : D} {v : Value} (h : zEq d v = true) (w : World) (F : Nat → Prop) : Tr w F d v := by
  unfold zEq at h
  split at h
  · simp at h; obtain ⟨rfl, rfl⟩ := h; exact .int _ _ _
  · simp at h; subst h; exact .bool _ _
  · rename_i s s'
    have e : s = s' := by
      have h1 : s.data = s'.data := Array.ext' (by simpa using h)
      cases s; cases s'; simp_all
    subst e; exact .str _ _
  · exact .nil _ _
  · cases h
theorem zB_tr {z : List D} {v : Value} (h : zB z v = true) : v.cells.size = z.length ∧ ∀ (j : Nat) (d : D) (u : Value), z[j]? = some d → v.cells[j]? = some u → ∀ w F, Tr w F d u := by
  simp only [zB, Bool.and_eq_true, beq_iff_eq] at h
  refine ⟨h.1.symm, fun j d u hd hu w X => zEq_tr ?_ w X⟩
  have hm : (d, u) ∈ z.zip v.cells.toList := List.mem_of_getElem? (i := j) (by rw [List.getElem?_zip_eq_some]; exact ⟨hd, by simpa using hu⟩)
  exact List.all_eq_true.1 h.2 _ hm
/-- a made row whose elements own their parts (none so far) -/
theorem po_make_deep {t e : TypeId} {sz bytes : Nat} {z : List D} {l c : Operand} {n : Nat} (ho : o.op = .makeSlice t l c) (ht : tiB P t (.slc e sz bytes z) = true) (hl : s.get l = .d (.int .i64 (n : Int))) (hc : s.get c = .d (.int .i64 (n : Int))) (hn : n ≤ 1048576)
    (hK : K (AS.put ⟨s.fr, (s.nx, .deep 0 e sz (List.replicate n z)) :: s.hp, s.nx + 1⟩ o.dst (.row s.nx n))) : PO P o s K :=
  PO.mk fun X0 w0 m a w hs => by
    obtain ⟨h1, ⟨i, v, h4, h5, h5b, h6, h7⟩, h8, h9, h10, _⟩ := tiB_slc ht
    obtain ⟨g1, g2⟩ := zB_tr h7
    have e1 := hs.get l
    have e2 := hs.get c
    rw [hl] at e1
    rw [hc] at e2
    have hb : (i.bytes : Int) * (n : Int) ≤ 281474976710656 := by
      have h : i.bytes * n ≤ 256 * 1048576 := Nat.mul_le_mul (by omega) hn
      have h' : ((i.bytes * n : Nat) : Int) ≤ 281474976710656 := by omega
      rwa [Int.natCast_mul] at h'
    have hr := run_make (P := P) w t e i v h1 h4 h6 .i64 .i64 n n (by omega) (by omega) hb (by omega)
    simp only [Int.toNat_natCast, h5] at hr
    let nd : Blk := .deep 0 e sz (List.replicate n z)
    have hal : Sim X0 w0 (upd m s.nx (.blk w.heap.size n)) ⟨s.fr, (s.nx, nd) :: s.hp, s.nx + 1⟩ a (w.alloc (.cells (madeCells v.cells (n * sz)) e)) := by
      refine hs.changeD (i := s.nx) (blk' := nd) (F' := fun _ => False) (fun _ => False) (.inl hs.hnx) (by simp [hget]) (fun id hne blk hb => by rw [hget, if_neg hne] at hb; exact hb) rfl (fun id par k j hne ha => ?_) (by omega) (by omega) (KeepB.of_below ((Bel.refl _ _).alloc hs.below.size _)) (fun y hy _ => Below.heap_alloc w _ y hy) (fun y hy => hy.elim) (fun y hy => ?_) (fun p e2 => by have e3 : (none : Option Nat) = some p := e2; cases e3) (fun p ty sz' es e2 => ?_) (fun _ => trivial)
      · rw [hget, if_neg hne] at ha
        obtain ⟨q, ty, sz', es, _, _, _, _, _, _, a1, _⟩ := hs.al id par k j ha
        have hn2 : par ≠ s.nx := fun e3 => by subst e3; rw [hs.hget_nx] at a1; cases a1
        exact .inl ⟨hn2, by rw [hget, if_neg hn2]⟩
      · rcases hy with ⟨c, hc⟩ | hf
        · rw [upd_same] at hc
          cases hc
          exact ⟨.inl hs.below.size, by simp, .inl (Nat.le_refl _)⟩
        · rw [upd_ft] at hf
          exact hf.elim
      · have e3 : Blk.deep 0 e sz (List.replicate n z) = _ := e2
        cases e3
        refine ⟨fun h => h, _, heap_alloc_new w _, size_madeCells _ _, by simp, by unfold maxLen; omega, fun e' he' => by rw [List.eq_of_mem_replicate he']; exact h8, fun _ _ _ => False, fun _ _ _ h => h, fun _ _ _ _ _ h => h.elim, fun k e' j d u hk hj hu => ?_⟩
        have he' : e' = z := List.eq_of_mem_replicate (List.mem_of_getElem? hk)
        subst he'
        have hjlt : j < sz := by rw [← h8]; exact (List.getElem?_eq_some_iff.1 hj).1
        have hsz : v.cells.size = sz := by rw [g1, h8]
        have hlt : k * sz + j < n * sz := by
          have := (Array.getElem?_eq_some_iff.1 hu).1
          rwa [size_madeCells] at this
        have hmod : (k * sz + j) % sz = j := by rw [Nat.mul_comm, Nat.mul_add_mod, Nat.mod_eq_of_lt hjlt]
        have hu2 : v.cells[j]? = some u := by
          simp only [madeCells, Array.getElem?_map] at hu
          rw [Array.getElem?_range] at hu
          simp only [hlt, if_true, Option.map_some, hsz, hmod] at hu
          rw [← hu]
          have hjs : j < v.cells.size := by omega
          simp [hjs]
        exact g2 j d u hj hu2 _ _
    refine ⟨.slice (some ⟨w.heap.size, 0, none⟩) n n, _, _, _, .row s.nx n, ?_, hal, .rowB _ _ w.heap.size n (upd_same _ _ _) (Nat.le_refl _), hK⟩
    simp [execOp, ho, e1.int, e2.int, hr]
end more

/-- a call, left to a contract -/
def CallK (P : Program) (o : Oper) (fid : FuncId) (args : List PV) (refs : Bool) (s : AS) (dst : Option Tmp) (K : AS → Prop) : Prop :=
  (∃ Post : List RV → Prop, FnOK P fid args Post ∧ ∀ rs, Post rs → (refs = true → ∀ r ∈ rs, r.flat) ∧ K (AS.put ⟨s.fr, hps s.nx rs ++ s.hp, s.nx + rs.length⟩ dst (resPV s.nx rs))) ∨ PO P o s K
theorem CallK.po {P : Program} {o : Oper} {fid : FuncId} {args : List PV} {refs : Bool} {s : AS} {dst : Option Tmp} {K : AS → Prop} (h : PO P o s K) : CallK P o fid args refs s dst K := .inr h
/-- a contract with one answer -/
abbrev FnEq (P : Program) (f : FuncId) (args : List PV) (rs : List RV) : Prop := FnOK P f args (· = rs)
theorem CallK.eq {P : Program} {o : Oper} {fid : FuncId} {args : List PV} {refs : Bool} {s : AS} {dst : Option Tmp} {K : AS → Prop} {rs : List RV} (h : FnEq P fid args rs) (hf : refs = true → ∀ r ∈ rs, r.flat) (hK : K (AS.put ⟨s.fr, hps s.nx rs ++ s.hp, s.nx + rs.length⟩ dst (resPV s.nx rs))) : CallK P o fid args refs s dst K :=
  .inl ⟨_, h, fun _ e => by subst e; exact ⟨hf, hK⟩⟩
theorem CallK.of {P : Program} {o : Oper} {fid : FuncId} {args : List PV} {refs : Bool} {s : AS} {dst : Option Tmp} {K : AS → Prop} {Post : List RV → Prop} (h : FnOK P fid args Post) (hK : ∀ rs, Post rs → (refs = true → ∀ r ∈ rs, r.flat) ∧ K (AS.put ⟨s.fr, hps s.nx rs ++ s.hp, s.nx + rs.length⟩ dst (resPV s.nx rs))) : CallK P o fid args refs s dst K :=
  .inl ⟨_, h, hK⟩
/-- the value of a plain word -/
def scV : D → Value
  | .int k n => .int k n
  | .bool b => .bool b
  | .str s => .string s
  | .lst _ _ => undef
  | .hole => undef
theorem scV_rd {d : D} (hd : d.sc) (w : World) (X : Nat → Prop) : Rd w X d (scV d) := by
  cases d with
  | int k n => exact .int k n
  | bool b => exact .bool b
  | str b => exact .str b
  | lst => exact hd.elim
  | hole => exact hd.elim
theorem scV_eq {d : D} (hd : d.sc) {w : World} {X : Nat → Prop} {v : Value} (h : Rd w X d v) : v = scV d := by
  cases h with
  | int k n => rfl
  | bool b => rfl
  | str b => rfl
  | nil => exact hd.elim
  | lst => exact hd.elim
  | hole => exact hd.elim
def qPV : List D → PV
  | [x] => .d x
  | xs => .tup (xs.map .d)
/-- a call with plain answers -/
def CallQ (P : Program) (fid : FuncId) (args : List PV) (KP : PV → Prop) : Prop := ∃ xs : List D, (∀ d, d ∈ xs → d.sc) ∧ FnEq P fid args (xs.map .d) ∧ KP (qPV xs)
/-- plain answers, read off -/
def scs : List RV → Option (List D)
  | [] => some []
  | .d (.int k n) :: r => (scs r).map (.int k n :: ·)
  | .d (.bool b) :: r => (scs r).map (.bool b :: ·)
  | .d (.str s) :: r => (scs r).map (.str s :: ·)
  | _ => none
theorem scs_spec : ∀ {rs : List RV} {xs : List D}, scs rs = some xs → rs = xs.map .d ∧ ∀ d, d ∈ xs → d.sc := by
  intro rs
  induction rs with
  | nil => intro xs h; cases h; exact ⟨rfl, by simp⟩
  | cons x r ih =>
    intro xs h
    have key : ∀ d : D, d.sc → x = .d d → (scs r).map (d :: ·) = some xs → x :: r = xs.map .d ∧ ∀ e, e ∈ xs → e.sc := by
      intro d hd hx h
      cases hr : scs r with
      | none => rw [hr] at h; cases h
      | some ys =>
        rw [hr] at h
        cases h
        obtain ⟨h1, h2⟩ := ih hr
        refine ⟨by rw [List.map_cons, ← h1, hx], fun e he => ?_⟩
        rcases List.mem_cons.1 he with h3 | h3
        · rw [h3]; exact hd
        · exact h2 e h3
    cases x with
    | d d =>
      cases d with
      | int k n => exact key (.int k n) (by simp [D.sc]) rfl h
      | bool b => exact key (.bool b) (by simp [D.sc]) rfl h
      | str s => exact key (.str s) (by simp [D.sc]) rfl h
      | lst s es => cases h
      | hole => cases h
    | _ => cases h
theorem CallQ.eqs {P : Program} {fid : FuncId} {args : List PV} {KP : PV → Prop} {rs : List RV} {xs : List D} (h : FnEq P fid args rs) (hx : scs rs = some xs) (hK : KP (qPV xs)) : CallQ P fid args KP := by
  obtain ⟨rfl, h2⟩ := scs_spec hx
  exact ⟨xs, h2, h, hK⟩
theorem CallQ.eq {P : Program} {fid : FuncId} {args : List PV} {KP : PV → Prop} {x : D} (h : FnEq P fid args [.d x]) (hx : x.sc) (hK : KP (.d x)) : CallQ P fid args KP := ⟨[x], by simpa using hx, h, hK⟩
/- what follows a call is left alone by 'simp' -/
@[congr] theorem CallK_congr {P : Program} {o : Oper} {fid : FuncId} {args args' : List PV} {refs refs' : Bool} {s s' : AS} {dst : Option Tmp} {K : AS → Prop} (h1 : args = args') (h2 : refs = refs') (h3 : s = s') : CallK P o fid args refs s dst K = CallK P o fid args' refs' s' dst K := by subst h1 h2 h3; rfl
@[congr] theorem CallQ_congr {P : Program} {fid : FuncId} {args args' : List PV} {KP : PV → Prop} (h1 : args = args') : CallQ P fid args KP = CallQ P fid args' KP := by subst h1; rfl
@[congr] theorem PO_congr {P : Program} {o : Oper} {s s' : AS} {K : AS → Prop} (h : s = s') : PO P o s K = PO P o s' K := by subst h; rfl
@[congr] theorem PQ_congr {P : Program} {o : Oper} {s s' : AS} {KP : PV → Prop} (h : s = s') : PQ P o s KP = PQ P o s' KP := by subst h; rfl
/-- a test that is not decided yet -/
def pK (b : Bool) (A B : Prop) : Prop := (b = true → A) ∧ (b = false → B)
theorem pK_true (A B : Prop) : pK true A B = A := by simp [pK]
theorem pK_false (A B : Prop) : pK false A B = B := by simp [pK]
theorem pK_mk {b : Bool} {A B : Prop} (h1 : b = true → A) (h2 : b = false → B) : pK b A B := ⟨h1, h2⟩
def binK (P : Program) (G : List (Nat × TI)) (o : Oper) (op : BinOp) (t : TypeId) (x y : PV) (s : AS) (KP : PV → Prop) : Prop :=
  match x, y with
  | .d (.int k a), .d (.int k' b) => (match op with
    | .shr => 0 ≤ b ∧ KP (.d (.int k (a.fdiv (2 ^ (min b.toNat k.bits)))))
    | op => k = k' ∧ intK op k a b KP)
  | .d (.bool a), .d (.bool b) => tget G t = some .bol ∧ boolK op a b KP
  | .d (.str a), .d (.str b) => strK op a b KP
  | _, _ => PQ P o s KP
def loadK (P : Program) (G : List (Nat × TI)) (o : Oper) (t : TypeId) (x : PV) (s : AS) (KP : PV → Prop) : Prop :=
  match tget G t, rdCells s x with
  | some ti, some cs => (match ti.cells with
    | none => (match x with
      | .rptr _ _ _ _ => (match cs[0]? with
        | some PV.und => PQ P o s KP
        | some y => KP y
        | none => False)
      | _ => (match cs[0]? with
        | some y => KP y
        | none => False))
    | some n => n ≤ cs.length ∧ KP (.agg (cs.take n)))
  | _, _ => PQ P o s KP
def idxK (P : Program) (G : List (Nat × TI)) (o : Oper) (t : TypeId) (x i : PV) (s : AS) (KP : PV → Prop) : Prop :=
  match tget G t, i with
  | some (.slc _ sz _ _), .d (.int _ n) => 0 ≤ n ∧ (match idxP sz n.toNat x with
    | some y => KP y
    | none => False)
  | some (.arr len sz _), .d (.int _ n) => 0 ≤ n ∧ n < len ∧ (match ptrAdd (n.toNat * sz) x with
    | some y => KP y
    | none => False)
  | _, _ => PQ P o s KP
def sliceK (P : Program) (G : List (Nat × TI)) (o : Oper) (t : TypeId) (x : PV) (lo hi : Option Operand) (s : AS) (KP : PV → Prop) : Prop :=
  match tget G t with
  | some (.slc _ sz _ _) => (match lenP x with
    | some n => (match bnd s 0 lo, bnd s n hi with
      | some l, some h => 0 ≤ l ∧ l ≤ h ∧ h ≤ n ∧ (match slP sz l.toNat h.toNat x with
        | some y => KP y
        | none => False)
      | _, _ => False)
    | none => False)
  | some .str => (match x with
    | .d (.str b) => (match bnd s 0 lo, bnd s b.size hi with
      | some l, some h => 0 ≤ l ∧ l ≤ h ∧ h ≤ b.size ∧ KP (.d (.str (b.extract l.toNat h.toNat)))
      | _, _ => False)
    | _ => False)
  | _ => PQ P o s KP
def builtinK (P : Program) (G : List (Nat × TI)) (o : Oper) (b : Builtin) (args : List Operand) (ts : List TypeId) (s : AS) (KP : PV → Prop) : Prop :=
  match b, args, ts with
  | .len, [x], [t] => (match tget G t, s.get x with
    | some .str, .d (.str b) => KP (.d (.int .i64 b.size))
    | some (.slc _ _ _ _), x => (match lenP x with
      | some n => KP (.d (.int .i64 n))
      | none => False)
    | _, _ => False)
  | .min, [x, y], _ => (match s.get x, s.get y with
    | .d (.int k a), .d (.int k' b) => k = k' ∧ KP (.d (.int k (min a b)))
    | _, _ => False)
  | .max, [x, y], _ => (match s.get x, s.get y with
    | .d (.int k a), .d (.int k' b) => k = k' ∧ KP (.d (.int k (max a b)))
    | _, _ => False)
  | _, _, _ => PQ P o s KP
/-- operations that yield a value and leave memory alone -/
def quietK (P : Program) (G : List (Nat × TI)) (o : Oper) (s : AS) (KP : PV → Prop) : Prop :=
  match o.op with
  | .move x => KP (s.get x)
  | .assign x => KP (s.get x)
  | .pick c x y => (match s.get c with
    | .d (.bool b) => pK b (KP (s.get x)) (KP (s.get y))
    | _ => False)
  | .build t parts => (match tget G t with
    | some (.st _ fs z) => (match fillPV (fs[·]?) (z.map .d) (parts.toList.map fun p => (p.1, s.get p.2)) with
      | some cs => KP (.agg cs)
      | none => False)
    | some (.arr _ _ z) => parts.toList = [] ∧ KP (.agg (z.map .d))
    | _ => PQ P o s KP)
  | .load t x => loadK P G o t (s.get x) s KP
  | .nilCheck x => isPtr (s.get x) = true ∧ KP (s.get x)
  | .binOp op t x y _ => binK P G o op t (s.get x) (s.get y) s KP
  | .unOp .not _ x => (match s.get x with
    | .d (.bool b) => KP (.d (.bool !b))
    | _ => False)
  | .unOp .neg _ x => (match s.get x with
    | .d (.int k n) => arK k (0 - n) KP
    | _ => False)
  | .convert src dst x => (match tget G src, tget G dst, s.get x with
    | some _, some (.num k), .d (.int _ n) => arK k n KP
    | _, _, _ => PQ P o s KP)
  | .fieldAddr t x f => (match tget G t with
    | some (.st _ fs _) => (match fs[f]? with
      | some fo => (match ptrAdd fo.1 (s.get x) with
        | some y => KP y
        | none => False)
      | none => False)
    | _ => PQ P o s KP)
  | .indexAddr t x i => idxK P G o t (s.get x) (s.get i) s KP
  | .index t x i => (match tget G t, s.get x, s.get i with
    | some .str, .d (.str b), .d (.int _ n) => 0 ≤ n ∧ (match b[n.toNat]? with
      | some u => KP (.d (.int .u8 u.toNat))
      | none => False)
    | _, _, _ => PQ P o s KP)
  | .slice t x lo hi none => sliceK P G o t (s.get x) lo hi s KP
  | .extract x i => (match s.get x with
    | .tup xs => (match xs[i]? with
      | some y => KP y
      | none => False)
    | _ => False)
  | .makeFunc fn first caps => (match fn with
    | .func f => first.toList = [] ∧ KP (.fn f (caps.toList.map s.get))
    | _ => PQ P o s KP)
  | .call c => (match c.callee with
    | .value f => (match s.get f with
      | .fn fid caps => CallQ P fid ((c.args.toList.map s.get ++ caps).map (ta2 s.hp)) KP
      | _ => False)
    | .builtin b => builtinK P G o b c.args.toList c.argTypes.toList s KP
    | _ => PQ P o s KP)
  | _ => PQ P o s KP
def storeK (P : Program) (G : List (Nat × TI)) (o : Oper) (t : TypeId) (p x : PV) (s : AS) (K : AS → Prop) : Prop :=
  match tget G t, p with
  | some ti, .bptr id off => (match hget s.hp id with
    | some (.box ty cs) => (cellsPV x).all onePV = true ∧ (cellsPV x).length = ti.size ∧ off + ti.size ≤ cs.length ∧ K (AS.put ⟨s.fr, hset s.hp id (.box ty (spl cs off (cellsPV x))), s.nx⟩ o.dst .und)
    | some (.pbox q ty cs) => (cellsPV x).all onePV = true ∧ (cellsPV x).length = ti.size ∧ off + ti.size ≤ cs.length ∧ K (AS.put ⟨s.fr, hset s.hp id (.pbox q ty (spl cs off (cellsPV x))), s.nx⟩ o.dst .und)
    | _ => False)
  | some ti, .rptr id sz k off => (match hget s.hp id, dsOf (cellsPV x) with
    | some (.row ty sz' es), some ds => sz' = sz ∧ (match es[k]? with
      | some e => ds.length = ti.size ∧ off + ti.size ≤ e.length ∧ K (AS.put ⟨s.fr, hset s.hp id (.row ty sz (es.set k (spl e off ds))), s.nx⟩ o.dst .und)
      | none => False)
    | _, _ => PO P o s K)
  | _, _ => PO P o s K
def appendK (P : Program) (G : List (Nat × TI)) (o : Oper) (t : TypeId) (x y : PV) (s : AS) (K : AS → Prop) : Prop :=
  match tget G t, x with
  | some (.slc e sz _ _), .row id n => (match hget s.hp id, srcL s.hp y with
    | some (.row ty sz1 es), some (sz2, fs) => ty = e ∧ sz1 = sz ∧ sz2 = sz ∧ es.length = n ∧ es.length + fs.length ≤ 16777216 ∧ K (AS.put ⟨s.fr, (s.nx, .row e sz (es ++ fs)) :: hdel s.hp id, s.nx + 1⟩ o.dst (.row s.nx (n + fs.length)))
    | _, _ => PO P o s K)
  | _, _ => False
def mvK (G : List (Nat × TI)) (o : Oper) (x : Operand) (s : AS) (K : AS → Prop) : Prop :=
  match x with
  | .const (.slice none 0 0) => (match tget G o.type with
    | some (.slc e sz _ _) => K (AS.put ⟨s.fr, (s.nx, .row e sz []) :: s.hp, s.nx + 1⟩ o.dst (.row s.nx 0))
    | _ => K (s.put o.dst .und))
  | x => K (s.put o.dst (s.get x))
def exec (P : Program) (G : List (Nat × TI)) (o : Oper) (s : AS) (K : AS → Prop) : Prop :=
  match o.op with
  | .move x => mvK G o x s K
  | .assign x => mvK G o x s K
  | .alloc t => (match tget G t with
    | some (.st _ _ z) => K (AS.put ⟨s.fr, (s.nx, .box t (z.map .d)) :: s.hp, s.nx + 1⟩ o.dst (.bptr s.nx 0))
    | some (.arr _ _ z) => K (AS.put ⟨s.fr, (s.nx, .box t (z.map .d)) :: s.hp, s.nx + 1⟩ o.dst (.bptr s.nx 0))
    | some (.num k) => K (AS.put ⟨s.fr, (s.nx, .box t [.d (.int k 0)]) :: s.hp, s.nx + 1⟩ o.dst (.bptr s.nx 0))
    | _ => PO P o s K)
  | .box t x => (cellsPV (s.get x)).all onePV = true ∧ K (AS.put ⟨s.fr, (s.nx, .box t (cellsPV (s.get x))) :: s.hp, s.nx + 1⟩ o.dst (.bptr s.nx 0))
  | .buildSlice t len parts => (match tget G t with
    | some (.slc e sz _ _) => len * sz ≤ 16777216 ∧ (match fillPV (fun i => some (i * sz, sz)) (List.replicate (len * sz) .und) (parts.toList.map fun p => (p.1, s.get p.2)) with
      | some cs => (match rowIds cs, frzL s.hp cs with
        | [], some ds => K (AS.put ⟨s.fr, (s.nx, .row e sz (chunk sz len ds)) :: hdels s.hp (rowIds cs), s.nx + 1⟩ o.dst (.row s.nx len))
        | _, _ => PO P o s K)
      | none => False)
    | _ => PO P o s K)
  | .load t x => (match tget G t, s.get x with
    | some (.slc _ _ _ _), .rptr id sz k off => (match hget s.hp id with
      | some (.deep _ _ szd es) => szd = sz ∧ (match alC es k off with
        | some (_, es') => K (AS.put ⟨s.fr, (s.nx, .al id k off) :: s.hp, s.nx + 1⟩ o.dst (.row s.nx es'.length))
        | none => False)
      | _ => quietK P G o s fun v => K (s.put o.dst v))
    | _, _ => quietK P G o s fun v => K (s.put o.dst v))
  | .store t p x => storeK P G o t (s.get p) (s.get x) s K
  | .makeSlice t l c => (match tget G t, s.get l, s.get c with
    | some (.slc e sz _ z), .d (.int .i64 n), .d (.int .i64 n') => n = n' ∧ 0 ≤ n ∧ n ≤ 1048576 ∧ (match z.all D.scB with
      | true => K (AS.put ⟨s.fr, (s.nx, .row e sz (List.replicate n.toNat z)) :: s.hp, s.nx + 1⟩ o.dst (.row s.nx n.toNat))
      | false => K (AS.put ⟨s.fr, (s.nx, .deep 0 e sz (List.replicate n.toNat z)) :: s.hp, s.nx + 1⟩ o.dst (.row s.nx n.toNat)))
    | _, _, _ => PO P o s K)
  | .call c => (match c.callee with
    | .value f => (match s.get f with
      | .fn fid caps => CallK P o fid ((c.args.toList.map s.get ++ caps).map (ta2 s.hp)) ((c.args.toList.map s.get ++ caps).any rf2) s o.dst K
      | _ => False)
    | .builtin .append => (match c.args.toList, c.argTypes.toList with
      | [x, y], [t, t'] => t = t' ∧ appendK P G o t (s.get x) (s.get y) s K
      | _, _ => False)
    | .builtin b => builtinK P G o b c.args.toList c.argTypes.toList s fun v => K (s.put o.dst v)
    | _ => PO P o s K)
  | _ => quietK P G o s fun v => K (s.put o.dst v)

theorem mv_sound {P : Program} {G : List (Nat × TI)} {o : Oper} {x : Operand} {s : AS} {K : AS → Prop} (ho : o.op = .move x ∨ o.op = .assign x) (h : mvK G o x s K) : PO P o s K := by
  unfold mvK at h
  split at h
  · split at h
    · exact po_nil ho rfl _ _ h
    · exact PQ.po (PQ.pure _ h fun m X w a _ => ⟨.slice none 0 0, fun u => by rcases ho with h | h <;> simp [execOp, h, Act.eval], .und _⟩)
  · exact PQ.po (pq_move ho h)
section sound
variable {P : Program} {G : List (Nat × TI)} (hG : GOK P G) {o : Oper} {s : AS} {K : AS → Prop} {KP : PV → Prop}
include hG
theorem bin_sound {op : BinOp} {t t' : TypeId} {x y : Operand} (ho : o.op = .binOp op t x y t') (h : binK P G o op t (s.get x) (s.get y) s KP) : PQ P o s KP := by
  generalize hx : s.get x = a at h
  generalize hy : s.get y = b at h
  unfold binK at h
  split at h
  · split at h
    · exact pq_shr ho hx hy h.1 h.2
    · obtain ⟨rfl, h⟩ := h; exact pq_int ho hx hy h
  · exact pq_bool ho (hG _ _ h.1) hx hy h.2
  · exact pq_str ho hx hy h
  · exact h
theorem load_sound {t : TypeId} {x : Operand} (ho : o.op = .load t x) (h : loadK P G o t (s.get x) s KP) : PQ P o s KP := by
  unfold loadK at h
  split at h
  · rename_i ti cs ht hc
    split at h
    · rename_i h1
      split at h
      · split at h
        · exact h
        · rename_i y _ h2; exact pq_load1 ho (hG _ _ ht) h1 hc h2 h
        · exact h.elim
      · split at h
        · rename_i y h2; exact pq_load1 ho (hG _ _ ht) h1 hc h2 h
        · exact h.elim
    · rename_i n h1
      exact pq_loadN ho (hG _ _ ht) h1 hc h.1 h.2
  · exact h
theorem idx_sound {t : TypeId} {x i : Operand} (ho : o.op = .indexAddr t x i) (h : idxK P G o t (s.get x) (s.get i) s KP) : PQ P o s KP := by
  generalize hi : s.get i = q at h
  unfold idxK at h
  split at h
  · rename_i e sz bytes z k n ht
    obtain ⟨h0, h⟩ := h
    split at h
    · rename_i y h1; exact pq_index ho (hG _ _ ht) hi h0 h1 h
    · exact h.elim
  · rename_i len sz z k n ht
    obtain ⟨h0, h1, h⟩ := h
    split at h
    · rename_i y h2; exact pq_index_arr ho (hG _ _ ht) hi h0 h1 h2 h
    · exact h.elim
  · exact h
theorem slice_sound {t : TypeId} {x : Operand} {lo hi : Option Operand} (ho : o.op = .slice t x lo hi none) (h : sliceK P G o t (s.get x) lo hi s KP) : PQ P o s KP := by
  unfold sliceK at h
  split at h
  · rename_i e sz bytes z ht
    split at h
    · rename_i n hn
      split at h
      · rename_i l hh h1 h2
        obtain ⟨h3, h4, h5, h⟩ := h
        split at h
        · rename_i y h6; exact pq_slice ho (hG _ _ ht) hn h1 h2 h3 h4 h5 h6 h
        · exact h.elim
      · exact h.elim
    · exact h.elim
  · rename_i ht
    split at h
    · rename_i b hx
      split at h
      · rename_i l hh h1 h2
        obtain ⟨h3, h4, h5, h6⟩ := h
        exact pq_slice_str ho (hG _ _ ht) hx h1 h2 h3 h4 h5 h6
      · exact h.elim
    · exact h.elim
  · exact h
theorem builtin_sound {b : Builtin} {args : Array Operand} {ts : Array TypeId} (ho : o.op = .call { callee := .builtin b, args := args, argTypes := ts }) (h : builtinK P G o b args.toList ts.toList s KP) : PQ P o s KP := by
  generalize ha : args.toList = asl at h
  generalize ht : ts.toList = us at h
  have ha' : args = asl.toArray := by rw [← ha]
  have ht' : ts = us.toArray := by rw [← ht]
  subst ha' ht'
  unfold builtinK at h
  split at h
  · rename_i x t
    generalize hx : s.get x = q at h
    split at h
    · rename_i ht; exact pq_len_str ho (hG _ _ ht) hx h
    · rename_i e sz by_ z ht
      split at h
      · rename_i n hn; exact pq_len ho (hG _ _ ht) (by rw [hx]; exact hn) h
      · exact h.elim
    · exact h.elim
  · rename_i x y
    generalize hx : s.get x = q at h
    generalize hy : s.get y = r at h
    split at h
    · obtain ⟨rfl, h⟩ := h; exact pq_min ho hx hy h
    · exact h.elim
  · rename_i x y
    generalize hx : s.get x = q at h
    generalize hy : s.get y = r at h
    split at h
    · obtain ⟨rfl, h⟩ := h; exact pq_max ho hx hy h
    · exact h.elim
  · exact h
omit hG in
/-- a call with one plain answer is quiet -/
theorem callQ_sound {f : Operand} {args : Array Operand} {argTypes : Array TypeId} {fid : FuncId} {caps : List PV} (ho : o.op = .call { callee := .value f, args := args, argTypes := argTypes }) (hf : s.get f = .fn fid caps)
    (h : CallQ P fid ((args.toList.map s.get ++ caps).map (ta2 s.hp)) KP) : PQ P o s KP := by
  obtain ⟨xs, hxs, ⟨⟨fn, e1, e2, e3⟩, hcall⟩, hK⟩ := h
  have hread : ∀ (m : Nat → Option Loc) (X : Nat → Prop) (w : World), R m X w (qPV xs) (retV (xs.map scV).toArray) := by
    intro m X w
    have htup : R m X w (.tup (xs.map .d)) (.tuple (xs.map scV).toArray) := by
      refine .tup _ _ (by simp) fun i y u hy hu => ?_
      rw [List.getElem?_map] at hy
      have hu' : (xs.map scV)[i]? = some u := by simpa using hu
      rw [List.getElem?_map] at hu'
      cases hi : xs[i]? with
      | none => rw [hi] at hy; cases hy
      | some d =>
        rw [hi] at hy hu'
        cases hy
        cases hu'
        exact .d _ _ (scV_rd (hxs d (List.mem_of_getElem? hi)) w X)
    match xs, hxs, htup with
    | [], _, htup => simpa [qPV, retV] using htup
    | [x], hxs, _ => simp only [qPV, retV, List.map_cons, List.map_nil, List.size_toArray, List.length_cons, List.length_nil, dif_pos]; exact .d _ _ (scV_rd (hxs x (by simp)) w X)
    | x :: y :: r, _, htup => simpa [qPV, retV] using htup
  refine ⟨qPV xs, fun X0 w0 m a wb hs0 => ⟨retV (xs.map scV).toArray, fun w hb => ?_, fun w hb => hread _ _ _⟩, hK⟩
  have hs := hs0.later hb
  have hfv := hs.get f
  rw [hf] at hfv
  obtain ⟨vs, hl, hvs, hfe⟩ : ∃ vs : Array Value, vs.size = caps.length ∧ (∀ (i : Nat) (x : PV) (v : Value), caps[i]? = some x → vs[i]? = some v → R m (Owned X0 m s.hp) w x v) ∧ a.eval f = .func (.func fid) #[] vs := by
    generalize a.eval f = v at hfv
    cases hfv with
    | fn _ _ vs hl h => exact ⟨vs, hl, h, rfl⟩
  have hrun : (execOp a.eval o).run P w = .ok (.enter fid (args.map a.eval ++ vs)) w := by
    have e2' : ¬ fn.name = "runtime.NumGoroutine" := by simpa using e2
    have e3' : ¬ fn.body = none := fun h => by rw [h] at e3; cases e3
    simp [execOp, ho, resolve, hfe, Deferred.ofValue, invoke, callFunc, e1]
    rw [if_neg e2', if_neg e3']
  have hall : ∀ (i : Nat) (x : PV) (v : Value), (args.toList.map s.get ++ caps)[i]? = some x → (args.map a.eval ++ vs)[i]? = some v → R m (Owned X0 m s.hp) w x v := by
    intro i x v hx hv
    by_cases hi : i < args.size
    · rw [List.getElem?_append_left (by simpa using hi), List.getElem?_map] at hx
      rw [Array.getElem?_append_left (by simpa using hi), Array.getElem?_map] at hv
      have h6 : args[i]? = some args[i] := by simp [hi]
      have h7 : args.toList[i]? = some args[i] := by simp [hi]
      rw [h6] at hv
      rw [h7] at hx
      cases hv
      cases hx
      exact hs.get _
    · rw [List.getElem?_append_right (by simp; omega)] at hx
      rw [Array.getElem?_append_right (by simp; omega)] at hv
      simp only [List.length_map, Array.length_toList] at hx
      simp only [Array.size_map] at hv
      exact hvs _ x v hx hv
  unfold Oper.quietAt
  rw [hrun]
  refine ⟨rfl, (hcall w (fun _ => False) _ hs.glob (fun b h => h.elim) (by simp [hl]) fun i x v hx hv => ?_).mono ?_⟩
  · rw [List.getElem?_map] at hx
    cases hi : (args.toList.map s.get ++ caps)[i]? with
    | none => rw [hi] at hx; cases hx
    | some y =>
      rw [hi] at hx
      cases hx
      exact ta2_R hs (fun b _ _ => ⟨rfl, fun h => h⟩) (fun _ b h => h) (hall i y v hi hv)
  · rintro e w' ⟨rs, rfl, us, gs, he, hsz, hbel, _, hR⟩
    rw [List.length_map] at hsz
    have hus : us = (xs.map scV).toArray := by
      apply Array.ext
      · simp [hsz]
      · intro i hi hi2
        have hlt : i < xs.length := by omega
        have h2 := hR i (.d xs[i]) us[i] (by simp [hlt]) (by simp [hi])
        generalize gs i = g0 at h2
        have h3 : us[i] = scV xs[i] := by
          cases h2 with
          | d _ _ h => exact scV_eq (hxs _ (List.getElem_mem hlt)) h
        simp [h3]
    subst hus
    exact ⟨he, hb.trans (hbel.mono hb.size)⟩
theorem quiet_sound (h : quietK P G o s KP) : PQ P o s KP := by
  unfold quietK at h
  split at h
  · rename_i x ho; exact pq_move (.inl ho) h
  · rename_i x ho; exact pq_move (.inr ho) h
  · rename_i c x y ho
    split at h
    · rename_i b hc; exact pq_pick ho hc h.1 h.2
    · exact h.elim
  · rename_i t parts ho
    split at h
    · rename_i n fs z ht
      split at h
      · rename_i cs h1; exact pq_build ho (hG _ _ ht) h1 h
      · exact h.elim
    · rename_i l sz z ht
      obtain ⟨h1, h2⟩ := h
      have : parts = #[] := Array.ext' (by simpa using h1)
      subst this
      exact pq_build_arr ho (hG _ _ ht) h2
    · exact h
  · rename_i t x ho; exact load_sound hG ho h
  · rename_i x ho; exact pq_nilCheck ho h.1 h.2
  · rename_i op t x y t' ho; exact bin_sound hG ho h
  · rename_i t x ho
    split at h
    · rename_i b hx; exact pq_not ho hx h
    · exact h.elim
  · rename_i t x ho
    split at h
    · rename_i k n hx; exact pq_neg ho hx h
    · exact h.elim
  · rename_i src dst x ho
    split at h
    · rename_i ti k k' n hs hd hx; exact pq_convert ho (hG _ _ hs) (hG _ _ hd) hx h
    · exact h
  · rename_i t x f ho
    split at h
    · rename_i n fs z ht
      split at h
      · rename_i fo h1
        split at h
        · rename_i y h2; exact pq_field ho (hG _ _ ht) h1 h2 h
        · exact h.elim
      · exact h.elim
    · exact h
  · rename_i t x i ho; exact idx_sound hG ho h
  · rename_i t x i ho
    split at h
    · rename_i b k n ht hx hi
      obtain ⟨h0, h⟩ := h
      split at h
      · rename_i u h1; exact pq_index_str ho (hG _ _ ht) hx hi h0 h1 h
      · exact h.elim
    · exact h
  · rename_i t x lo hi ho; exact slice_sound hG ho h
  · rename_i x i ho
    split at h
    · rename_i xs hx
      split at h
      · rename_i y h1; exact pq_extract ho hx h1 h
      · exact h.elim
    · exact h.elim
  · rename_i fn first caps ho
    split at h
    · obtain ⟨h1, h2⟩ := h
      have : first = #[] := Array.ext' (by simpa using h1)
      subst this
      exact pq_func ho h2
    · exact h
  · rename_i c ho
    obtain ⟨callee, args, ts⟩ := c
    simp only at h
    split at h
    · rename_i f
      split at h
      · rename_i fid caps hf; exact callQ_sound ho hf h
      · exact h.elim
    · exact builtin_sound hG ho h
    · exact h
  · exact h
theorem store_sound {t : TypeId} {p x : Operand} (ho : o.op = .store t p x) (h : storeK P G o t (s.get p) (s.get x) s K) : PO P o s K := by
  generalize hp : s.get p = q at h
  unfold storeK at h
  split at h
  · rename_i ti id off ht
    split at h
    · rename_i ty cs hg
      obtain ⟨h1, h2, h3, h4⟩ := h
      exact po_store_box ho (hG _ _ ht) hp hg (List.all_eq_true.1 h1) h2 h3 h4
    · rename_i q ty cs hg
      obtain ⟨h1, h2, h3, h4⟩ := h
      exact po_store_pbox ho (hG _ _ ht) hp hg (List.all_eq_true.1 h1) h2 h3 h4
    · exact h.elim
  · rename_i ti id sz k off ht
    split at h
    · rename_i ty sz' es ds hg hd
      obtain ⟨rfl, h⟩ := h
      split at h
      · rename_i e h1
        obtain ⟨h2, h3, h4⟩ := h
        exact po_store_row ho (hG _ _ ht) hp hg h1 hd h2 h3 h4
      · exact h.elim
    · exact h
  · exact h
theorem append_sound {t : TypeId} {x y : Operand} (ho : o.op = .call { callee := .builtin .append, args := #[x, y], argTypes := #[t, t] }) (h : appendK P G o t (s.get x) (s.get y) s K) : PO P o s K := by
  generalize hx : s.get x = q at h
  unfold appendK at h
  split at h
  · rename_i e sz bytes z id n ht
    split at h
    · rename_i ty sz1 es sz2 fs hg hy
      obtain ⟨h1, rfl, rfl, h4, h5, h6⟩ := h
      exact po_append ho (hG _ _ ht) hx hg h1 h4 hy h5 h6
    · exact h
  · exact h.elim
theorem exec_sound (h : exec P G o s K) : PO P o s K := by
  unfold exec at h
  split at h
  · rename_i x ho; exact mv_sound (.inl ho) h
  · rename_i x ho; exact mv_sound (.inr ho) h
  · rename_i t ho
    split at h
    · rename_i n fs z ht
      obtain ⟨_, i, v, h1, _, h2, h3, _⟩ := tiB_st (hG _ _ ht)
      exact po_alloc ho ⟨i, v, h1, h2, h3⟩ h
    · rename_i l sz z ht
      obtain ⟨_, i, v, h1, _, h2, h3, _⟩ := tiB_arr (hG _ _ ht)
      exact po_alloc ho ⟨i, v, h1, h2, h3⟩ h
    · rename_i k ht
      obtain ⟨_, i, v, h1, _, h2, h3⟩ := tiB_num (hG _ _ ht)
      exact po_alloc (z := [.int k 0]) ho ⟨i, v, h1, h2, h3⟩ h
    · exact h
  · rename_i t x ho; exact po_box ho (List.all_eq_true.1 h.1) h.2
  · rename_i t len parts ho
    split at h
    · rename_i e sz by_ z ht
      obtain ⟨h0, h⟩ := h
      split at h
      · rename_i cs h1
        split at h
        · rename_i ds h3 h2; exact po_buildSlice ho (hG _ _ ht) h0 h1 h2 h
        · exact h
      · exact h.elim
    · exact h
  · rename_i t x ho
    have hq : (quietK P G o s fun v => K (s.put o.dst v)) → PO P o s K := fun h => PQ.po (quiet_sound hG h)
    split at h
    · rename_i e sz by_ z id sz' k off ht hx
      split at h
      · rename_i q ty szd es hg
        obtain ⟨rfl, h⟩ := h
        split at h
        · rename_i sz2 es' hal
          exact po_load_al ho (hG _ _ ht) rfl hx hg hal h
        · exact h.elim
      · exact hq h
    · exact hq h
  · rename_i t p x ho; exact store_sound hG ho h
  · rename_i t l c ho
    split at h
    · rename_i e sz by_ z n n' ht hl hc
      obtain ⟨rfl, h0, h1, h2⟩ := h
      have e : ((n.toNat : Nat) : Int) = n := Int.toNat_of_nonneg h0
      split at h2
      · exact po_make (n := n.toNat) ho (hG _ _ ht) (by rw [hl, e]) (by rw [hc, e]) (by omega) h2
      · exact po_make_deep (n := n.toNat) ho (hG _ _ ht) (by rw [hl, e]) (by rw [hc, e]) (by omega) h2
    · exact h
  · rename_i c ho
    obtain ⟨callee, args, ts⟩ := c
    simp only at h
    split at h
    · rename_i f
      split at h
      · rename_i fid caps hf
        rcases h with ⟨Post, h1, h2⟩ | h
        · exact po_call ho hf h1 h2
        · exact h
      · exact h.elim
    · generalize ha : args.toList = asl at h
      generalize ht : ts.toList = us at h
      have ha' : args = asl.toArray := by rw [← ha]
      have ht' : ts = us.toArray := by rw [← ht]
      subst ha' ht'
      split at h
      · obtain ⟨rfl, h⟩ := h; exact append_sound hG ho h
      · exact h.elim
    · exact PQ.po (builtin_sound hG ho h)
    · exact h
  · exact PQ.po (quiet_sound hG h)
end sound

/-- a slot whose bool is known now -/
def AS.setB (s : AS) (ops : Array Oper) (j : Nat) (b : Bool) : AS := match (ops[j]?).bind (·.dst) with
  | some t => { s with fr := ⟨s.fr.n, upl s.fr.l t (.d (.bool b))⟩ }
  | none => s
theorem setB_same {ops : Array Oper} {s : AS} {j : Nat} {b : Bool} (h : yB ops s j = .d (.bool b)) : s.setB ops j b = s := by
  unfold yB at h
  unfold AS.setB
  split at h
  · rename_i t ht
    rw [ht]
    have : upl s.fr.l t (.d (.bool b)) = s.fr.l := upl_same h
    simp only [this]
  · cases h
def execL (P : Program) (G : List (Nat × TI)) (ops : Array Oper) : List Oper → (AS → Prop) → AS → Prop
  | [], K, s => K s
  | o :: rest, K, s => match o.guard with
    | none => exec P G o s (execL P G ops rest K)
    | some (j, want) => (match yB ops s j with
      | .d (.bool b) => pK (b == want) (exec P G o (s.setB ops j want) (execL P G ops rest K)) (execL P G ops rest K ((s.setB ops j !want).put o.dst (.tup [])))
      | .tup [] => execL P G ops rest K (s.put o.dst (.tup []))
      | _ => False)
theorem PO.mono {P : Program} {o : Oper} {s : AS} {K K' : AS → Prop} (h : PO P o s K) (hk : ∀ s, K s → K' s) : PO P o s K' := fun X0 w0 m a w Q hs =>
  Oper.wp_mono (fun _ _ ⟨m', s', h1, h2⟩ => ⟨m', s', hk s' h1, h2⟩) (h X0 w0 m a w Q hs)
theorem execL_sound {P : Program} {G : List (Nat × TI)} (hG : GOK P G) {ops : Array Oper} : ∀ (l : List Oper) (K : AS → Prop) (s : AS), execL P G ops l K s → PL P ops l K s
  | [], K, s, h => h
  | o :: rest, K, s, h => by
    simp only [execL] at h
    simp only [PL]
    split at h
    · rename_i hg
      rw [hg]
      exact (exec_sound hG h).mono fun s' h' => execL_sound hG rest K s' h'
    · rename_i j want hg
      rw [hg]
      split at h
      · rename_i b hb
        obtain ⟨h1, h2⟩ := h
        refine .inl ⟨b, hb, fun e => ?_, fun e => ?_⟩
        · subst e
          rw [setB_same hb] at h1
          exact (exec_sound hG (h1 (by simp))).mono fun s' h' => execL_sound hG rest K s' h'
        · have e2 : b = !want := by cases b <;> cases want <;> simp_all
          rw [← e2, setB_same hb] at h2
          exact execL_sound hG rest K _ (h2 (by simpa using e))
      · rename_i hb
        exact .inr ⟨hb, execL_sound hG rest K _ h⟩
      · exact h.elim
theorem pw_ops {P : Program} {G : List (Nat × TI)} (hG : GOK P G) {Q : Exit → AS → Prop} {s : AS} {id : Nat} {l : List Oper} (h : ∀ K : AS → Prop, (∀ s', Q .normal s' → K s') → execL P G l.toArray l K s) : PW P (.region id l.toArray false) Q s :=
  pw_region (execL_sound hG l _ s (h _ fun _ h => h))
theorem thenA_exit {K : AS → Prop} {Q : Exit → AS → Prop} {id : Nat} {s : AS} (h : Q (.exit id) s) : thenA K Q (.exit id) s := h
theorem thenA_ret {K : AS → Prop} {Q : Exit → AS → Prop} {s : AS} (h : Q .ret s) : thenA K Q .ret s := h
theorem thenA_normal {K : AS → Prop} {Q : Exit → AS → Prop} {s : AS} (h : K s) : thenA K Q .normal s := h
theorem inBlockA_same {Q : Exit → AS → Prop} {id : Nat} {s : AS} (h : Q .normal s) : inBlockA id Q (.exit id) s := by simpa [inBlockA] using h
theorem inBlockA_other {Q : Exit → AS → Prop} {id id' : Nat} {s : AS} (hne : id' ≠ id) (h : Q (.exit id') s) : inBlockA id Q (.exit id') s := by simpa [inBlockA, hne] using h
theorem inBlockA_ret {Q : Exit → AS → Prop} {id : Nat} {s : AS} (h : Q .ret s) : inBlockA id Q .ret s := h
theorem inBlockA_normal {Q : Exit → AS → Prop} {id : Nat} {s : AS} (h : Q .normal s) : inBlockA id Q .normal s := h
theorem pw_seq_k {P : Program} {Q : Exit → AS → Prop} {s : AS} {x y : Code} (h : ∀ K : AS → Prop, (∀ s', PW P y Q s' → K s') → PW P x (thenA K Q) s) : PW P (.seq x y) Q s := pw_seq (h _ fun _ h => h)
end Go.Proofs.YthocihmhljmgdaaGreatDoor
