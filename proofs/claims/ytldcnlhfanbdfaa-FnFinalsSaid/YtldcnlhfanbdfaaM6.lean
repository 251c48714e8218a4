/-
  The abstract machine: structs, literals and made rows. No program is named here.
-/
import Derived.Test.YtldcnlhfanbdfaaM5
import Derived.Laws.Tables
import Derived.Laws.NewFold
namespace Go.Proofs.Ytldcnlhfanbdfaa
open Go.RowKit

theorem fold_spl (off : Nat) : ∀ (l : List Value) (k : Nat) (arr : Array Value), off + k + l.length ≤ arr.size →
    (l.zipIdx k).foldl (fun (cs : Array Value) (p : Value × Nat) => cs.setIfInBounds (off + p.2) p.1) arr = (spl arr.toList (off + k) l).toArray
  | [], k, arr, _ => by simp [spl]
  | v :: l, k, arr, h => by
    simp only [List.length_cons] at h
    rw [List.zipIdx_cons, List.foldl_cons, fold_spl off l (k + 1) _ (by simp; omega)]
    congr 1
    apply List.ext_getElem?
    intro j
    rw [spl_get (by simp; omega), spl_get (by simp; omega)]
    simp only [List.length_cons]
    by_cases hj : j = off + k
    · subst hj
      rw [if_neg (by omega), if_pos (by omega)]
      have hlt : off + k < arr.size := by omega
      simp [hlt]
    · by_cases h1 : off + (k + 1) ≤ j ∧ j < off + (k + 1) + l.length
      · rw [if_pos h1, if_pos (by omega)]
        rw [show j - (off + k) = (j - (off + (k + 1))) + 1 by omega]
        simp
      · rw [if_neg h1, if_neg (by omega)]
        have : (arr.toList.set (off + k) v)[j]? = arr.toList[j]? := List.getElem?_set_ne (by omega)
        simpa using this

/-- the values that fill a place -/
def fillPV (place : Nat → Option (Nat × Nat)) : List PV → List (Nat × PV) → Option (List PV)
  | cs, [] => some cs
  | cs, (i, x) :: r => match place i with
    | none => none
    | some (off, size) => if (cellsPV x).length = size ∧ off + size ≤ cs.length ∧ (cellsPV x).all onePV = true then fillPV place (spl cs off (cellsPV x)) r else none

theorem fill_run {m : Nat → Option Loc} {X : Nat → Prop} {w : World} (place : Nat → Option (Nat × Nat)) : ∀ (ps : List (Nat × PV)) (qs : List (Nat × Value)) (cs cs' : List PV) (arr : Array Value), fillPV place cs ps = some cs' →
    ps.map (·.1) = qs.map (·.1) → (∀ (j : Nat) x v, ps[j]? = some x → qs[j]? = some v → R m X w x.2 v.2) → arr.size = cs.length → (∀ (j : Nat) x v, cs[j]? = some x → arr[j]? = some v → R m X w x v ∧ (x = .und ∨ v.oneCell' = true)) →
    ∃ arr', Instr.fill place arr qs = some arr' ∧ arr'.size = cs'.length ∧ cs'.length = cs.length ∧ ∀ (j : Nat) x v, cs'[j]? = some x → arr'[j]? = some v → R m X w x v ∧ (x = .und ∨ v.oneCell' = true)
  | [], qs, cs, cs', arr, h, hk, _, hl, hc => by
    cases h
    have : qs = [] := by simpa using hk.symm
    subst this
    exact ⟨arr, rfl, hl, rfl, hc⟩
  | (i, x) :: ps, [], cs, cs', arr, h, hk, _, hl, hc => by simp at hk
  | (i, x) :: ps, (i', v) :: qs, cs, cs', arr, h, hk, hR, hl, hc => by
    simp only [List.map_cons, List.cons.injEq] at hk
    obtain ⟨rfl, hk⟩ := hk
    simp only [fillPV] at h
    split at h
    · cases h
    · rename_i off size hp
      split at h
      · rename_i hh
        obtain ⟨h1, h2, h3⟩ := hh
        have hone : ∀ y ∈ cellsPV x, onePV y = true := List.all_eq_true.1 h3
        have hx : R m X w x v := hR 0 (i, x) (i, v) rfl rfl
        obtain ⟨g1, g2⟩ := hx.cellsOf hone
        have hfold : v.cells.zipIdx.foldl (fun (cs : Array Value) (p : Value × Nat) => cs.setIfInBounds (off + p.2) p.1) arr = (spl arr.toList off v.cells.toList).toArray := by
          have := fold_spl off v.cells.toList 0 arr (by simp; omega)
          rw [← Array.foldl_toList]
          simpa using this
        have e2 : v.cells.toList.length = (cellsPV x).length := by simpa using g1
        obtain ⟨arr', r1, r2, r3, r4⟩ := fill_run place ps qs (spl cs off (cellsPV x)) cs' (spl arr.toList off v.cells.toList).toArray h hk (fun j x v hx hv => hR (j + 1) x v (by simpa using hx) (by simpa using hv)) (by rw [List.size_toArray, spl_len (by simp; omega), spl_len (by omega)]; simpa using hl) (fun j y u hy hu => by
          have hu' : (spl arr.toList off v.cells.toList)[j]? = some u := by simpa using hu
          rw [spl_get (by simp; omega), e2] at hu'
          rw [spl_get (by omega)] at hy
          split at hy
          · rename_i hin
            rw [if_pos hin] at hu'
            have := g2 (j - off) y u hy (by simpa using hu')
            exact ⟨this.1, .inr this.2⟩
          · rename_i hin
            rw [if_neg hin] at hu'
            exact hc j y u hy (by simpa using hu'))
        refine ⟨arr', ?_, r2, by rw [r3, spl_len (by omega)], r4⟩
        unfold Instr.fill
        rw [hp]
        have hcond : (decide (v.cells.size ≠ size) || decide (off + v.cells.size > arr.size)) = false := by
          simp; omega
        simp only [hcond, Bool.false_eq_true, if_false]
        rw [← r1, ← hfold]
      · cases h

theorem mapM_eq {α β : Type} {g : α → Option β} : ∀ (l : List α) (r : List β), l.length = r.length → (∀ (j : Nat) x y, l[j]? = some x → r[j]? = some y → g x = some y) → l.mapM g = some r
  | [], [], _, _ => by simp
  | x :: l, y :: r, hl, h => by
    have h0 := h 0 x y rfl rfl
    have ih := mapM_eq l r (by simpa using hl) fun j x y hx hy => h (j + 1) x y (by simpa using hx) (by simpa using hy)
    simp [List.mapM_cons, h0, ih]
  | [], _ :: _, hl, _ => by simp at hl
  | _ :: _, [], hl, _ => by simp at hl

section rules
variable {P : Program} {o : Oper} {s : AS} {K : AS → Prop} {KP : PV → Prop}
/-- a struct, field by field -/
theorem pq_build {t : TypeId} {parts : Array (Nat × Operand)} {n : Nat} {fs : List (Nat × Nat)} {z : List D} {cs : List PV} (ho : o.op = .build t parts) (ht : tiB P t (.st n fs z) = true)
    (hf : fillPV (fs[·]?) (z.map .d) (parts.toList.map fun p => (p.1, s.get p.2)) = some cs) (hK : KP (.agg cs)) : PQ P o s KP :=
  PQ.pure _ hK fun m X w a hq => by
    obtain ⟨⟨fields, h1, h2, h3⟩, i, v, h4, h5, h6, h7, h8⟩ := tiB_st ht
    obtain ⟨g1, g2⟩ := zB_rd h7
    have hplace : fields.toList.mapM (fun f => (P.info? f.type).map fun i => (f.offset, i.size)) = some fs := by
      refine mapM_eq _ _ (by simpa using h2) fun j f p hf hp => ?_
      obtain ⟨q1, q2, i', q3, q4⟩ := h3 j f p (by simpa using hf) hp
      rw [q3]
      simp [q1, q4]
    obtain ⟨arr', r1, r2, r3, r4⟩ := fill_run (m := m) (X := X) (w := w) (fs[·]?) _ (parts.toList.map fun p => (p.1, a.eval p.2)) _ _ v.cells hf (by simp) (fun j x u hx hu => by
      rw [List.getElem?_map] at hx hu
      cases hj : parts.toList[j]? with
      | none => rw [hj] at hx; cases hx
      | some p =>
        rw [hj] at hx hu
        cases hx
        cases hu
        exact hq p.2) (by simp [g1]) (fun j x u hx hu => by
      rw [List.getElem?_map] at hx
      cases hj : z[j]? with
      | none => rw [hj] at hx; cases hx
      | some d =>
        rw [hj] at hx
        cases hx
        have := g2 j d u hj hu w X
        exact ⟨.d _ _ this, .inr this.one⟩)
    refine ⟨.agg arr', fun u => ?_, .agg _ _ r2 fun j x u hx hu => (r4 j x u hx hu).1⟩
    have hbuilt : P.built t (parts.map fun p => (p.1, a.eval p.2)).toList = some arr' := by
      unfold Program.built
      simp only [h4, h1, h6, hplace]
      simpa using r1
    have hrun := run_build (P := P) u t (parts.map fun p => (p.1, a.eval p.2)) arr' hbuilt
    simp only [execOp, ho, Sem.run_bind]
    rw [hrun]
    rfl

/-- an array of zeros -/
theorem pq_build_arr {t : TypeId} {len sz : Nat} {z : List D} (ho : o.op = .build t #[]) (ht : tiB P t (.arr len sz z) = true) (hK : KP (.agg (z.map .d))) : PQ P o s KP :=
  PQ.pure _ hK fun m X w a hq => by
    obtain ⟨⟨e, ie, h1, h2, h3⟩, i, v, h4, h5, h6, h7, h8⟩ := tiB_arr ht
    obtain ⟨g1, g2⟩ := zB_rd h7
    have hbuilt : P.built t (#[] : Array (Nat × Value)).toList = some v.cells := by
      unfold Program.built
      simp only [h4, h1, h6, h2]
      rfl
    have hrun := fun u => run_build (P := P) u t #[] v.cells hbuilt
    refine ⟨.agg v.cells, fun u => ?_, .agg _ _ (by simp [g1]) fun j x u hx hu => ?_⟩
    · simp only [execOp, ho, Sem.run_bind, List.map_toArray, List.map_nil]
      rw [hrun]
      rfl
    · rw [List.getElem?_map] at hx
      cases hj : z[j]? with
      | none => rw [hj] at hx; cases hx
      | some d => rw [hj] at hx; cases hx; exact .d _ _ (g2 j d u hj hu w X)

/-- rows that are let go: their values are data from now on -/
def frzD (hp : List (Nat × Blk)) : PV → Option D
  | .d x => some x
  | .row id n => match hget hp id with
    | some (.row _ sz es) => if es.length = n then some (.lst sz es) else none
    | _ => none
  | _ => none
def frzL (hp : List (Nat × Blk)) : List PV → Option (List D)
  | [] => some []
  | x :: r => match frzD hp x, frzL hp r with
    | some d, some l => some (d :: l)
    | _, _ => none
def rowIds : List PV → List Nat
  | [] => []
  | .row id _ :: r => id :: rowIds r
  | _ :: r => rowIds r
def hdels (hp : List (Nat × Blk)) : List Nat → List (Nat × Blk)
  | [] => hp
  | i :: r => hdel (hdels hp r) i
theorem hget_hdels (hp : List (Nat × Blk)) : ∀ (l : List Nat) (j : Nat), hget (hdels hp l) j = if j ∈ l then none else hget hp j
  | [], j => by simp [hdels]
  | i :: r, j => by
    rw [hdels, hget_hdel, hget_hdels hp r j]
    by_cases h : j = i <;> simp [h]
theorem frzL_get {hp : List (Nat × Blk)} : ∀ {xs : List PV} {ds : List D}, frzL hp xs = some ds → ds.length = xs.length ∧ ∀ (j : Nat) x d, xs[j]? = some x → ds[j]? = some d → frzD hp x = some d
  | [], ds, h => by cases h; simp
  | x :: r, ds, h => by
    simp only [frzL] at h
    split at h
    · rename_i d l hd hl
      cases h
      obtain ⟨h1, h2⟩ := frzL_get hl
      refine ⟨by simp [h1], fun j y e hy he => ?_⟩
      cases j with
      | zero => simp at hy he; subst hy he; exact hd
      | succ j => exact h2 j y e (by simpa using hy) (by simpa using he)
    · cases h
theorem rowIds_mem {id n : Nat} : ∀ {xs : List PV}, PV.row id n ∈ xs → id ∈ rowIds xs
  | x :: r, h => by
    rcases List.mem_cons.1 h with h | h
    · subst h; simp [rowIds]
    · have := rowIds_mem h
      cases x <;> simp [rowIds, this]
theorem frzL_rows {hp : List (Nat × Blk)} : ∀ {xs : List PV} {ds : List D}, frzL hp xs = some ds → ∀ id, id ∈ rowIds xs → ∃ ty sz es, hget hp id = some (.row ty sz es)
  | [], ds, h, id, hi => by simp [rowIds] at hi
  | x :: r, ds, h, id, hi => by
    simp only [frzL] at h
    split at h
    · rename_i d l hd hl
      have hrec := frzL_rows hl id
      cases x with
      | row id' n =>
        simp only [rowIds, List.mem_cons] at hi
        rcases hi with rfl | hi
        · simp only [frzD] at hd
          split at hd
          · exact ⟨_, _, _, by assumption⟩
          · cases hd
        · exact hrec hi
      | _ => exact hrec (by simpa [rowIds] using hi)
    · cases h
theorem frz_R {X0 : Nat → Prop} {w0 : Base} {m : Mp} {a : Act} {w : World} (hs : Sim X0 w0 m s a w) {x : PV} {d : D} {ids : List Nat} {v : Value} (hd : frzD s.hp x = some d) (hi : ∀ id n, x = .row id n → id ∈ ids) (hx : R m (Owned X0 m s.hp) w x v) : Rd w (Owned X0 m (hdels s.hp ids)) d v := by
  have hst : Stay w w (Owned X0 m s.hp) (Owned X0 m (hdels s.hp ids)) := by
    intro b _ hb2
    refine ⟨rfl, ?_⟩
    rintro (hx | ⟨id, blk, h1, h2⟩)
    · exact hb2 (.inl hx)
    · rw [hget_hdels] at h1
      split at h1
      · cases h1
      · exact hb2 (.inr ⟨id, blk, h1, h2⟩)
  unfold frzD at hd
  split at hd
  · cases hd; exact hx.rd.mono hst
  · rename_i id n
    split at hd
    · rename_i ty sz es hg
      split at hd
      · rename_i hn
        cases hd
        rcases hx.row_inv with ⟨h1, rfl, rfl⟩ | ⟨b, c, h1, h2, rfl⟩
        · rw [List.eq_nil_of_length_eq_zero hn]; exact .nil _ _ _
        · obtain ⟨arr, hh, hc⟩ := hs.blk hg h1
          have hfree : ¬ Owned X0 m (hdels s.hp ids) b := by
            rintro (hx0 | ⟨id', blk', h3, h4⟩)
            · have h5 := hs.x0 b hx0
              rcases (hs.owns hg h1).1 with h6 | h6
              · omega
              · exact h5.2 h6
            · rw [hget_hdels] at h3
              split at h3
              · cases h3
              · rename_i hni
                have := hs.inj id id' _ _ b hg h3 (Blk.has_root rfl h1) h4
                subst this
                exact hni (hi id n rfl)
          rw [← hn]
          refine .lst sz es b 0 c (by omega) hc.2.2.2.1 (fun k e j d he hd => ?_) (fun k e j d u he hd hu => ?_)
          · obtain ⟨u, q1, _, _⟩ := row_cell hc hh he hd
            exact ⟨hfree, u, by rw [Nat.zero_add]; exact q1⟩
          · obtain ⟨u', q1, _, q3⟩ := row_cell hc hh he hd
            rw [Nat.zero_add, q1] at hu
            cases hu
            exact q3.mono hst
      · cases hd
    · cases hd
  · cases hd

def chunk (sz : Nat) : Nat → List D → List (List D)
  | 0, _ => []
  | n + 1, l => l.take sz :: chunk sz n (l.drop sz)
theorem chunk_len (sz : Nat) : ∀ (n : Nat) (l : List D), (chunk sz n l).length = n
  | 0, _ => rfl
  | n + 1, l => by rw [chunk, List.length_cons, chunk_len sz n]
theorem chunk_get (sz : Nat) : ∀ (n : Nat) (l : List D) (k : Nat) (e : List D), (chunk sz n l)[k]? = some e → e = (l.drop (k * sz)).take sz
  | 0, _, k, e, h => by simp [chunk] at h
  | n + 1, l, 0, e, h => by simp [chunk] at h; simp [h]
  | n + 1, l, k + 1, e, h => by
    have := chunk_get sz n (l.drop sz) k e (by simpa [chunk] using h)
    rw [this, List.drop_drop, Nat.succ_mul, Nat.add_comm sz]

/-- a slice literal -/
theorem po_buildSlice {t e : TypeId} {sz bytes len : Nat} {z ds : List D} {parts : Array (Nat × Operand)} {cs : List PV} (ho : o.op = .buildSlice t len parts) (ht : tiB P t (.slc e sz bytes z) = true) (hlen : len * sz ≤ 16777216)
    (hf : fillPV (fun i => some (i * sz, sz)) (List.replicate (len * sz) .und) (parts.toList.map fun p => (p.1, s.get p.2)) = some cs) (hd : frzL s.hp cs = some ds)
    (hK : K (AS.put ⟨s.fr, (s.nx, .row e sz (chunk sz len ds)) :: hdels s.hp (rowIds cs), s.nx + 1⟩ o.dst (.row s.nx len))) : PO P o s K :=
  PO.mk fun X0 w0 m a w hs => by
    obtain ⟨h1, ⟨i, v, h4, h5, h5b, h6, h7⟩, h8, h9, _⟩ := tiB_slc ht
    obtain ⟨arr', r1, r2, r3, r4⟩ := fill_run (m := m) (X := Owned X0 m s.hp) (w := w) (fun i => some (i * sz, sz)) _ (parts.toList.map fun p => (p.1, a.eval p.2)) _ _ ((Array.range (len * sz)).map (v.cells[· % v.cells.size]!)) hf (by simp) (fun j x u hx hu => by
      rw [List.getElem?_map] at hx hu
      cases hj : parts.toList[j]? with
      | none => rw [hj] at hx; cases hx
      | some p =>
        rw [hj] at hx hu
        cases hx
        cases hu
        exact hs.get p.2) (by simp) (fun j x u hx hu => by
      have hx' : x = .und := by
        have := List.mem_of_getElem? hx
        exact List.eq_of_mem_replicate this
      subst hx'
      exact ⟨.und _, .inl rfl⟩)
    obtain ⟨f1, f2⟩ := frzL_get hd
    have hsize : arr'.size = len * sz := by rw [r2, r3]; simp
    have hdl : ds.length = len * sz := by rw [f1, ← r2, hsize]
    have hkill := hs.kill (hdels s.hp (rowIds cs)) (fun id blk hb => by rw [hget_hdels] at hb; split at hb; cases hb; exact hb) (fun id par k j ha => by
      rw [hget_hdels] at ha
      split at ha
      · cases ha
      · obtain ⟨q, ty, sz, es, _, _, _, _, _, _, a1, _⟩ := hs.al id par k j ha
        rw [hget_hdels]
        split
        · rename_i hmem
          obtain ⟨ty', sz', es', h'⟩ := frzL_rows hd par hmem
          rw [h'] at a1; cases a1
        · rfl)
    have hcell : ∀ (j : Nat) (d : D) (u : Value), ds[j]? = some d → arr'[j]? = some u → Rd w (Owned X0 m (hdels s.hp (rowIds cs))) d u := by
      intro j d u hjd hju
      have hlt : j < cs.length := by rw [← f1]; exact (List.getElem?_eq_some_iff.1 hjd).1
      have hjc := List.getElem?_eq_getElem hlt
      exact frz_R hs (f2 j _ d hjc hjd) (fun id n hrow => rowIds_mem (n := n) (by rw [← hrow]; exact List.getElem_mem hlt)) (r4 j _ u hjc hju).1
    have hal := hkill.alloc (blk := .row e sz (chunk sz len ds)) (arr := arr') (c := len) ⟨hsize, by rw [chunk_len]; exact Nat.le_refl _, by
        have : len ≤ len * sz := Nat.le_mul_of_pos_right _ h9
        unfold maxLen; omega, fun e' he' => by
        obtain ⟨k, hk⟩ := List.getElem?_of_mem he'
        have hkl : k < len := by have := (List.getElem?_eq_some_iff.1 hk).1; rwa [chunk_len] at this
        rw [chunk_get sz len ds k e' hk]
        have : (k + 1) * sz ≤ len * sz := Nat.mul_le_mul_right _ hkl
        rw [Nat.succ_mul] at this
        simp; omega, fun k e' j d u hk hj hu => by
        rw [chunk_get sz len ds k e' hk, List.getElem?_take] at hj
        split at hj
        · rw [List.getElem?_drop] at hj
          exact hcell _ d u hj hu
        · cases hj⟩
    refine ⟨.slice (some ⟨w.heap.size, 0, none⟩) len len, _, _, _, .row s.nx len, ?_, hal, .rowB _ _ w.heap.size len (upd_same _ _ _) (Nat.le_refl _), hK⟩
    have e1 : (parts.map fun p => (p.1, a.eval p.2)).toList = parts.toList.map fun p => (p.1, a.eval p.2) := by simp
    subst h5
    rcases Nat.eq_zero_or_pos (len * i.size) with h0 | h0
    · have hl0 : len = 0 := by
        rcases Nat.eq_zero_or_pos len with h | h
        · exact h
        · have := Nat.mul_pos h h9; omega
      subst hl0
      have hpn : parts.toList = [] := by
        cases hpp : parts.toList with
        | nil => rfl
        | cons p r =>
          exfalso
          rw [hpp] at hf
          simp only [List.map_cons, fillPV] at hf
          split at hf
          · rename_i hh
            have h3 := hh.2.1
            simp at h3
            omega
          · cases hf
      have hpe : parts = #[] := Array.ext' (by simpa using hpn)
      subst hpe
      have : arr' = #[] := Array.eq_empty_of_size_eq_zero (by rw [hsize]; exact h0)
      subst this
      simp [execOp, ho, Instr.buildSlice, run_underlying h1, sizeOf, typeInfo, h4, Instr.fill, newRow, Blk.ty, Array.range_zero']
    · have hsm : ¬ len * i.size > 2 ^ 24 := by simp; omega
      have hpos : ¬ len * i.size = 0 := by omega
      simp only [execOp, ho, Sem.run_bind]
      have hrun : (Instr.buildSlice t len (parts.map fun p => (p.1, a.eval p.2))).run P w = .ok (.slice (some ⟨w.heap.size, 0, none⟩) len len) (w.alloc (.cells arr' e)) := by
        have e2 := e1
        simp only [Instr.buildSlice, Sem.run_bind, run_underlying h1, Result.andThen_ok]
        simp [sizeOf, typeInfo, zeroValue, h4, h6, hsm, hpos, r1, newRow]
      rw [hrun]
      rfl
end rules
end Go.Proofs.Ytldcnlhfanbdfaa
