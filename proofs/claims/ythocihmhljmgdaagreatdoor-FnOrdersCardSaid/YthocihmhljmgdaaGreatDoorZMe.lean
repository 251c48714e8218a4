/-
  The abstract machine: rows that own their parts: parts named, read and written. No program is named here.
-/
import Derived.Test.YthocihmhljmgdaaGreatDoorZM8
namespace Go.Proofs.YthocihmhljmgdaaGreatDoor
open Go.RowKit

def D.scB : D → Bool
  | .lst _ _ => false
  | .hole => false
  | _ => true
theorem D.scB_sc {d : D} (h : d.scB = true) : d.sc := by cases d <;> first | trivial | cases h
theorem Rd.tr {w w' : World} {X F : Nat → Prop} {d : D} {v : Value} (h : Rd w X d v) (hd : d.sc) : Tr w' F d v := by
  cases h with
  | int k n => exact .int _ k n
  | bool b => exact .bool _ b
  | str s => exact .str _ s
  | nil => exact hd.elim
  | lst => exact hd.elim
  | hole => exact hd.elim
/-- a cell of a list of chunks, anew -/
def setC (es : List (List D)) (k j : Nat) (d : D) : List (List D) := match es[k]? with
  | some e => es.set k (e.set j d)
  | none => es

section rules
variable {P : Program} {o : Oper} {s : AS} {K : AS → Prop} {KP : PV → Prop}
/-- a list in a cell of a deep row gets a name -/
theorem Sim.alias_new {X0 : Nat → Prop} {w0 : Base} {m : Mp} {a : Act} {w : World} (hs : Sim X0 w0 m s a w) {id k j : Nat} {l : Loc} (hok : AlOk w (upd m s.nx l) ((s.nx, .al id k j) :: s.hp) s.nx id k j) :
    Sim X0 w0 (upd m s.nx l) ⟨s.fr, (s.nx, .al id k j) :: s.hp, s.nx + 1⟩ a w := by
  have hne : ∀ i blk, hget s.hp i = some blk → i ≠ s.nx := fun i blk h e => by subst e; rw [hs.hget_nx] at h; cases h
  have hold : ∀ i blk, i ≠ s.nx → (hget ((s.nx, .al id k j) :: s.hp) i = some blk ↔ hget s.hp i = some blk) := fun i blk h => by rw [hget, if_neg h]
  have hm := upd_mono (F := fun _ => False) m s.nx l (.inl hs.hnx)
  have hinv : ∀ i blk b, hget ((s.nx, .al id k j) :: s.hp) i = some blk → blk.has (upd m s.nx l) i b → i ≠ s.nx ∧ hget s.hp i = some blk ∧ blk.has m i b := by
    intro i blk b h1 h2
    by_cases e : i = s.nx
    · subst e
      simp only [hget, if_true] at h1
      cases h1
      exact h2.elim
    · exact ⟨e, (hold i blk e).1 h1, (Blk.has_upd e).1 h2⟩
  have hst : Stay w w (Owned X0 m s.hp) (Owned X0 (upd m s.nx l) ((s.nx, .al id k j) :: s.hp)) := by
    intro b _ hb
    refine ⟨rfl, ?_⟩
    rintro (hx | ⟨i, blk, h1, h2⟩)
    · exact hb (.inl hx)
    · obtain ⟨_, h3, h4⟩ := hinv i blk b h1 h2
      exact hb (.inr ⟨i, blk, h3, h4⟩)
  refine hs.step hm (KeepB.refl _ _) hst (fun i blk hi => ?_) (fun i p ty sz es hi => ?_) (fun i par k' j' hi => ?_) (fun i blk p hi hpo => ?_) (fun i i' blk blk' b h1 h2 h3 h4 => ?_) (fun i blk b h1 h2 => ?_) (fun i hi => ?_)
  · by_cases e : i = s.nx
    · subst e
      simp only [hget, if_true] at hi
      cases hi
      exact ⟨l, upd_same m _ l, trivial⟩
    · obtain ⟨l', h1, h2⟩ := hs.hp i blk ((hold i blk e).1 hi)
      exact ⟨l', hm _ _ h1, h2.mono hm hst fun _ _ _ _ => rfl⟩
  · have e : i ≠ s.nx := fun e => by subst e; simp [hget] at hi
    rw [upd_ne m l e, upd_ft_ne m l _ e]
    exact hs.dp i p ty sz es ((hold i _ e).1 hi)
  · by_cases e : i = s.nx
    · subst e
      simp only [hget, if_true] at hi
      cases hi
      exact hok
    · obtain ⟨q, ty, sz, es, e0, sz', es', b, c, arr, a1, a2, a3, a4, a5, a6⟩ := hs.al i par k' j' ((hold i _ e).1 hi)
      have e2 := hne par _ a1
      exact ⟨q, ty, sz, es, e0, sz', es', b, c, arr, (hold par _ e2).2 a1, a2, a3, by rw [upd_ne m l e2]; exact a4, a5, by rw [upd_ne m l e]; exact a6⟩
  · have e : i ≠ s.nx := fun e => by subst e; simp only [hget, if_true] at hi; cases hi; cases hpo
    rw [upd_ne m l e]
    exact hs.pin i blk p ((hold i _ e).1 hi) hpo
  · obtain ⟨_, h5, h6⟩ := hinv i blk b h1 h3
    obtain ⟨_, h7, h8⟩ := hinv i' blk' b h2 h4
    exact hs.inj i i' blk blk' b h5 h7 h6 h8
  · obtain ⟨_, h5, h6⟩ := hinv i blk b h1 h2
    exact hs.own i blk b h5 h6
  · rw [upd_ne m l (by omega)]
    exact hs.nx i (by omega)
/-- a list in a cell of a deep row is loaded -/
theorem po_load_al {t : TypeId} {x : Operand} {ti : TI} {id sz k off q ty sz' : Nat} {es es' : List (List D)} (ho : o.op = .load t x) (ht : tiB P t ti = true) (hc : ti.cells = none) (hx : s.get x = .rptr id sz k off) (hg : hget s.hp id = some (.deep q ty sz es)) (hal : alC es k off = some (sz', es'))
    (hK : K (AS.put ⟨s.fr, (s.nx, .al id k off) :: s.hp, s.nx + 1⟩ o.dst (.row s.nx es'.length))) : PO P o s K :=
  PO.mk fun X0 w0 m a w hs => by
    have h1 := hs.get x
    rw [hx] at h1
    obtain ⟨b, c, hm, he⟩ := h1.rptr_inv
    have hd := hs.dp id q ty sz es hg
    rw [hm] at hd
    obtain ⟨_, arr, h2, h3, h4, h5, h6, Fp, h7, h8, h9⟩ := hd
    obtain ⟨e, g1, g2⟩ : ∃ e, es[k]? = some e ∧ e[off]? = some (.lst sz' es') := by
      unfold alC at hal
      split at hal
      · rename_i e he'
        split at hal
        · rename_i he2; cases hal; exact ⟨e, he', he2⟩
        · cases hal
      · cases hal
    have hkl := (List.getElem?_eq_some_iff.1 g1).1
    have hjl : off < sz := by rw [← h6 e (List.mem_of_getElem? g1)]; exact (List.getElem?_eq_some_iff.1 g2).1
    have hlt : k * sz + off < arr.size := by rw [h3]; exact mul_apart (by omega) hjl
    have hv : arr[k * sz + off]? = some arr[k * sz + off] := by simp [hlt]
    have htr := h9 k e off _ _ g1 g2 hv
    obtain ⟨⟨d, hd1, hd2⟩, _⟩ := ti_one ht hc
    have hcell : w.cell? ⟨b, k * sz + off, none⟩ = some arr[k * sz + off] := by simp [World.cell?, h2, hlt]
    have hrun : (execOp a.eval o).run P w = .ok (.value arr[k * sz + off]) w := by
      simp [execOp, ho, he, Instr.loadAt, Instr.sureAddr, loadVar, run_isAgg hd1, hd2, run_load, hcell]
    have hne : id ≠ s.nx := fun e => by subst e; rw [hs.hget_nx] at hg; cases hg
    have hpar : hget ((s.nx, .al id k off) :: s.hp) id = some (.deep q ty sz es) := by rw [hget, if_neg hne]; exact hg
    generalize hvv : arr[k * sz + off] = v at hv htr hrun
    have key : ∀ l : Loc, ((l = .nil ∧ v = .slice none 0 0) ∨ ∃ b' c', l = .blk b' c' ∧ v = .slice (some ⟨b', 0, none⟩) es'.length c') → Sim X0 w0 (upd m s.nx l) ⟨s.fr, (s.nx, .al id k off) :: s.hp, s.nx + 1⟩ a w := by
      intro l hl
      refine hs.alias_new ⟨q, ty, sz, es, e, sz', es', b, c, arr, hpar, g1, g2, by rw [upd_ne m l hne]; exact hm, h2, ?_⟩
      rw [hv]
      rcases hl with ⟨rfl, rfl⟩ | ⟨b', c', rfl, rfl⟩
      · exact .inl ⟨upd_same _ _ _, rfl⟩
      · exact .inr ⟨b', c', upd_same _ _ _, rfl⟩
    cases htr with
    | nil => exact ⟨_, _, _, _, _, hrun, key .nil (.inl ⟨rfl, rfl⟩), .rowN _ (upd_same _ _ _), hK⟩
    | lst _ _ _ b' c' arr' ty' Fp' q1 q2 q3 q4 => exact ⟨_, _, _, _, _, hrun, key (.blk b' c') (.inr ⟨b', c', rfl, rfl⟩), .rowB _ _ _ _ (upd_same _ _ _) q4, hK⟩
end rules
end Go.Proofs.YthocihmhljmgdaaGreatDoor
namespace Go.Proofs.YthocihmhljmgdaaGreatDoor
open Go.RowKit

/-- an own row or a scalar, as a cell of a row that owns its parts -/
def ownC (hp : List (Nat × Blk)) : PV → Option D
  | .d x => if x.scB = true then some x else none
  | .row id n => match hget hp id with
    | some (.row _ sz es) => if es.length = n then some (.lst sz es) else none
    | some (.deep 0 _ sz es) => if es.length = n then some (.lst sz es) else none
    | _ => none
  | _ => none
def ownL (hp : List (Nat × Blk)) : List PV → Option (List D)
  | [] => some []
  | x :: r => match ownC hp x, ownL hp r with
    | some d, some l => some (d :: l)
    | _, _ => none
/-- rows of the ordinary kind hold scalars only -/
def flatE (es : List (List D)) : Prop := ∀ e, e ∈ es → ∀ d, d ∈ e → d.sc
def flatC (hp : List (Nat × Blk)) : PV → Prop
  | .row id _ => (match hget hp id with
    | some (.row _ _ es) => flatE es
    | _ => True)
  | _ => True
def flatL (hp : List (Nat × Blk)) : List PV → Prop
  | [] => True
  | x :: r => flatC hp x ∧ flatL hp r
theorem ownL_get {hp : List (Nat × Blk)} : ∀ {xs : List PV} {ds : List D}, ownL hp xs = some ds → ds.length = xs.length ∧ ∀ (j : Nat) x d, xs[j]? = some x → ds[j]? = some d → ownC hp x = some d
  | [], ds, h => by cases h; simp
  | x :: r, ds, h => by
    simp only [ownL] at h
    split at h
    · rename_i d l hd hl
      cases h
      obtain ⟨h1, h2⟩ := ownL_get hl
      refine ⟨by simp [h1], fun j y e hy he => ?_⟩
      cases j with
      | zero => simp at hy he; subst hy he; exact hd
      | succ j => exact h2 j y e (by simpa using hy) (by simpa using he)
    · cases h
theorem flatL_get {hp : List (Nat × Blk)} : ∀ {xs : List PV}, flatL hp xs → ∀ x, x ∈ xs → flatC hp x
  | x :: r, h, y, hy => by
    rcases List.mem_cons.1 hy with e | hy
    · subst e; exact h.1
    · exact flatL_get h.2 y hy
/-- the blocks that a cell brings along -/
def cellF (m : Mp) (hp : List (Nat × Blk)) : PV → Nat → Prop
  | .row id _, y => ∃ blk, hget hp id = some blk ∧ blk.has m id y
  | _, _ => False
section
variable {X0 : Nat → Prop} {w0 : Base} {m : Mp} {s : AS} {a : Act} {w : World}
theorem flat_tr {b c sz : Nat} {ty : TypeId} {es : List (List D)} {arr : Array Value} {X F : Nat → Prop} {mm : Nat → Option Loc} (hF : F b) (hh : w.heap[b]? = some (.cells arr ty (0, 0))) (hc : (Blk.row ty sz es).cellsOk mm X w arr c) (hfl : flatE es) : Tr w F (.lst sz es) (.slice (some ⟨b, 0, none⟩) es.length c) := by
  obtain ⟨h1, h2, h3, h4, h5⟩ := hc
  exact .lst F sz es b c arr ty (fun _ _ _ => False) hF hh h1 h2 h3 h4 (fun _ _ _ h => h.elim) (fun _ _ _ _ _ h => h.elim) fun k e j d v he hd hv => (h5 k e j d v he hd hv).tr (hfl e (List.mem_of_getElem? he) d (List.mem_of_getElem? hd))
theorem DpOk.tr {F G : Nat → Prop} {ty : TypeId} {sz b c : Nat} {es : List (List D)} (h : DpOk w F ty sz es (some (.blk b c))) (hb : G b) (hF : ∀ x, F x → G x) : Tr w G (.lst sz es) (.slice (some ⟨b, 0, none⟩) es.length c) := by
  obtain ⟨h1, arr, h2, h3, h4, h5, h6, Fp, h7, h8, h9⟩ := h
  exact .lst G sz es b c arr ty Fp hb h2 h3 h4 h5 h6 (fun k j x hx => ⟨hF x (h7 k j x hx), fun e => h1 (by subst e; exact h7 k j _ hx)⟩) h8 h9
/-- an own row is a cell that owns its parts -/
theorem own_cell (hs : Sim X0 w0 m s a w) {x : PV} {d : D} {v : Value} (hx : ownC s.hp x = some d) (hf : flatC s.hp x) (hR : R m.loc (Owned X0 m s.hp) w x v) : Tr w (cellF m s.hp x) d v := by
  cases x with
  | d x =>
    simp only [ownC] at hx
    split at hx
    · rename_i hsc
      cases hx
      exact hR.rd.tr (D.scB_sc hsc)
    · cases hx
  | row id n =>
    simp only [ownC] at hx
    split at hx
    · rename_i ty sz es hg
      split at hx
      · rename_i hl
        cases hx
        simp only [flatC, hg] at hf
        rcases hR.row_inv with ⟨h1, h2, rfl⟩ | ⟨b, c, h1, h2, rfl⟩
        · rw [List.eq_nil_of_length_eq_zero (show es.length = 0 by omega)]
          exact .nil _ _
        · obtain ⟨arr, hh, hc⟩ := hs.blk hg h1
          rw [← hl]
          exact flat_tr ⟨_, hg, c, h1⟩ hh hc hf
      · cases hx
    · rename_i ty sz es hg
      split at hx
      · rename_i hl
        cases hx
        have hd := hs.dp id 0 ty sz es hg
        rcases hR.row_inv with ⟨h1, h2, rfl⟩ | ⟨b, c, h1, h2, rfl⟩
        · rw [List.eq_nil_of_length_eq_zero (show es.length = 0 by omega)]
          exact .nil _ _
        · rw [h1] at hd
          rw [← hl]
          exact hd.tr ⟨_, hg, .inl ⟨c, h1⟩⟩ fun y hy => ⟨_, hg, .inr hy⟩
      · cases hx
    · cases hx
  | _ => cases hx
theorem cellF_inv {x : PV} {y : Nat} (h : cellF m s.hp x y) : ∃ id n blk, x = .row id n ∧ hget s.hp id = some blk ∧ blk.has m id y := by
  cases x with
  | row id n => obtain ⟨blk, h1, h2⟩ := h; exact ⟨id, n, blk, rfl, h1, h2⟩
  | _ => exact h.elim
theorem rowIds_inj : ∀ {xs : List PV}, (rowIds xs).Nodup → ∀ (i j : Nat) id n n', xs[i]? = some (.row id n) → xs[j]? = some (.row id n') → i = j
  | [], _, i, j, id, n, n', h, _ => by simp at h
  | x :: r, hn, i, j, id, n, n', h, h' => by
    have hr : (rowIds r).Nodup := by
      cases x <;> simp only [rowIds] at hn <;> first | exact hn | exact (List.nodup_cons.1 hn).2
    have hx : ∀ (k q q' : Nat), r[k]? = some (PV.row id q) → x ≠ PV.row id q' := by
      intro k q q' hk e
      have hmem := rowIds_mem (List.mem_of_getElem? hk)
      subst e
      simp only [rowIds, List.nodup_cons] at hn
      exact hn.1 hmem
    cases i with
    | zero =>
      cases j with
      | zero => rfl
      | succ j => simp at h h'; exact absurd h (hx j n' n h')
    | succ i =>
      cases j with
      | zero => simp at h h'; exact absurd h' (hx i n n' h)
      | succ j => rw [rowIds_inj hr i j id n n' (by simpa using h) (by simpa using h')]
/-- cells of different places bring different blocks -/
theorem cellF_dis (hs : Sim X0 w0 m s a w) {xs : List PV} (hn : (rowIds xs).Nodup) {i j : Nat} {x x' : PV} {y : Nat} (hi : xs[i]? = some x) (hj : xs[j]? = some x') (h : cellF m s.hp x y) (h' : cellF m s.hp x' y) : i = j := by
  obtain ⟨id, n, blk, rfl, h1, h2⟩ := cellF_inv h
  obtain ⟨id', n', blk', rfl, h3, h4⟩ := cellF_inv h'
  have := hs.inj id id' _ _ y h1 h3 h2 h4
  subst this
  exact rowIds_inj hn i j id n n' hi hj
end
/-- names of parts of rows that are let go -/
def alOf (hp : List (Nat × Blk)) (ids : List Nat) : List (Nat × Blk) → List Nat
  | [] => []
  | (k, _) :: r => match hget hp k with
    | some (.al par _ _) => if memN par ids = true then k :: alOf hp ids r else alOf hp ids r
    | _ => alOf hp ids r
def hcut (hp : List (Nat × Blk)) (ids : List Nat) : List (Nat × Blk) := hdels hp (ids ++ alOf hp ids hp)
theorem memN_iff {i : Nat} : ∀ {l : List Nat}, memN i l = true ↔ i ∈ l
  | [] => by simp [memN]
  | k :: r => by
    simp only [memN, List.mem_cons]
    split
    · rename_i e; simp [e]
    · rename_i e; rw [memN_iff]; simp [e]
theorem alOf_mem {hp : List (Nat × Blk)} {ids : List Nat} : ∀ {l : List (Nat × Blk)} {k : Nat}, k ∈ alOf hp ids l → ∃ par i j, hget hp k = some (.al par i j) ∧ par ∈ ids
  | [], k, h => by simp [alOf] at h
  | (k0, b) :: r, k, h => by
    simp only [alOf] at h
    split at h
    · rename_i par i j hg
      split at h
      · rename_i hp'
        rcases List.mem_cons.1 h with rfl | h
        · exact ⟨par, i, j, hg, memN_iff.1 hp'⟩
        · exact alOf_mem h
      · exact alOf_mem h
    · exact alOf_mem h
theorem mem_alOf {hp : List (Nat × Blk)} {ids : List Nat} {k par i j : Nat} (hk : hget hp k = some (.al par i j)) (hp' : par ∈ ids) : ∀ {l : List (Nat × Blk)} {b : Blk}, (k, b) ∈ l → k ∈ alOf hp ids l
  | (k0, b0) :: r, b, h => by
    simp only [alOf]
    rcases List.mem_cons.1 h with e | h
    · cases e
      rw [hk]
      simp only [memN_iff.2 hp', if_true]
      exact List.mem_cons_self
    · have := mem_alOf hk hp' h
      split
      · split
        · exact List.mem_cons_of_mem _ this
        · exact this
      · exact this
theorem hcut_get (hp : List (Nat × Blk)) (ids : List Nat) (j : Nat) : hget (hcut hp ids) j = if j ∈ ids ++ alOf hp ids hp then none else hget hp j := hget_hdels hp _ j
theorem hcut_keep {hp : List (Nat × Blk)} {ids : List Nat} {j : Nat} {b : Blk} (h : hget (hcut hp ids) j = some b) : j ∉ ids ∧ hget hp j = some b := by
  rw [hcut_get] at h
  split at h
  · cases h
  · rename_i hn
    exact ⟨fun hm => hn (List.mem_append.2 (.inl hm)), h⟩
theorem hcut_deep {hp : List (Nat × Blk)} {ids : List Nat} {j : Nat} {b : Blk} (h : hget hp j = some b) (hj : j ∉ ids) (hb : b.isAl = false) : hget (hcut hp ids) j = some b := by
  rw [hcut_get, if_neg]
  · exact h
  · intro hm
    rcases List.mem_append.1 hm with hm | hm
    · exact hj hm
    · obtain ⟨par, i, k, h2, _⟩ := alOf_mem hm
      rw [h] at h2
      cases h2
      cases hb
theorem hcut_al {hp : List (Nat × Blk)} {ids : List Nat} {k par i j : Nat} (h : hget (hcut hp ids) k = some (.al par i j)) : par ∉ ids := by
  intro hp'
  have h2 := (hcut_keep h).2
  rw [hcut_get, if_pos] at h
  · cases h
  · exact List.mem_append.2 (.inr (mem_alOf h2 hp' (hget_mem h2)))
theorem hcut_gone {hp : List (Nat × Blk)} {ids : List Nat} {j : Nat} (hj : j ∈ ids) : hget (hcut hp ids) j = none := by
  rw [hcut_get, if_pos (List.mem_append.2 (.inl hj))]
theorem chunk_ix {sz k j k' j' : Nat} (hj : j < sz) (hj' : j' < sz) (h : k * sz + j = k' * sz + j') : k = k' ∧ j = j' := by
  rcases Nat.lt_trichotomy k k' with h1 | h1 | h1
  · have := mul_apart h1 hj; omega
  · subst h1; exact ⟨rfl, by omega⟩
  · have := mul_apart h1 hj'; omega
section rules
variable {P : Program} {o : Oper} {s : AS} {K : AS → Prop} {KP : PV → Prop}
/-- a slice literal of elements with rows of the call's own -/
theorem po_buildSlice_deep {t e : TypeId} {sz bytes len : Nat} {z ds : List D} {parts : Array (Nat × Operand)} {cs : List PV} (ho : o.op = .buildSlice t len parts) (ht : tiB P t (.slc e sz bytes z) = true) (hlen : len * sz ≤ 16777216)
    (hf : fillPV (fun i => some (i * sz, sz)) (List.replicate (len * sz) .und) (parts.toList.map fun p => (p.1, s.get p.2)) = some cs) (hd : ownL s.hp cs = some ds) (hnd : (rowIds cs).Nodup) (hfl : flatL s.hp cs)
    (hK : K (AS.put ⟨s.fr, (s.nx, .deep 0 e sz (chunk sz len ds)) :: hcut s.hp (rowIds cs), s.nx + 1⟩ o.dst (.row s.nx len))) : PO P o s K :=
  PO.mk fun X0 w0 m a w hs => by
    obtain ⟨h1, ⟨i, v, h4, h5, h5b, h6, h7⟩, h8, h9, _⟩ := tiB_slc ht
    obtain ⟨arr', r1, r2, r3, r4⟩ := fill_run (m := m.loc) (X := Owned X0 m s.hp) (w := w) (fun i => some (i * sz, sz)) _ (parts.toList.map fun p => (p.1, a.eval p.2)) _ _ ((Array.range (len * sz)).map (v.cells[· % v.cells.size]!)) hf (by simp) (fun j x u hx hu => by
      rw [List.getElem?_map] at hx hu
      cases hj : parts.toList[j]? with
      | none => rw [hj] at hx; cases hx
      | some p =>
        rw [hj] at hx hu
        cases hx
        cases hu
        exact hs.get p.2) (by simp) (fun j x u hx hu => by
      have hx' : x = .und := by
        have := List.mem_of_getElem? hx
        exact List.eq_of_mem_replicate this
      subst hx'
      exact ⟨.und _, .inl rfl⟩)
    obtain ⟨f1, f2⟩ := ownL_get hd
    have hsize : arr'.size = len * sz := by rw [r2, r3]; simp
    have hdl : ds.length = len * sz := by rw [f1, ← r2, hsize]
    have hcl : cs.length = len * sz := by rw [← f1, hdl]
    have hlold : ∀ y x, x ∈ cs → cellF m s.hp x y → (w0.w.heap.size ≤ y ∨ w0.chg y) ∧ y < w.heap.size := by
      intro y x _ h
      obtain ⟨id, n, blk, _, h3, h4⟩ := cellF_inv h
      exact hs.own id blk y h3 h4
    have hmemid : ∀ y x, x ∈ cs → cellF m s.hp x y → ∃ id blk, id ∈ rowIds cs ∧ hget s.hp id = some blk ∧ blk.has m id y := by
      intro y x hx h
      obtain ⟨id, n, blk, rfl, h3, h4⟩ := cellF_inv h
      exact ⟨id, blk, rowIds_mem hx, h3, h4⟩
    have hnnx : ∀ id blk, hget s.hp id = some blk → id ≠ s.nx := fun id blk h e2 => by subst e2; rw [hs.hget_nx] at h; cases h
    have hold : ∀ y, y < w.heap.size → (w.alloc (.cells arr' e)).heap[y]? = w.heap[y]? := fun y hy => Below.heap_alloc w _ y hy
    let nd : Blk := .deep 0 e sz (chunk sz len ds)
    have hSim : Sim X0 w0 (upd m s.nx (.blk w.heap.size len) (fun y => ∃ x, x ∈ cs ∧ cellF m s.hp x y)) ⟨s.fr, (s.nx, nd) :: hcut s.hp (rowIds cs), s.nx + 1⟩ a (w.alloc (.cells arr' e)) := by
      refine hs.changeD (i := s.nx) (blk' := nd) (fun y => ∃ x, x ∈ cs ∧ cellF m s.hp x y) (.inl hs.hnx) (by simp [hget]) (fun id hne blk hb => by rw [hget, if_neg hne] at hb; exact (hcut_keep hb).2) rfl (fun id par k j hne ha => ?_) (by omega) (by omega) (KeepB.of_below ((Bel.refl _ _).alloc hs.below.size _)) (fun y hy _ => hold y hy) (fun y hy => ?_) (fun y hy => ?_) (fun p e2 => by have e3 : (none : Option Nat) = some p := e2; cases e3) (fun p ty sz' es e2 => ?_) (fun _ => trivial)
      · rw [hget, if_neg hne] at ha
        have h2 := (hcut_keep ha).2
        obtain ⟨q, ty, sz', es, _, _, _, _, _, _, a1, _⟩ := hs.al id par k j h2
        have hn2 := hnnx par _ a1
        exact .inl ⟨hn2, by rw [hget, if_neg hn2, hcut_deep a1 (hcut_al ha) rfl, a1]⟩
      · obtain ⟨x, hx, hc⟩ := hy
        obtain ⟨id, blk, h2, h3, h4⟩ := hmemid y x hx hc
        exact ⟨id, blk, h3, h4, .inr (by rw [hget, if_neg (hnnx id _ h3), hcut_gone h2])⟩
      · rcases hy with ⟨c, hc⟩ | hf
        · rw [upd_same] at hc
          cases hc
          exact ⟨.inl hs.below.size, by simp, .inl (Nat.le_refl _)⟩
        · have hxy := hf
          rw [upd_ft] at hxy
          obtain ⟨x, hx, hc⟩ := hxy
          have := hlold y x hx hc
          exact ⟨this.1, by simp; omega, .inr ⟨x, hx, hc⟩⟩
      · have e3 : Blk.deep 0 e sz (chunk sz len ds) = _ := e2
        cases e3
        refine ⟨fun ⟨x, hx, hc⟩ => by have := (hlold _ x hx hc).2; omega, arr', heap_alloc_new w _, hsize, by rw [chunk_len]; exact Nat.le_refl _, ?_, fun e' he' => ?_, fun k j y => j < sz ∧ ∃ x, cs[k * sz + j]? = some x ∧ cellF m s.hp x y, fun k j y ⟨_, x, hx, hc⟩ => ⟨x, List.mem_of_getElem? hx, hc⟩, fun k j k' j' y ⟨hj, x, hx, hc⟩ ⟨hj', x', hx', hc'⟩ => chunk_ix hj hj' (cellF_dis hs hnd hx hx' hc hc'), fun k e' j d u hk hj hu => ?_⟩
        · have : len ≤ len * sz := Nat.le_mul_of_pos_right _ h9
          unfold maxLen; omega
        · obtain ⟨k, hk⟩ := List.getElem?_of_mem he'
          have hkl : k < len := by have := (List.getElem?_eq_some_iff.1 hk).1; rwa [chunk_len] at this
          rw [chunk_get sz len ds k e' hk]
          have : (k + 1) * sz ≤ len * sz := Nat.mul_le_mul_right _ hkl
          rw [Nat.succ_mul] at this
          simp; omega
        · rw [chunk_get sz len ds k e' hk, List.getElem?_take] at hj
          split at hj
          · rename_i hjs
            rw [List.getElem?_drop] at hj
            have hlt : k * sz + j < cs.length := by rw [← f1]; exact (List.getElem?_eq_some_iff.1 hj).1
            have hx := List.getElem?_eq_getElem hlt
            have hmem := List.getElem_mem hlt
            have htr := own_cell hs (f2 _ _ d hx hj) (flatL_get hfl _ hmem) (r4 _ _ u hx hu).1
            exact (htr.sub fun y hy => (⟨hjs, _, hx, hy⟩ : j < sz ∧ ∃ x, cs[k * sz + j]? = some x ∧ cellF m s.hp x y)).frame fun y ⟨_, x, hx, hc⟩ => hold y (hlold y x (List.mem_of_getElem? hx) hc).2
          · cases hj
    refine ⟨.slice (some ⟨w.heap.size, 0, none⟩) len len, _, _, _, .row s.nx len, ?_, hSim, .rowB _ _ w.heap.size len (upd_same _ _ _) (Nat.le_refl _), hK⟩
    have e1 : (parts.map fun p => (p.1, a.eval p.2)).toList = parts.toList.map fun p => (p.1, a.eval p.2) := by simp
    subst h5
    rcases Nat.eq_zero_or_pos (len * i.size) with h0 | h0
    · have hl0 : len = 0 := by
        rcases Nat.eq_zero_or_pos len with h | h
        · exact h
        · have := Nat.mul_pos h h9; omega
      subst hl0
      have hpn : parts.toList = [] := by
        cases hpp : parts.toList with
        | nil => rfl
        | cons p r =>
          exfalso
          rw [hpp] at hf
          simp only [List.map_cons, fillPV] at hf
          split at hf
          · rename_i hh
            have h3 := hh.2.1
            simp at h3
            omega
          · cases hf
      have hpe : parts = #[] := Array.ext' (by simpa using hpn)
      subst hpe
      have : arr' = #[] := Array.eq_empty_of_size_eq_zero (by rw [hsize]; exact h0)
      subst this
      simp [execOp, ho, Instr.buildSlice, run_underlying h1, sizeOf, typeInfo, h4, Instr.fill, newRow,  Array.range_zero']
    · have hsm : ¬ len * i.size > 2 ^ 24 := by simp; omega
      have hpos : ¬ len * i.size = 0 := by omega
      simp only [execOp, ho, Sem.run_bind]
      have hrun : (Instr.buildSlice t len (parts.map fun p => (p.1, a.eval p.2))).run P w = .ok (.slice (some ⟨w.heap.size, 0, none⟩) len len) (w.alloc (.cells arr' e)) := by
        have e2 := e1
        simp only [Instr.buildSlice, Sem.run_bind, run_underlying h1, Result.andThen_ok]
        simp [sizeOf, typeInfo, zeroValue, h4, h6, hsm, hpos, r1, newRow]
      rw [hrun]
      rfl
/-- the content of a row that may own its parts -/
def ownR (hp : List (Nat × Blk)) (id : Nat) : Option (TypeId × Nat × List (List D)) := match hget hp id with
  | some (.row ty sz es) => some (ty, sz, es)
  | some (.deep 0 ty sz es) => some (ty, sz, es)
  | _ => none
theorem own_lies {X0 : Nat → Prop} {w0 : Base} {m : Mp} {a : Act} {w : World} (hs : Sim X0 w0 m s a w) {id n sz : Nat} {ty : TypeId} {es : List (List D)} {v : Value} (hg : ownR s.hp id = some (ty, sz, es)) (hn : es.length = n) (hf : flatC s.hp (.row id n)) (hR : R m.loc (Owned X0 m s.hp) w (.row id n) v) :
    ∃ (l : Loc) (xs : List Value) (blk : Blk) (Fp : Nat → Nat → Nat → Prop), hget s.hp id = some blk ∧ blk.isAl = false ∧ m.loc id = some l ∧ (∀ b c, l = .blk b c → blk.has m id b) ∧ Lies w ty sz l v n xs ∧ (∀ e, e ∈ es → e.length = sz) ∧ (∀ k j y, Fp k j y → blk.has m id y ∧ ∀ b c, l = .blk b c → y ≠ b) ∧ (∀ (k j k' j' y : Nat), Fp k j y → Fp k' j' y → k = k' ∧ j = j') ∧
      (∀ u ∈ xs, u.oneCell' = true) ∧ ∀ (k : Nat) (e : List D) (j : Nat) (d : D) (u : Value), es[k]? = some e → e[j]? = some d → xs[k * sz + j]? = some u → Tr w (Fp k j) d u := by
  have one : ∀ (xs : List Value) (Fp : Nat → Nat → Nat → Prop), xs.length = n * sz → (∀ e, e ∈ es → e.length = sz) → (∀ (k : Nat) (e : List D) (j : Nat) (d : D) (u : Value), es[k]? = some e → e[j]? = some d → xs[k * sz + j]? = some u → Tr w (Fp k j) d u) → ∀ u ∈ xs, u.oneCell' = true := by
    intro xs Fp hl hz hc u hu
    obtain ⟨i, hi⟩ := List.getElem?_of_mem hu
    have hil := (List.getElem?_eq_some_iff.1 hi).1
    rw [hl] at hil
    have hsz : 0 < sz := by
      rcases Nat.eq_zero_or_pos sz with h0 | h0
      · subst h0; omega
      · exact h0
    have hk : i / sz < es.length := by rw [hn]; exact (Nat.div_lt_iff_lt_mul hsz).2 hil
    have he := List.getElem?_eq_getElem hk
    have hj : i % sz < (es[i / sz]).length := by rw [hz _ (List.getElem_mem hk)]; exact Nat.mod_lt _ hsz
    have hi' : xs[i / sz * sz + i % sz]? = some u := by rw [Nat.mul_comm, Nat.div_add_mod]; exact hi
    exact (hc _ _ _ _ u he (List.getElem?_eq_getElem hj) hi').one
  unfold ownR at hg
  split at hg
  · rename_i ty' sz' es' hgt
    cases hg
    simp only [flatC, hgt] at hf
    obtain ⟨l, xs, h1, h2, h3⟩ := row_lies hs hgt hn hR
    have hz : ∀ e, e ∈ es → e.length = sz := by
      obtain ⟨lb, hlb, hok⟩ := hs.hp id _ hgt
      rw [h1] at hlb
      cases hlb
      intro e he
      cases l with
      | nil => have h0 : es = [] := hok; rw [h0] at he; cases he
      | blk b c => obtain ⟨arr, _, hc⟩ := hok; exact hc.2.2.2.1 e he
    have hc : ∀ (k : Nat) (e : List D) (j : Nat) (d : D) (u : Value), es[k]? = some e → e[j]? = some d → xs[k * sz + j]? = some u → Tr w ((fun _ _ _ => False : Nat → Nat → Nat → Prop) k j) d u := fun k e j d u he hd hu => (h3 k e j d u he hd hu).tr (hf e (List.mem_of_getElem? he) d (List.mem_of_getElem? hd))
    exact ⟨l, xs, _, fun _ _ _ => False, hgt, rfl, h1, fun b c e => ⟨c, by rw [h1, e]⟩, h2, hz, fun _ _ _ h => h.elim, fun _ _ _ _ _ h => h.elim, one xs _ h2.len hz hc, hc⟩
  · rename_i ty' sz' es' hgt
    cases hg
    have hd := hs.dp id 0 ty sz es hgt
    rcases hR.row_inv with ⟨h1, h2, rfl⟩ | ⟨b, c, h1, h2, rfl⟩
    · have he0 : es = [] := List.eq_nil_of_length_eq_zero (by omega)
      subst he0
      exact ⟨.nil, [], _, fun _ _ _ => False, hgt, rfl, h1, fun b c e => (by cases e), ⟨rfl, h2, rfl⟩, fun e he => (by cases he), fun _ _ _ h => h.elim, fun _ _ _ _ _ h => h.elim, fun u hu => (by cases hu), fun k e j d u he => by simp at he⟩
    · rw [h1] at hd
      obtain ⟨g1, arr, g2, g3, g4, g5, g6, Fp, g7, g8, g9⟩ := hd
      have hlies : Lies w ty sz (.blk b c) (.slice (some ⟨b, 0, none⟩) n c) n (arr.toList.take (n * sz)) := ⟨rfl, arr, g2, g3, h2, g5, rfl⟩
      have hc : ∀ (k : Nat) (e : List D) (j : Nat) (d : D) (u : Value), es[k]? = some e → e[j]? = some d → (arr.toList.take (n * sz))[k * sz + j]? = some u → Tr w (Fp k j) d u := by
        intro k e j d u he hd hu
        rw [List.getElem?_take] at hu
        split at hu
        · exact g9 k e j d u he hd (by simpa using hu)
        · cases hu
      exact ⟨.blk b c, _, _, Fp, hgt, rfl, h1, fun b' c' e => by cases e; exact .inl ⟨c, h1⟩, hlies, g6, fun k j y hy => ⟨.inr (g7 k j y hy), fun b' c' e => by cases e; exact fun e2 => g1 (by rw [← e2]; exact g7 k j y hy)⟩, g8, one _ Fp hlies.len g6 hc, hc⟩
  · cases hg
/-- elements that own their parts, put behind a row that owns its parts -/
theorem po_append_deep {x y : Operand} {t e : TypeId} {sz bytes id id2 n n2 ty2 : Nat} {z : List D} {es fs : List (List D)} (ho : o.op = .call { callee := .builtin .append, args := #[x, y], argTypes := #[t, t] }) (ht : tiB P t (.slc e sz bytes z) = true)
    (hx : s.get x = .row id n) (hy : s.get y = .row id2 n2) (hg : ownR s.hp id = some (e, sz, es)) (hg2 : ownR s.hp id2 = some (ty2, sz, fs)) (hne : id ≠ id2) (hn : es.length = n) (hn2 : fs.length = n2) (hf : flatC s.hp (.row id n)) (hf2 : flatC s.hp (.row id2 n2)) (hlen : es.length + fs.length ≤ 16777216)
    (hK : K (AS.put ⟨s.fr, (s.nx, .deep 0 e sz (es ++ fs)) :: hcut s.hp [id, id2], s.nx + 1⟩ o.dst (.row s.nx (n + n2)))) : PO P o s K :=
  PO.mk fun X0 w0 m a w hs => by
    have hRx := hs.get x
    rw [hx] at hRx
    have hRy := hs.get y
    rw [hy] at hRy
    obtain ⟨l, xs, blk, Fp, b1, b1a, b2, b3, b4, b5, b6, b7, b8, b9⟩ := own_lies hs hg hn hf hRx
    obtain ⟨l2, news, blk2, Fp2, c1, c1a, c2, c3, c4, c5, c6, c7, c8, c9⟩ := own_lies hs hg2 hn2 hf2 hRy
    obtain ⟨g1, ⟨i, v, g2, g3, g4, g5, g6⟩, g7, g8, g9, _⟩ := tiB_slc ht
    have hzs : v.cells.size = sz := by rw [(zB_rd g6).1, g7]
    have hbig : (n + n2) * bytes ≤ 140737488355328 := Nat.le_trans (Nat.mul_le_mul (show n + n2 ≤ 16777216 by omega) g9) (by decide)
    obtain ⟨A, c', hsl, hA, hnews⟩ : ∃ A c', a.eval y = .slice A n2 c' ∧ (A = none → n2 = 0) ∧ ∀ ad, A = some ad → ∀ (j : Nat) u, news[j]? = some u → w.cell? (ad.add j) = some u := by
      cases l2 with
      | nil => obtain ⟨q1, q2, q3⟩ := c4; subst q2; exact ⟨none, 0, q1, fun _ => rfl, fun ad e => by cases e⟩
      | blk b c =>
        obtain ⟨q1, arr, q2, q3, q4, q5, q6⟩ := c4
        refine ⟨_, c, q1, (fun e => by cases e), fun ad e j u hu => ?_⟩
        cases e
        rw [← q6, List.getElem?_take] at hu
        split at hu
        · rw [Addr.add_lit]
          simp only [World.cell?, q2, Nat.zero_add]
          simpa using hu
        · cases hu
    obtain ⟨v', w', l', r1, r2, r3, r4, r5, r6, r7, r8⟩ := append_run (P := P) (ty := o.type) (c' := c') g1 g2 g5 g3 g4 hzs b4 c4.len hA hnews c8 (by unfold maxLen; omega) hbig
    let FN : Nat → Nat → Nat → Prop := fun k j u => (k < n ∧ Fp k j u) ∨ (n ≤ k ∧ k - n < n2 ∧ Fp2 (k - n) j u)
    let F' : Nat → Prop := fun u => ∃ k j, k < n + n2 ∧ FN k j u
    let nd : Blk := .deep 0 e sz (es ++ fs)
    have hFhas : ∀ u, F' u → blk.has m id u ∧ (∀ b c, l = .blk b c → u ≠ b) ∨ blk2.has m id2 u := by
      rintro u ⟨k, j, _, h | h⟩
      · exact .inl (b6 k j u h.2)
      · exact .inr (c6 _ j u h.2.2).1
    have hold : ∀ u, u < w.heap.size → (∀ c, l ≠ .blk u c) → w'.heap[u]? = w.heap[u]? := r7
    have hF : ∀ u, F' u → u < w.heap.size ∧ w'.heap[u]? = w.heap[u]? := by
      intro u hu
      rcases hFhas u hu with ⟨h1, h2⟩ | h1
      · have h3 := (hs.own id _ u b1 h1).2
        exact ⟨h3, hold u h3 fun c e2 => h2 u c e2 rfl⟩
      · have h3 := (hs.own id2 _ u c1 h1).2
        exact ⟨h3, hold u h3 fun c e2 => hne (hs.inj id id2 _ _ u b1 c1 (b3 u c e2) h1)⟩
    have hnnx : ∀ i blk, hget s.hp i = some blk → i ≠ s.nx := fun i blk h e2 => by subst e2; rw [hs.hget_nx] at h; cases h
    have hSim : Sim X0 w0 (upd m s.nx l' F') ⟨s.fr, (s.nx, nd) :: hcut s.hp [id, id2], s.nx + 1⟩ a w' := by
      refine hs.changeD (i := s.nx) (blk' := nd) (fun u => blk.has m id u ∨ blk2.has m id2 u) (.inl hs.hnx) (by simp [hget]) (fun i hne blk hb => by rw [hget, if_neg hne] at hb; exact (hcut_keep hb).2) rfl (fun i par k j hne ha => ?_) (by omega) (by omega) ⟨r3, r4, r5, r6.1, fun k hk hn' => hold k (by have := hs.below.size; omega) (fun c e2 => by rcases (hs.own id _ k b1 (b3 k c e2)).1 with h | h; omega; exact hn' h), .of_le r6.2⟩ (fun u hu hnu => hold u hu fun c e2 => hnu (.inl (b3 u c e2))) (fun u hu => ?_) (fun u hu => ?_) (fun p e2 => by have e3 : (none : Option Nat) = some p := e2; cases e3) (fun p ty sz' es' e2 => ?_) (fun _ => trivial)
      · rw [hget, if_neg hne] at ha
        have h2 := (hcut_keep ha).2
        obtain ⟨q, ty, sz', es, _, _, _, _, _, _, a1, _⟩ := hs.al i par k j h2
        have hn2 := hnnx par _ a1
        exact .inl ⟨hn2, by rw [hget, if_neg hn2, hcut_deep a1 (hcut_al ha) rfl, a1]⟩
      · rcases hu with hu | hu
        · exact ⟨id, _, b1, hu, .inr (by rw [hget, if_neg (hnnx id _ b1), hcut_gone (by simp)])⟩
        · exact ⟨id2, _, c1, hu, .inr (by rw [hget, if_neg (hnnx id2 _ c1), hcut_gone (by simp)])⟩
      · rcases hu with ⟨c, hc⟩ | hfu
        · rw [upd_same] at hc
          cases hc
          obtain ⟨q1, q2⟩ := r8 u c rfl
          rcases q2 with q2 | q2
          · exact ⟨.inl (Nat.le_trans hs.below.size q2), q1, .inl q2⟩
          · exact ⟨(hs.own id _ u b1 (b3 u c q2)).1, q1, .inr (.inl (b3 u c q2))⟩
        · rw [upd_ft] at hfu
          have h1 := (hF u hfu).1
          rcases hFhas u hfu with ⟨h2, _⟩ | h2
          · exact ⟨(hs.own id _ u b1 h2).1, by omega, .inr (.inl h2)⟩
          · exact ⟨(hs.own id2 _ u c1 h2).1, by omega, .inr (.inr h2)⟩
      · have e3 : Blk.deep 0 e sz (es ++ fs) = _ := e2
        cases e3
        cases l' with
        | nil =>
          obtain ⟨_, q2, _⟩ := r2
          refine ⟨List.eq_nil_of_length_eq_zero (by rw [List.length_append]; omega), ?_⟩
          rintro u ⟨k, j, hk, _⟩
          omega
        | blk g cc =>
          obtain ⟨_, arr, q2, q3, q4, q5, q6⟩ := r2
          refine ⟨fun hg' => ?_, arr, q2, q3, by simp; omega, q5, fun e' he' => (List.mem_append.1 he').elim (b5 e') (c5 e'), fun k j u => k < n + n2 ∧ FN k j u, fun k j u ⟨hk, hu⟩ => ⟨k, j, hk, hu⟩, ?_, fun k e' j d u he' hd hu => ?_⟩
          · rcases (r8 g cc rfl).2 with h | h
            · have := (hF g hg').1; omega
            · rcases hFhas g hg' with ⟨_, h2⟩ | h2
              · exact h2 g cc h rfl
              · exact hne (hs.inj id id2 _ _ g b1 c1 (b3 g cc h) h2)
          · rintro k j k' j' u ⟨_, h1 | h1⟩ ⟨_, h2 | h2⟩
            · exact b7 k j k' j' u h1.2 h2.2
            · exact (hne (hs.inj id id2 _ _ u b1 c1 (b6 k j u h1.2).1 (c6 _ j' u h2.2.2).1)).elim
            · exact (hne (hs.inj id id2 _ _ u b1 c1 (b6 k' j' u h2.2).1 (c6 _ j u h1.2.2).1)).elim
            · have := c7 _ _ _ _ u h1.2.2 h2.2.2
              omega
          · have hxl : xs.length = n * sz := b4.len
            have hkl := (List.getElem?_eq_some_iff.1 he').1
            rw [List.length_append] at hkl
            have hesz : e'.length = sz := (List.mem_append.1 (List.mem_of_getElem? he')).elim (b5 e') (c5 e')
            have hj : j < sz := by rw [← hesz]; exact (List.getElem?_eq_some_iff.1 hd).1
            have hu2 : (xs ++ news)[k * sz + j]? = some u := by
              rw [← q6, List.getElem?_take_of_lt (mul_apart (by omega) hj)]
              simpa using hu
            have hkn : k < n + n2 := by omega
            by_cases hk : k < es.length
            · rw [List.getElem?_append_left hk] at he'
              rw [List.getElem?_append_left (by rw [hxl]; exact mul_apart (by omega) hj)] at hu2
              refine ((b9 k e' j d u he' hd hu2).sub fun y hy => (⟨hkn, .inl ⟨by omega, hy⟩⟩ : k < n + n2 ∧ FN k j y)).frame fun y hy => (hF y ⟨k, j, hy⟩).2
            · rw [List.getElem?_append_right (by omega)] at he'
              have e3 : n * sz ≤ k * sz + j := by
                have : n * sz ≤ k * sz := Nat.mul_le_mul_right _ (by omega)
                omega
              rw [List.getElem?_append_right (by rw [hxl]; exact e3), hxl] at hu2
              have e4 : k * sz + j - n * sz = (k - es.length) * sz + j := by
                rw [Nat.sub_mul, hn]
                have : n * sz ≤ k * sz := Nat.mul_le_mul_right _ (by omega)
                omega
              rw [e4] at hu2
              refine ((c9 (k - es.length) e' j d u he' hd hu2).sub fun y hy => (⟨hkn, .inr ⟨by omega, by omega, by rw [← hn]; exact hy⟩⟩ : k < n + n2 ∧ FN k j y)).frame fun y hy => (hF y ⟨k, j, hy⟩).2
    refine ⟨v', w', _, _, .row s.nx (n + n2), ?_, hSim, lies_R r2 (upd_same _ _ _), hK⟩
    have e1 : (execOp a.eval o) = (do let r ← Builtin.append_ #[t, t] o.type #[a.eval x, a.eval y]; pure (Next.value r)) := by
      simp [execOp, ho, resolve, invoke, builtin]
    rw [e1, Sem.run_bind, hsl, r1]
    rfl
/-- the same as hcut; the names of parts of row id go, too -/
def hcut2 (hp : List (Nat × Blk)) (ids : List Nat) (id : Nat) : List (Nat × Blk) := hdels hp (ids ++ alOf hp (id :: ids) hp)
end rules
end Go.Proofs.YthocihmhljmgdaaGreatDoor
