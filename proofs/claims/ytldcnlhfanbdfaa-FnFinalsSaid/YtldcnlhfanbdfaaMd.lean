/-
  The abstract machine: rows that own their parts: parts named, read and written. No program is named here.
-/
import Derived.Test.YtldcnlhfanbdfaaM8
namespace Go.Proofs.Ytldcnlhfanbdfaa
open Go.RowKit

def D.scB : D → Bool
  | .lst _ _ => false
  | _ => true
theorem D.scB_sc {d : D} (h : d.scB = true) : d.sc := by cases d <;> first | trivial | cases h
theorem Rd.tr {w w' : World} {X F : Nat → Prop} {d : D} {v : Value} (h : Rd w X d v) (hd : d.sc) : Tr w' F d v := by
  cases h with
  | int k n => exact .int _ k n
  | bool b => exact .bool _ b
  | str s => exact .str _ s
  | nil => exact hd.elim
  | lst => exact hd.elim
/-- a cell of a list of chunks, anew -/
def setC (es : List (List D)) (k j : Nat) (d : D) : List (List D) := match es[k]? with
  | some e => es.set k (e.set j d)
  | none => es

section rules
variable {P : Program} {o : Oper} {s : AS} {K : AS → Prop} {KP : PV → Prop}
/-- a list in a cell of a deep row gets a name -/
theorem Sim.alias_new {X0 : Nat → Prop} {w0 : Base} {m : Mp} {a : Act} {w : World} (hs : Sim X0 w0 m s a w) {id k j : Nat} {l : Loc} (hok : AlOk w (upd m s.nx l) ((s.nx, .al id k j) :: s.hp) s.nx id k j) :
    Sim X0 w0 (upd m s.nx l) ⟨s.fr, (s.nx, .al id k j) :: s.hp, s.nx + 1⟩ a w := by
  have hne : ∀ i blk, hget s.hp i = some blk → i ≠ s.nx := fun i blk h e => by subst e; rw [hs.hget_nx] at h; cases h
  have hold : ∀ i blk, i ≠ s.nx → (hget ((s.nx, .al id k j) :: s.hp) i = some blk ↔ hget s.hp i = some blk) := fun i blk h => by rw [hget, if_neg h]
  have hm := upd_mono (F := fun _ => False) m s.nx l (.inl hs.hnx)
  have hinv : ∀ i blk b, hget ((s.nx, .al id k j) :: s.hp) i = some blk → blk.has (upd m s.nx l) i b → i ≠ s.nx ∧ hget s.hp i = some blk ∧ blk.has m i b := by
    intro i blk b h1 h2
    by_cases e : i = s.nx
    · subst e
      simp only [hget, if_true] at h1
      cases h1
      exact h2.elim
    · exact ⟨e, (hold i blk e).1 h1, (Blk.has_upd e).1 h2⟩
  have hst : Stay w w (Owned X0 m s.hp) (Owned X0 (upd m s.nx l) ((s.nx, .al id k j) :: s.hp)) := by
    intro b _ hb
    refine ⟨rfl, ?_⟩
    rintro (hx | ⟨i, blk, h1, h2⟩)
    · exact hb (.inl hx)
    · obtain ⟨_, h3, h4⟩ := hinv i blk b h1 h2
      exact hb (.inr ⟨i, blk, h3, h4⟩)
  refine hs.step hm (KeepB.refl _ _) hst (fun i blk hi => ?_) (fun i p ty sz es hi => ?_) (fun i par k' j' hi => ?_) (fun i blk p hi hpo => ?_) (fun i i' blk blk' b h1 h2 h3 h4 => ?_) (fun i blk b h1 h2 => ?_) (fun i hi => ?_)
  · by_cases e : i = s.nx
    · subst e
      simp only [hget, if_true] at hi
      cases hi
      exact ⟨l, upd_same m _ l, trivial⟩
    · obtain ⟨l', h1, h2⟩ := hs.hp i blk ((hold i blk e).1 hi)
      exact ⟨l', hm _ _ h1, h2.mono hm hst fun _ _ _ _ => rfl⟩
  · have e : i ≠ s.nx := fun e => by subst e; simp [hget] at hi
    rw [upd_ne m l e, upd_ft_ne m l _ e]
    exact hs.dp i p ty sz es ((hold i _ e).1 hi)
  · by_cases e : i = s.nx
    · subst e
      simp only [hget, if_true] at hi
      cases hi
      exact hok
    · obtain ⟨q, ty, sz, es, e0, sz', es', b, c, arr, a1, a2, a3, a4, a5, a6⟩ := hs.al i par k' j' ((hold i _ e).1 hi)
      have e2 := hne par _ a1
      exact ⟨q, ty, sz, es, e0, sz', es', b, c, arr, (hold par _ e2).2 a1, a2, a3, by rw [upd_ne m l e2]; exact a4, a5, by rw [upd_ne m l e]; exact a6⟩
  · have e : i ≠ s.nx := fun e => by subst e; simp only [hget, if_true] at hi; cases hi; cases hpo
    rw [upd_ne m l e]
    exact hs.pin i blk p ((hold i _ e).1 hi) hpo
  · obtain ⟨_, h5, h6⟩ := hinv i blk b h1 h3
    obtain ⟨_, h7, h8⟩ := hinv i' blk' b h2 h4
    exact hs.inj i i' blk blk' b h5 h7 h6 h8
  · obtain ⟨_, h5, h6⟩ := hinv i blk b h1 h2
    exact hs.own i blk b h5 h6
  · rw [upd_ne m l (by omega)]
    exact hs.nx i (by omega)
/-- a list in a cell of a deep row is loaded -/
theorem po_load_al {t : TypeId} {x : Operand} {ti : TI} {id sz k off q ty sz' : Nat} {es es' : List (List D)} (ho : o.op = .load t x) (ht : tiB P t ti = true) (hc : ti.cells = none) (hx : s.get x = .rptr id sz k off) (hg : hget s.hp id = some (.deep q ty sz es)) (hal : alC es k off = some (sz', es'))
    (hK : K (AS.put ⟨s.fr, (s.nx, .al id k off) :: s.hp, s.nx + 1⟩ o.dst (.row s.nx es'.length))) : PO P o s K :=
  PO.mk fun X0 w0 m a w hs => by
    have h1 := hs.get x
    rw [hx] at h1
    obtain ⟨b, c, hm, he⟩ := h1.rptr_inv
    have hd := hs.dp id q ty sz es hg
    rw [hm] at hd
    obtain ⟨_, arr, h2, h3, h4, h5, h6, Fp, h7, h8, h9⟩ := hd
    obtain ⟨e, g1, g2⟩ : ∃ e, es[k]? = some e ∧ e[off]? = some (.lst sz' es') := by
      unfold alC at hal
      split at hal
      · rename_i e he'
        split at hal
        · rename_i he2; cases hal; exact ⟨e, he', he2⟩
        · cases hal
      · cases hal
    have hkl := (List.getElem?_eq_some_iff.1 g1).1
    have hjl : off < sz := by rw [← h6 e (List.mem_of_getElem? g1)]; exact (List.getElem?_eq_some_iff.1 g2).1
    have hlt : k * sz + off < arr.size := by rw [h3]; exact mul_apart (by omega) hjl
    have hv : arr[k * sz + off]? = some arr[k * sz + off] := by simp [hlt]
    have htr := h9 k e off _ _ g1 g2 hv
    obtain ⟨⟨d, hd1, hd2⟩, _⟩ := ti_one ht hc
    have hcell : w.cell? ⟨b, k * sz + off, none⟩ = some arr[k * sz + off] := by simp [World.cell?, h2, hlt]
    have hrun : (execOp a.eval o).run P w = .ok (.value arr[k * sz + off]) w := by
      simp [execOp, ho, he, Instr.loadAt, Instr.sureAddr, loadVar, run_isAgg hd1, hd2, run_load, hcell]
    have hne : id ≠ s.nx := fun e => by subst e; rw [hs.hget_nx] at hg; cases hg
    have hpar : hget ((s.nx, .al id k off) :: s.hp) id = some (.deep q ty sz es) := by rw [hget, if_neg hne]; exact hg
    generalize hvv : arr[k * sz + off] = v at hv htr hrun
    have key : ∀ l : Loc, ((l = .nil ∧ v = .slice none 0 0) ∨ ∃ b' c', l = .blk b' c' ∧ v = .slice (some ⟨b', 0, none⟩) es'.length c') → Sim X0 w0 (upd m s.nx l) ⟨s.fr, (s.nx, .al id k off) :: s.hp, s.nx + 1⟩ a w := by
      intro l hl
      refine hs.alias_new ⟨q, ty, sz, es, e, sz', es', b, c, arr, hpar, g1, g2, by rw [upd_ne m l hne]; exact hm, h2, ?_⟩
      rw [hv]
      rcases hl with ⟨rfl, rfl⟩ | ⟨b', c', rfl, rfl⟩
      · exact .inl ⟨upd_same _ _ _, rfl⟩
      · exact .inr ⟨b', c', upd_same _ _ _, rfl⟩
    cases htr with
    | nil => exact ⟨_, _, _, _, _, hrun, key .nil (.inl ⟨rfl, rfl⟩), .rowN _ (upd_same _ _ _), hK⟩
    | lst _ _ _ b' c' arr' ty' Fp' q1 q2 q3 q4 => exact ⟨_, _, _, _, _, hrun, key (.blk b' c') (.inr ⟨b', c', rfl, rfl⟩), .rowB _ _ _ _ (upd_same _ _ _) q4, hK⟩
/-- the parts of a list of chunks in an array whose k-th chunk has been written -/
theorem spl_chunk {arr vs : List Value} {es : List (List D)} {e ds : List D} {sz k off : Nat} (he : es[k]? = some e) (hz : ∀ e, e ∈ es → e.length = sz) (hl : off + ds.length ≤ e.length) (hv : vs.length = ds.length) (hfit : k * sz + off + vs.length ≤ arr.length) {k' j : Nat} {e' : List D} {d : D} {u : Value}
    (he' : (es.set k (spl e off ds))[k']? = some e') (hd : e'[j]? = some d) (hu : (spl arr (k * sz + off) vs)[k' * sz + j]? = some u) :
    (k' = k ∧ off ≤ j ∧ j < off + ds.length ∧ ds[j - off]? = some d ∧ vs[j - off]? = some u) ∨ (∃ e0, es[k']? = some e0 ∧ e0[j]? = some d ∧ arr[k' * sz + j]? = some u ∧ ¬ (k' = k ∧ off ≤ j ∧ j < off + ds.length)) := by
  rw [spl_get hfit, hv] at hu
  rw [List.getElem?_set] at he'
  have hesz := hz e (List.mem_of_getElem? he)
  split at he'
  · rename_i hkk
    subst hkk
    split at he'
    · cases he'
      rw [spl_get hl] at hd
      split at hd
      · rename_i hin
        rw [if_pos (by omega)] at hu
        exact .inl ⟨rfl, hin.1, hin.2, hd, by rw [show k * sz + j - (k * sz + off) = j - off by omega] at hu; exact hu⟩
      · rename_i hin
        rw [if_neg (by omega)] at hu
        exact .inr ⟨e, he, hd, hu, fun h => hin h.2⟩
    · cases he'
  · rename_i hne
    have hj : j < sz := by rw [← hz e' (List.mem_of_getElem? he')]; exact (List.getElem?_eq_some_iff.1 hd).1
    have hout : ¬ (k * sz + off ≤ k' * sz + j ∧ k' * sz + j < k * sz + off + ds.length) := by
      rcases Nat.lt_or_gt_of_ne hne with h7 | h7
      · have h8 : (k + 1) * sz ≤ k' * sz := Nat.mul_le_mul_right _ h7
        rw [Nat.succ_mul] at h8
        omega
      · have := mul_apart h7 hj
        omega
    rw [if_neg hout] at hu
    exact .inr ⟨e', he', hd, hu, fun h => hne h.1.symm⟩
theorem spl_mem_len {es : List (List D)} {e ds : List D} {sz k off : Nat} (he : es[k]? = some e) (hz : ∀ e, e ∈ es → e.length = sz) (hl : off + ds.length ≤ e.length) : ∀ e', e' ∈ es.set k (spl e off ds) → e'.length = sz := by
  intro e' he'
  obtain ⟨j, hj⟩ := List.getElem?_of_mem he'
  rw [List.getElem?_set] at hj
  split at hj
  · split at hj
    · cases hj
      rw [spl_len hl]
      exact hz e (List.mem_of_getElem? he)
    · cases hj
  · exact hz e' (List.mem_of_getElem? hj)
/-- scalars are stored into a deep row -/
theorem po_store_deep {t : TypeId} {p x : Operand} {ti : TI} {id sz k off q ty : Nat} {es : List (List D)} {e ds : List D} (ho : o.op = .store t p x) (ht : tiB P t ti = true) (hp : s.get p = .rptr id sz k off) (hg : hget s.hp id = some (.deep q ty sz es)) (hk : es[k]? = some e)
    (hd : dsOf (cellsPV (s.get x)) = some ds) (hsc : ds.all D.scB = true) (hold : ((e.drop off).take ds.length).all D.scB = true) (hn : ds.length = ti.size) (hl : off + ti.size ≤ e.length)
    (hK : K (AS.put ⟨s.fr, hset s.hp id (.deep q ty sz (es.set k (spl e off ds))), s.nx⟩ o.dst .und)) : PO P o s K :=
  PO.skip fun X0 w0 m a w hs => by
    have hd' := dsOf_map hd
    have h2 := (hs.get x).cellsOf (by rw [hd']; exact onePV_ds)
    rw [hd', List.length_map] at h2
    have h3 := hs.get p
    rw [hp] at h3
    obtain ⟨b, c, hm, he⟩ := h3.rptr_inv
    have hdp := hs.dp id q ty sz es hg
    rw [hm] at hdp
    obtain ⟨g1, arr, hh, ha, hec, hcm, hes, Fp, f1, f2, f3⟩ := hdp
    obtain ⟨i, hi, hisz⟩ := ti_size ht
    have hesz := hes e (List.mem_of_getElem? hk)
    have hklt := (List.getElem?_eq_some_iff.1 hk).1
    have hbig : (k + 1) * sz ≤ c * sz := Nat.mul_le_mul_right _ (by omega)
    rw [Nat.succ_mul] at hbig
    have hvl : k * sz + off + (a.eval x).cells.size ≤ arr.size := by rw [h2.1, hn, ha]; omega
    have hR : ∀ (j : Nat) (d : D) (u : Value), ds[j]? = some d → (a.eval x).cells[j]? = some u → R m.loc (Owned X0 m s.hp) w (.d d) u ∧ u.oneCell' = true := fun j d u hj hu => h2.2 j (.d d) u (by rw [List.getElem?_map, hj]; rfl) hu
    have h6 : ∀ u ∈ (a.eval x).cells.toList, u.oneCell' = true := by
      intro u hu
      obtain ⟨j, hj⟩ := List.getElem?_of_mem hu
      have hj' : (a.eval x).cells[j]? = some u := by simpa using hj
      have hlt : j < ds.length := by rw [← h2.1]; exact (Array.getElem?_eq_some_iff.1 hj').1
      exact (hR j _ u (List.getElem?_eq_getElem hlt) hj').2
    have hrun := store_run (P := P) (t := t) hi (by rw [h2.1, hn, hisz]) hh hvl h6
    have e1 : (a.eval x).cells.toList.length = ds.length := by simpa using h2.1
    have hown := hs.own id _ b hg (.inl ⟨c, hm⟩)
    have hset_ne : ∀ id', id' ≠ id → hget (hset s.hp id (.deep q ty sz (es.set k (spl e off ds)))) id' = hget s.hp id' := fun id' hne => by rw [hget_hset, if_neg hne]
    have hset_eq : hget (hset s.hp id (.deep q ty sz (es.set k (spl e off ds)))) id = some (.deep q ty sz (es.set k (spl e off ds))) := by rw [hget_hset]; simp [hg]
    have hoth : ∀ y, y ≠ b → (w.setRow b (spl arr.toList (k * sz + off) (a.eval x).cells.toList).toArray).heap[y]? = w.heap[y]? := fun y hy => setRow_other w b y _ hy
    have hnewh := setRow_heap w b arr (spl arr.toList (k * sz + off) (a.eval x).cells.toList).toArray ty _ hh
    have hcells := fun {k' j : Nat} {e' : List D} {d : D} {u : Value} => spl_chunk (arr := arr.toList) (vs := (a.eval x).cells.toList) hk hes (by rw [hn]; exact hl) e1 (by simpa using hvl) (k' := k') (j := j) (e' := e') (d := d) (u := u)
    refine ⟨w.setRow b (spl arr.toList (k * sz + off) (a.eval x).cells.toList).toArray, upd m id (.blk b c) (m.ft id), ⟨s.fr, hset s.hp id (.deep q ty sz (es.set k (spl e off ds))), s.nx⟩, ?_, ?_, hK⟩
    · simp only [execOp, ho, he, Sem.run_bind, hrun, Result.andThen_ok, Sem.run_pure]
    · refine hs.changeD (i := id) (blk' := .deep q ty sz (es.set k (spl e off ds))) (F' := m.ft id) (fun y => y = b ∨ m.ft id y) (.inr hm) hset_eq (fun id' hne blk hb => by rw [hset_ne id' hne] at hb; exact hb) rfl (fun id' par k' j' hne ha' => ?_) (Nat.le_refl _) (hs.lt_nx hm) ?_ (fun y hy hne => hoth y fun h => hne (.inl h)) ?_ ?_ ?_ ?_ (fun _ => trivial)
      · rw [hset_ne id' hne] at ha'
        by_cases e2 : par = id
        · subst e2
          refine .inr ?_
          obtain ⟨q', ty', sz', es', e0, sz2, es2, b', c', arr', a1, a2, a3, a4, a5, a6⟩ := hs.al id' par k' j' ha'
          rw [hg] at a1
          cases a1
          rw [hm] at a4
          cases a4
          rw [hh] at a5
          cases a5
          have hj' : j' < sz := by rw [← hes e0 (List.mem_of_getElem? a2)]; exact (List.getElem?_eq_some_iff.1 a3).1
          have hnot : ¬ (k' = k ∧ off ≤ j' ∧ j' < off + ds.length) := by
            rintro ⟨rfl, h7, h8⟩
            rw [hk] at a2
            cases a2
            have := List.all_eq_true.1 hold (.lst sz2 es2) (List.mem_of_getElem? (i := j' - off) (by rw [List.getElem?_take_of_lt (by omega), List.getElem?_drop, show off + (j' - off) = j' by omega]; exact a3))
            cases this
          have hsame : (spl arr.toList (k * sz + off) (a.eval x).cells.toList).toArray[k' * sz + j']? = arr[k' * sz + j']? := by
            have : (spl arr.toList (k * sz + off) (a.eval x).cells.toList)[k' * sz + j']? = arr.toList[k' * sz + j']? := by
              rw [spl_get (by simpa using hvl), e1, if_neg]
              rintro ⟨h7, h8⟩
              have hkk : k' = k := by
                rcases Nat.lt_trichotomy k' k with h9 | h9 | h9
                · have := mul_apart h9 hj'; omega
                · exact h9
                · have h10 : (k + 1) * sz ≤ k' * sz := Nat.mul_le_mul_right _ h9
                  rw [Nat.succ_mul] at h10
                  omega
              subst hkk
              exact hnot ⟨rfl, by omega, by omega⟩
            simpa using this
          obtain ⟨e3, a7, a8⟩ : ∃ e3, (es.set k (spl e off ds))[k']? = some e3 ∧ e3[j']? = some (.lst sz2 es2) := by
            by_cases hkk : k' = k
            · subst hkk
              rw [hk] at a2
              cases a2
              exact ⟨spl e off ds, by rw [List.getElem?_set]; simp [hklt], by rw [spl_get (by rw [hn]; exact hl), if_neg (fun h => hnot ⟨rfl, h.1, h.2⟩)]; exact a3⟩
            · exact ⟨e0, by rw [List.getElem?_set, if_neg (Ne.symm hkk)]; exact a2, a3⟩
          exact ⟨q, ty, sz, _, e3, sz2, es2, b, c, _, hset_eq, a7, a8, upd_same _ _ _, hnewh, by rw [hsame, upd_ne m _ hne]; exact a6⟩
        · exact .inl ⟨e2, hset_ne par e2⟩
      · exact ⟨rfl, rfl, rfl, by simp [World.setRow], fun y hy hne => hoth y (fun e2 => by subst e2; rcases hown.1 with h | h; omega; exact hne h), Nat.le_refl _⟩
      · rintro y (rfl | hf)
        · exact ⟨id, _, hg, .inl ⟨c, hm⟩, .inl rfl⟩
        · exact ⟨id, _, hg, .inr hf, .inl rfl⟩
      · intro y hy
        rcases hy with ⟨c', hc'⟩ | hf
        · rw [upd_same] at hc'
          cases hc'
          exact ⟨hown.1, by simpa [World.setRow] using hown.2, .inr (.inl rfl)⟩
        · rw [upd_ft] at hf
          have := hs.own id _ y hg (.inr hf)
          exact ⟨this.1, by simpa [World.setRow] using this.2, .inr (.inr hf)⟩
      · intro p' e2
        rw [← hm]
        exact hs.pin id _ p' hg (pinOf_deep e2)
      · intro p' ty' sz' es' e2
        cases e2
        refine ⟨g1, _, hnewh, ?_, by simpa using hec, hcm, spl_mem_len hk hes (by rw [hn]; exact hl), Fp, f1, f2, fun k' e' j d u he' hd2 hu => ?_⟩
        · rw [List.size_toArray, spl_len (by simpa using hvl)]; simpa using ha
        · rcases hcells he' hd2 (by simpa using hu) with ⟨_, _, _, h7, h8⟩ | ⟨e0, h7, h8, h9, _⟩
          · exact (hR _ d u h7 (by simpa using h8)).1.rd.tr (D.scB_sc (List.all_eq_true.1 hsc d (List.mem_of_getElem? h7)))
          · exact (f3 k' e0 j d u h7 h8 (by simpa using h9)).frame fun y hy => hoth y fun e3 => g1 (by subst e3; exact f1 _ _ _ hy)
theorem alC_inv {es : List (List D)} {k j sz : Nat} {es' : List (List D)} (h : alC es k j = some (sz, es')) : ∃ e, es[k]? = some e ∧ e[j]? = some (.lst sz es') := by
  unfold alC at h
  split at h
  · rename_i e he
    split at h
    · rename_i he2; cases h; exact ⟨e, he, he2⟩
    · cases h
  · cases h
theorem setC_get {es : List (List D)} {k j : Nat} {e : List D} {d : D} (he : es[k]? = some e) {k' j' : Nat} {e' : List D} {d' : D} (h1 : (setC es k j d)[k']? = some e') (h2 : e'[j']? = some d') : (k' = k ∧ j' = j ∧ d' = d) ∨ (¬ (k' = k ∧ j' = j) ∧ ∃ e0, es[k']? = some e0 ∧ e0[j']? = some d') := by
  unfold setC at h1
  rw [he] at h1
  simp only [] at h1
  rw [List.getElem?_set] at h1
  split at h1
  · rename_i hk
    subst hk
    split at h1
    · cases h1
      rw [List.getElem?_set] at h2
      split at h2
      · rename_i hj
        subst hj
        split at h2
        · cases h2; exact .inl ⟨rfl, rfl, rfl⟩
        · cases h2
      · rename_i hj
        exact .inr ⟨fun h => hj h.2.symm, e, he, h2⟩
    · cases h1
  · rename_i hk
    exact .inr ⟨fun h => hk h.1.symm, e', h1, h2⟩
theorem setC_at {es : List (List D)} {k j : Nat} {e : List D} {d d0 : D} (he : es[k]? = some e) (hd : e[j]? = some d0) : ∃ e', (setC es k j d)[k]? = some e' ∧ e'[j]? = some d := by
  have h1 := (List.getElem?_eq_some_iff.1 he).1
  have h2 := (List.getElem?_eq_some_iff.1 hd).1
  refine ⟨e.set j d, ?_, by rw [List.getElem?_set]; simp [h2]⟩
  unfold setC
  rw [he]
  simp only []
  rw [List.getElem?_set]
  simp [h1]
theorem setC_other {es : List (List D)} {k j : Nat} {e : List D} {d : D} (he : es[k]? = some e) {k' j' : Nat} {e0 : List D} {d' : D} (hne : ¬ (k' = k ∧ j' = j)) (h1 : es[k']? = some e0) (h2 : e0[j']? = some d') : ∃ e', (setC es k j d)[k']? = some e' ∧ e'[j']? = some d' := by
  have hk := (List.getElem?_eq_some_iff.1 he).1
  unfold setC
  rw [he]
  simp only []
  by_cases hkk : k' = k
  · subst hkk
    rw [he] at h1
    cases h1
    exact ⟨e.set j d, by rw [List.getElem?_set]; simp [hk], by rw [List.getElem?_set, if_neg (fun h => hne ⟨rfl, h.symm⟩)]; exact h2⟩
  · exact ⟨e0, by rw [List.getElem?_set, if_neg (Ne.symm hkk)]; exact h1, h2⟩
theorem setC_len {es : List (List D)} {k j : Nat} {d : D} : (setC es k j d).length = es.length := by unfold setC; split <;> simp
theorem setC_mem {es : List (List D)} {k j sz : Nat} {d : D} (hz : ∀ e, e ∈ es → e.length = sz) : ∀ e, e ∈ setC es k j d → e.length = sz := by
  intro e' he'
  unfold setC at he'
  split at he'
  · rename_i e he
    obtain ⟨i, hi⟩ := List.getElem?_of_mem he'
    rw [List.getElem?_set] at hi
    split at hi
    · split at hi
      · cases hi; rw [List.length_set]; exact hz e (List.mem_of_getElem? he)
      · cases hi
    · exact hz e' (List.mem_of_getElem? hi)
  · exact hz e' he'
/-- scalars are stored into a part of a deep row -/
theorem po_store_al {t : TypeId} {p x : Operand} {ti : TI} {id par k j sz szp i off q ty : Nat} {es es' : List (List D)} {e1 ds : List D} (ho : o.op = .store t p x) (ht : tiB P t ti = true) (hp : s.get p = .rptr id sz i off) (hg : hget s.hp id = some (.al par k j)) (hgp : hget s.hp par = some (.deep q ty szp es)) (hal : alC es k j = some (sz, es')) (hk : es'[i]? = some e1)
    (hd : dsOf (cellsPV (s.get x)) = some ds) (hsc : ds.all D.scB = true) (hn : ds.length = ti.size) (hl : off + ti.size ≤ e1.length)
    (hK : K (AS.put ⟨s.fr, hset s.hp par (.deep q ty szp (setC es k j (.lst sz (es'.set i (spl e1 off ds))))), s.nx⟩ o.dst .und)) : PO P o s K :=
  PO.skip fun X0 w0 m a w hs => by
    have hd' := dsOf_map hd
    have h2 := (hs.get x).cellsOf (by rw [hd']; exact onePV_ds)
    rw [hd', List.length_map] at h2
    have h3 := hs.get p
    rw [hp] at h3
    obtain ⟨b', c', hm', he⟩ := h3.rptr_inv
    obtain ⟨e, k1, k2⟩ := alC_inv hal
    obtain ⟨q0, ty0, sz0, es0, e0, sz2, es2, b, c, arr, a1, a2, a3, a4, a5, a6⟩ := hs.al id par k j hg
    rw [hgp] at a1
    cases a1
    rw [k1] at a2
    cases a2
    rw [k2] at a3
    cases a3
    have a6' : arr[k * szp + j]? = some (.slice (some ⟨b', 0, none⟩) es'.length c') := by
      rcases a6 with ⟨a7, _⟩ | ⟨b2, c2, a7, a8⟩
      · rw [hm'] at a7; cases a7
      · rw [hm'] at a7; cases a7; exact a8
    have hdp := hs.dp par q ty szp es hgp
    rw [a4] at hdp
    obtain ⟨g1, arr_, hh, ha, hec, hcm, hes, Fpp, f1, f2, f3⟩ := hdp
    rw [a5] at hh
    cases hh
    have htr := f3 k e j _ _ k1 k2 a6'
    generalize hD : D.lst sz es' = D0 at htr
    generalize hV : Value.slice (some ⟨b', 0, none⟩) es'.length c' = V0 at htr
    cases htr with
    | int => cases hD
    | bool => cases hD
    | str => cases hD
    | nil => cases hV
    | lst _ sz_ es_ b_ c_ arr2 ty2 Fp2 q1 q2 q3 q4 q5 q6 q7 q8 q9 =>
      cases hD
      cases hV
      have hbb : b' ≠ b := fun e2 => g1 (by rw [← e2]; exact f1 _ _ _ q1)
      obtain ⟨inf, hi, hisz⟩ := ti_size ht
      have hesz := q6 e1 (List.mem_of_getElem? hk)
      have hklt := (List.getElem?_eq_some_iff.1 hk).1
      have hbig : (i + 1) * sz ≤ c' * sz := Nat.mul_le_mul_right _ (by omega)
      rw [Nat.succ_mul] at hbig
      have hvl : i * sz + off + (a.eval x).cells.size ≤ arr2.size := by rw [h2.1, hn, q3]; omega
      have hR : ∀ (j : Nat) (d : D) (u : Value), ds[j]? = some d → (a.eval x).cells[j]? = some u → R m.loc (Owned X0 m s.hp) w (.d d) u ∧ u.oneCell' = true := fun j d u hj hu => h2.2 j (.d d) u (by rw [List.getElem?_map, hj]; rfl) hu
      have h6 : ∀ u ∈ (a.eval x).cells.toList, u.oneCell' = true := by
        intro u hu
        obtain ⟨j, hj⟩ := List.getElem?_of_mem hu
        have hj' : (a.eval x).cells[j]? = some u := by simpa using hj
        have hlt : j < ds.length := by rw [← h2.1]; exact (Array.getElem?_eq_some_iff.1 hj').1
        exact (hR j _ u (List.getElem?_eq_getElem hlt) hj').2
      have hrun := store_run (P := P) (t := t) hi (by rw [h2.1, hn, hisz]) q2 hvl h6
      have e2 : (a.eval x).cells.toList.length = ds.length := by simpa using h2.1
      have hown : ∀ y, m.ft par y → (w0.w.heap.size ≤ y ∨ w0.chg y) ∧ y < w.heap.size := fun y hy => hs.own par _ y hgp (.inr hy)
      have hfb : m.ft par b' := f1 _ _ _ q1
      let nd : Blk := .deep q ty szp (setC es k j (.lst sz (es'.set i (spl e1 off ds))))
      have hset_ne : ∀ id', id' ≠ par → hget (hset s.hp par nd) id' = hget s.hp id' := fun id' hne => by rw [hget_hset, if_neg hne]
      have hset_eq : hget (hset s.hp par nd) par = some nd := by rw [hget_hset]; simp [hgp]
      have hoth : ∀ y, y ≠ b' → (w.setRow b' (spl arr2.toList (i * sz + off) (a.eval x).cells.toList).toArray).heap[y]? = w.heap[y]? := fun y hy => setRow_other w b' y _ hy
      have hnewh := setRow_heap w b' arr2 (spl arr2.toList (i * sz + off) (a.eval x).cells.toList).toArray ty2 _ q2
      have hcells := fun {k' j : Nat} {e' : List D} {d : D} {u : Value} => spl_chunk (arr := arr2.toList) (vs := (a.eval x).cells.toList) hk q6 (by rw [hn]; exact hl) e2 (by simpa using hvl) (k' := k') (j := j) (e' := e') (d := d) (u := u)
      have hrootb : (w.setRow b' (spl arr2.toList (i * sz + off) (a.eval x).cells.toList).toArray).heap[b]? = some (.cells arr ty (0, 0)) := (hoth b (Ne.symm hbb)).trans a5
      have hlen' : (es'.set i (spl e1 off ds)).length = es'.length := List.length_set
      have hinner : Tr (w.setRow b' (spl arr2.toList (i * sz + off) (a.eval x).cells.toList).toArray) (Fpp k j) (.lst sz (es'.set i (spl e1 off ds))) (.slice (some ⟨b', 0, none⟩) es'.length c') := by
        rw [← hlen']
        refine .lst _ sz _ b' c' _ ty2 Fp2 q1 hnewh ?_ (by rw [hlen']; exact q4) q5 (spl_mem_len hk q6 (by rw [hn]; exact hl)) q7 q8 fun k' e' j d u he' hd2 hu => ?_
        · rw [List.size_toArray, spl_len (by simpa using hvl)]; simpa using q3
        · rcases hcells he' hd2 (by simpa using hu) with ⟨_, _, _, h7, h8⟩ | ⟨e0, h7, h8, h9, _⟩
          · exact (hR _ d u h7 (by simpa using h8)).1.rd.tr (D.scB_sc (List.all_eq_true.1 hsc d (List.mem_of_getElem? h7)))
          · exact (q9 k' e0 j d u h7 h8 (by simpa using h9)).frame fun y hy => hoth y (q7 _ _ _ hy).2
      refine ⟨w.setRow b' (spl arr2.toList (i * sz + off) (a.eval x).cells.toList).toArray, upd m par (.blk b c) (m.ft par), ⟨s.fr, hset s.hp par nd, s.nx⟩, ?_, ?_, hK⟩
      · simp only [execOp, ho, he, Sem.run_bind, hrun, Result.andThen_ok, Sem.run_pure]
      · refine hs.changeD (i := par) (blk' := nd) (F' := m.ft par) (fun y => y = b ∨ m.ft par y) (.inr a4) hset_eq (fun id' hne blk hb => by rw [hset_ne id' hne] at hb; exact hb) rfl (fun id' par' k' j' hne ha' => ?_) (Nat.le_refl _) (hs.lt_nx a4) ?_ (fun y hy hne => hoth y fun h => hne (.inr (h ▸ hfb))) ?_ ?_ ?_ ?_ (fun _ => trivial)
        · rw [hset_ne id' hne] at ha'
          by_cases e3 : par' = par
          · subst e3
            refine .inr ?_
            obtain ⟨q', ty', sz', es3, e0, sz3, es4, b3, c3, arr', r1, r2, r3, r4, r5, r6⟩ := hs.al id' par' k' j' ha'
            rw [hgp] at r1
            cases r1
            rw [a4] at r4
            cases r4
            rw [a5] at r5
            cases r5
            by_cases hkj : k' = k ∧ j' = j
            · obtain ⟨rfl, rfl⟩ := hkj
              rw [k1] at r2
              cases r2
              rw [k2] at r3
              cases r3
              obtain ⟨e', s1, s2⟩ := setC_at (d := .lst sz (es'.set i (spl e1 off ds))) k1 k2
              exact ⟨q, ty, szp, _, e', sz, _, b, c, arr, hset_eq, s1, s2, upd_same _ _ _, hrootb, by rw [upd_ne m _ hne, hlen']; exact r6⟩
            · obtain ⟨e', s1, s2⟩ := setC_other (d := .lst sz (es'.set i (spl e1 off ds))) k1 hkj r2 r3
              exact ⟨q, ty, szp, _, e', sz3, es4, b, c, arr, hset_eq, s1, s2, upd_same _ _ _, hrootb, by rw [upd_ne m _ hne]; exact r6⟩
          · exact .inl ⟨e3, hset_ne par' e3⟩
        · exact ⟨rfl, rfl, rfl, by simp [World.setRow], fun y hy hne => hoth y (fun e3 => by subst e3; rcases (hown y hfb).1 with h | h; omega; exact hne h), Nat.le_refl _⟩
        · rintro y (rfl | hf)
          · exact ⟨par, _, hgp, .inl ⟨c, a4⟩, .inl rfl⟩
          · exact ⟨par, _, hgp, .inr hf, .inl rfl⟩
        · intro y hy
          rcases hy with ⟨c2, hc2⟩ | hf
          · rw [upd_same] at hc2
            cases hc2
            have := hs.own par _ b hgp (.inl ⟨c, a4⟩)
            exact ⟨this.1, by simpa [World.setRow] using this.2, .inr (.inl rfl)⟩
          · rw [upd_ft] at hf
            have := hown y hf
            exact ⟨this.1, by simpa [World.setRow] using this.2, .inr (.inr hf)⟩
        · intro p' e3
          have e4 : (Blk.deep q ty szp (setC es k j (.lst sz (es'.set i (spl e1 off ds))))).pinOf = some p' := e3
          rw [← a4]
          exact hs.pin par _ p' hgp (pinOf_deep e4)
        · intro p' ty' sz' es3 e3
          have e4 : Blk.deep q ty szp (setC es k j (.lst sz (es'.set i (spl e1 off ds)))) = _ := e3
          cases e4
          refine ⟨g1, arr, hrootb, ha, by rw [setC_len]; exact hec, hcm, setC_mem hes, Fpp, f1, f2, fun k' e' j' d u he' hd2 hu => ?_⟩
          rcases setC_get k1 he' hd2 with ⟨rfl, rfl, rfl⟩ | ⟨hne, e0, h7, h8⟩
          · rw [a6'] at hu
            cases hu
            exact hinner
          · exact (f3 k' e0 j' d u h7 h8 hu).frame fun y hy => hoth y fun e3 => hne (by subst e3; exact f2 _ _ _ _ _ hy q1)
end rules
end Go.Proofs.Ytldcnlhfanbdfaa
