/-
  The abstract machine: structs with a nil list of their own; a part that is dropped or appended to and put back. No program is named here.
-/
import Derived.Test.YthocihmhljmgdaaGreatDoorZMc
import Derived.Test.YthocihmhljmgdaaGreatDoorZMe
namespace Go.Proofs.YthocihmhljmgdaaGreatDoor
open Go.RowKit

/-- a zero cell: a nil list is a row of the call's own -/
def nilP (i : Nat) : D → PV
  | .lst _ [] => .row i 0
  | d => .d d
theorem zEq_lst {sz : Nat} {v : Value} (h : zEq (.lst sz []) v = true) : v = .slice none 0 0 := by
  unfold zEq at h
  split at h
  all_goals first | rfl | contradiction | simp_all
theorem zEq_nil {i : Nat} {d : D} {v : Value} (h : zEq d v = true) {m : Nat → Option Loc} {X : Nat → Prop} {w : World} (hm : m i = some .nil) : R m X w (nilP i d) v := by
  have hd : Rd w X d v := zEq_rd h w X
  unfold nilP
  split
  · rw [zEq_lst h]; exact .rowN _ hm
  · exact .d _ _ hd
theorem zB_nil {z : List D} {v : Value} (h : zB z v = true) : v.cells.size = z.length ∧ ∀ (j : Nat) (d : D) (u : Value), z[j]? = some d → v.cells[j]? = some u → zEq d u = true := by
  simp only [zB, Bool.and_eq_true, beq_iff_eq] at h
  refine ⟨h.1.symm, fun j d u hj hu => ?_⟩
  have hm : (d, u) ∈ z.zip v.cells.toList := List.mem_of_getElem? (i := j) (by rw [List.getElem?_zip_eq_some]; exact ⟨hj, by simpa using hu⟩)
  exact List.all_eq_true.1 h.2 _ hm
section rules
variable {P : Program} {o : Oper} {s : AS} {K : AS → Prop}
/-- a struct, field by field; its nil list is a row of the call's own -/
theorem po_build_nil {t : TypeId} {parts : Array (Nat × Operand)} {n : Nat} {fs : List (Nat × Nat)} {z : List D} {cs : List PV} (ty : TypeId) (sz : Nat) (ho : o.op = .build t parts) (ht : tiB P t (.st n fs z) = true)
    (hf : fillPV (fs[·]?) (z.map (nilP s.nx)) (parts.toList.map fun p => (p.1, s.get p.2)) = some cs) (hK : K (AS.put ⟨s.fr, (s.nx, .row ty sz []) :: s.hp, s.nx + 1⟩ o.dst (.agg cs))) : PO P o s K :=
  PO.mk fun X0 w0 m a w hs => by
    have hg := hs.ghost ty sz
    obtain ⟨⟨fields, h1, h2, h3⟩, i, v, h4, h5, h6, h7, h8⟩ := tiB_st ht
    obtain ⟨g1, g2⟩ := zB_nil h7
    have hplace : fields.toList.mapM (fun f => (P.info? f.type).map fun i => (f.offset, i.size)) = some fs := by
      refine mapM_eq _ _ (by simpa using h2) fun j f p hf hp => ?_
      obtain ⟨q1, q2, i', q3, q4⟩ := h3 j f p (by simpa using hf) hp
      rw [q3]
      simp [q1, q4]
    obtain ⟨arr', r1, r2, r3, r4⟩ := fill_run (m := (upd m s.nx .nil).loc) (X := Owned X0 (upd m s.nx .nil) ((s.nx, .row ty sz []) :: s.hp)) (w := w) (fs[·]?) _ (parts.toList.map fun p => (p.1, a.eval p.2)) _ _ v.cells hf (by simp) (fun j x u hx hu => by
      rw [List.getElem?_map] at hx hu
      cases hj : parts.toList[j]? with
      | none => rw [hj] at hx; cases hx
      | some p =>
        rw [hj] at hx hu
        cases hx
        cases hu
        have e : AS.get ⟨s.fr, (s.nx, .row ty sz []) :: s.hp, s.nx + 1⟩ p.2 = s.get p.2 := by cases p.2 <;> rfl
        have h9 := hg.get p.2
        rw [e] at h9
        exact h9) (by simp [g1]) (fun j x u hx hu => by
      rw [List.getElem?_map] at hx
      cases hj : z[j]? with
      | none => rw [hj] at hx; cases hx
      | some d =>
        rw [hj] at hx
        cases hx
        have h9 := g2 j d u hj hu
        exact ⟨zEq_nil h9 (upd_same _ _ _), .inr (zEq_rd h9 w (fun _ => False)).one⟩)
    refine ⟨.agg arr', w, _, _, .agg cs, ?_, hg, .agg _ _ r2 fun j x u hx hu => (r4 j x u hx hu).1, hK⟩
    have hbuilt : P.built t (parts.map fun p => (p.1, a.eval p.2)).toList = some arr' := by
      unfold Program.built
      simp only [h4, h1, h6, hplace]
      simpa using r1
    have hrun := run_build (P := P) w t (parts.map fun p => (p.1, a.eval p.2)) arr' hbuilt
    simp only [execOp, ho, Sem.run_bind]
    rw [hrun]
    rfl
theorem pure_field {t : TypeId} {x : Operand} {f n : Nat} {fs : List (Nat × Nat)} {z : List D} {fo : Nat × Nat} {y : PV} (ho : o.op = .fieldAddr t x f) (ht : tiB P t (.st n fs z) = true) (hf : fs[f]? = some fo) (hx : ptrAdd fo.1 (s.get x) = some y) : PureAt P o s y := fun m X w a hq => by
    obtain ⟨b, off, h1, h2⟩ := ptrAdd_R hx (hq x)
    obtain ⟨⟨fields, h3, h4, h5⟩, _⟩ := tiB_st ht
    have hlt : f < fields.size := by rw [h4]; exact (List.getElem?_eq_some_iff.1 hf).1
    obtain ⟨h6, h7, i, h8, h9⟩ := h5 f fields[f] fo (by simp [hlt]) hf
    refine ⟨_, fun u => ?_, h2⟩
    have hne : ¬ fo.2 = 0 := by omega
    simp [execOp, ho, h1, Instr.fieldAt, run_underlying h3, hlt, Instr.sureAddr, fieldPlace, run_size h8, h9, hne, h6, Addr.add_lit]
theorem pure_nilCheck {x : Operand} (ho : o.op = .nilCheck x) (hx : isPtr (s.get x) = true) : PureAt P o s (s.get x) := fun m X w a hq => by
    have h1 := hq x
    refine ⟨a.eval x, fun u => ?_, h1⟩
    have : ∃ b, a.eval x = .pointer (some b) := by
      generalize a.eval x = v at h1
      generalize hg : s.get x = y at h1 hx
      cases h1 <;> first | exact ⟨_, rfl⟩ | cases hx
    obtain ⟨b, hb⟩ := this
    simp [execOp, ho, hb]
end rules
section part
variable {X0 : Nat → Prop} {w0 : Base} {m : Mp} {s : AS} {a : Act} {w : World}
/-- cells of a deep row are overwritten by values that own what they hold -/
theorem Sim.store_part (hs : Sim X0 w0 m s a w) {id k off q ty sz b c : Nat} {es : List (List D)} {e ds : List D} {arr : Array Value} {Fp : Nat → Nat → Nat → Prop} {w' : World} {vs : List Value} {G : Nat → Nat → Prop}
    (hg : hget s.hp id = some (.deep q ty sz es)) (hm : m.loc id = some (.blk b c)) (g1 : ¬ m.ft id b) (hh : w.heap[b]? = some (.cells arr ty (0, 0))) (ha : arr.size = c * sz) (hec : es.length ≤ c) (hcm : c ≤ maxLen) (hes : ∀ e, e ∈ es → e.length = sz)
    (f1 : ∀ k j x, Fp k j x → m.ft id x) (f2 : ∀ k j k' j' x, Fp k j x → Fp k' j' x → k = k' ∧ j = j')
    (f3 : ∀ (k : Nat) (e : List D) (j : Nat) (d : D) (v : Value), es[k]? = some e → e[j]? = some d → arr[k * sz + j]? = some v → Tr w (Fp k j) d v)
    (hk : es[k]? = some e) (hl : off + ds.length ≤ e.length) (hvs : vs.length = ds.length)
    (hb : KeepB w0 w w') (hsame : ∀ x, x < w.heap.size → (∀ j, j < ds.length → ¬ Fp k (off + j) x) → w'.heap[x]? = w.heap[x]?)
    (hG : ∀ j y, G j y → j < ds.length ∧ y < w'.heap.size ∧ (w.heap.size ≤ y ∨ Fp k (off + j) y)) (hGd : ∀ j j' y, G j y → G j' y → j = j')
    (htr : ∀ (j : Nat) (d : D) (u : Value), ds[j]? = some d → vs[j]? = some u → Tr w' (G j) d u) :
    Sim X0 w0 (upd m id (.blk b c) (fun y => m.ft id y ∨ ∃ j, G j y)) ⟨s.fr, hset (hcut2 s.hp [] id) id (.deep q ty sz (es.set k (spl e off ds))), s.nx⟩ a (w'.setRow b (spl arr.toList (k * sz + off) vs).toArray) := by
  have hklt := (List.getElem?_eq_some_iff.1 hk).1
  have hesz := hes e (List.mem_of_getElem? hk)
  have hbig : (k + 1) * sz ≤ c * sz := Nat.mul_le_mul_right _ (by omega)
  rw [Nat.succ_mul] at hbig
  have hvl : k * sz + off + vs.length ≤ arr.size := by rw [hvs, ha]; omega
  have hown := hs.own id _ b hg (.inl ⟨c, hm⟩)
  have hft : ∀ y, m.ft id y → (w0.w.heap.size ≤ y ∨ w0.chg y) ∧ y < w.heap.size := fun y hy => hs.own id _ y hg (.inr hy)
  have hh' : w'.heap[b]? = some (.cells arr ty (0, 0)) := (hsame b hown.2 fun j _ hf => g1 (f1 _ _ _ hf)).trans hh
  let nd : Blk := .deep q ty sz (es.set k (spl e off ds))
  let F' : Nat → Prop := fun y => m.ft id y ∨ ∃ j, G j y
  have hgid : hget (hcut2 s.hp [] id) id = some (.deep q ty sz es) := hcut2_deep hg (by simp) rfl
  have hset_ne : ∀ id', id' ≠ id → hget (hset (hcut2 s.hp [] id) id nd) id' = hget (hcut2 s.hp [] id) id' := fun id' hne => by rw [hget_hset, if_neg hne]
  have hset_eq : hget (hset (hcut2 s.hp [] id) id nd) id = some nd := by rw [hget_hset]; simp [hgid]
  have hoth : ∀ y, y ≠ b → (w'.setRow b (spl arr.toList (k * sz + off) vs).toArray).heap[y]? = w'.heap[y]? := fun y hy => setRow_other w' b y _ hy
  have hnewh := setRow_heap w' b arr (spl arr.toList (k * sz + off) vs).toArray ty _ hh'
  have hcells := fun {k' j : Nat} {e' : List D} {d : D} {u : Value} => spl_chunk (arr := arr.toList) (vs := vs) hk hes hl hvs (by simpa using hvl) (k' := k') (j := j) (e' := e') (d := d) (u := u)
  have hGb : ∀ j y, G j y → y ≠ b := by
    intro j y hy e2
    subst e2
    rcases (hG j y hy).2.2 with h | h
    · omega
    · exact g1 (f1 _ _ _ h)
  refine hs.changeD (i := id) (blk' := nd) (F' := F') (fun y => y = b ∨ m.ft id y) (.inr hm) hset_eq (fun id' hne blk hb => by rw [hset_ne id' hne] at hb; exact (hcut2_keep hb).2) rfl (fun id' par k' j' hne ha' => ?_) (Nat.le_refl _) (hs.lt_nx hm) ?_ (fun y hy hne => ?_) ?_ ?_ ?_ ?_ (fun _ => trivial)
  · rw [hset_ne id' hne] at ha'
    have h7 := (hcut2_keep ha').2
    obtain ⟨h8, h9⟩ := hcut2_al ha'
    obtain ⟨q', ty', sz', es', _, _, _, _, _, _, a1, _⟩ := hs.al id' par k' j' h7
    exact .inl ⟨h9, by rw [hset_ne par h9, hcut2_deep a1 h8 rfl, a1]⟩
  · exact hb.trans ⟨rfl, rfl, rfl, by simp [World.setRow], fun y hy hne => hoth y (fun e2 => by subst e2; rcases hown.1 with h | h; omega; exact hne h), .of_le (Nat.le_refl _)⟩
  · have hy1 : y ≠ b := fun h => hne (.inl h)
    rw [hoth y hy1]
    exact hsame y hy fun j _ hf => hne (.inr (f1 _ _ _ hf))
  · rintro y (rfl | hf)
    · exact ⟨id, _, hg, .inl ⟨c, hm⟩, .inl rfl⟩
    · exact ⟨id, _, hg, .inr hf, .inl rfl⟩
  · intro y hy
    have hsz : (w'.setRow b (spl arr.toList (k * sz + off) vs).toArray).heap.size = w'.heap.size := by simp [World.setRow]
    rw [hsz]
    have hle := hb.size
    rcases hy with ⟨c', hc'⟩ | hf
    · rw [upd_same] at hc'
      cases hc'
      exact ⟨hown.1, by omega, .inr (.inl rfl)⟩
    · rw [upd_ft] at hf
      rcases hf with hf | ⟨j, hf⟩
      · have := hft y hf
        exact ⟨this.1, by omega, .inr (.inr hf)⟩
      · obtain ⟨_, h1, h2⟩ := hG j y hf
        rcases h2 with h2 | h2
        · exact ⟨.inl (Nat.le_trans hs.below.size h2), h1, .inl h2⟩
        · exact ⟨(hft y (f1 _ _ _ h2)).1, h1, .inr (.inr (f1 _ _ _ h2))⟩
  · intro p' e2
    have e3 : (Blk.deep q ty sz (es.set k (spl e off ds))).pinOf = some p' := e2
    rw [← hm]
    exact hs.pin id _ p' hg (pinOf_deep e3)
  · intro p' ty' sz' es' e2
    have e3 : Blk.deep q ty sz (es.set k (spl e off ds)) = _ := e2
    cases e3
    refine ⟨fun hF => ?_, _, hnewh, ?_, by simpa using hec, hcm, spl_mem_len hk hes hl,
      fun k' j y => (k' = k ∧ off ≤ j ∧ j < off + ds.length ∧ G (j - off) y) ∨ (¬ (k' = k ∧ off ≤ j ∧ j < off + ds.length) ∧ Fp k' j y), ?_, ?_, fun k' e' j d u he' hd2 hu => ?_⟩
    · rcases hF with hf | ⟨j, hf⟩
      · exact g1 hf
      · exact hGb j b hf rfl
    · rw [List.size_toArray, spl_len (by simpa using hvl)]; simpa using ha
    · rintro k' j y (⟨_, _, _, hy⟩ | ⟨_, hy⟩)
      · exact .inr ⟨_, hy⟩
      · exact .inl (f1 _ _ _ hy)
    · have hx : ∀ k' j' j y, G j y → ¬ (k' = k ∧ off ≤ j' ∧ j' < off + ds.length) → Fp k' j' y → False := by
        intro k' j' j y h1 h2 h3
        obtain ⟨h4, _, h5⟩ := hG j y h1
        rcases h5 with h5 | h5
        · have := (hft y (f1 _ _ _ h3)).2; omega
        · obtain ⟨e4, e5⟩ := f2 _ _ _ _ _ h3 h5
          exact h2 ⟨e4, by omega, by omega⟩
      rintro k' j k2 j2 y (⟨p1, p2, p3, hy⟩ | ⟨p1, hy⟩) (⟨r1, r2, r3, hy'⟩ | ⟨r1, hy'⟩)
      · have := hGd _ _ _ hy hy'
        omega
      · exact (hx _ _ _ _ hy r1 hy').elim
      · exact (hx _ _ _ _ hy' p1 hy).elim
      · exact f2 _ _ _ _ _ hy hy'
    · rcases hcells he' hd2 (by simpa using hu) with ⟨h7, h8, h9, h10, h11⟩ | ⟨e0, h7, h8, h9, h10⟩
      · exact ((htr _ d u h10 h11).sub fun y hy => (.inl ⟨h7, h8, h9, hy⟩ : (k' = k ∧ off ≤ j ∧ j < off + ds.length ∧ G (j - off) y) ∨ (¬ (k' = k ∧ off ≤ j ∧ j < off + ds.length) ∧ Fp k' j y))).frame fun y hy => hoth y (by
          rcases hy with ⟨_, _, _, hy⟩ | ⟨_, hy⟩
          · exact hGb _ _ hy
          · exact fun e3 => g1 (by subst e3; exact f1 _ _ _ hy))
      · have hfy : ∀ y, Fp k' j y → (w'.setRow b (spl arr.toList (k * sz + off) vs).toArray).heap[y]? = w.heap[y]? := by
          intro y hy
          rw [hoth y fun e3 => g1 (by subst e3; exact f1 _ _ _ hy)]
          refine hsame y (hft y (f1 _ _ _ hy)).2 fun j0 hj0 hf => ?_
          obtain ⟨e4, e5⟩ := f2 _ _ _ _ _ hy hf
          exact h10 ⟨e4, by omega, by omega⟩
        exact (((f3 k' e0 j d u h7 h8 (by simpa using h9)).frame hfy).sub fun y hy => (.inr ⟨h10, hy⟩ : (k' = k ∧ off ≤ j ∧ j < off + ds.length ∧ G (j - off) y) ∨ (¬ (k' = k ∧ off ≤ j ∧ j < off + ds.length) ∧ Fp k' j y)))
end part
theorem run_append_room2 {P : Program} (w : World) (t ty e e0 : TypeId) (i : TypeInfo) (ht : P.underlying t = some (.slice e)) (hi : P.info? e = some i)
    (g sLen sCap : Nat) (cur : Array Value) (hg : w.heap[g]? = some (.cells cur e0 (0, 0)))
    (a : Addr) (m c : Nat) (news : List Value) (hl : news.length = m * i.size) (hnews : ∀ j u, news[j]? = some u → w.cell? (a.add j) = some u) (h1 : ∀ u ∈ news, u.oneCell' = true)
    (hroom : sLen + m ≤ sCap) (hfit : sLen * i.size + news.length ≤ cur.size) :
    (Builtin.append_ #[t, t] ty #[.slice (some ⟨g, 0, none⟩) sLen sCap, .slice (some a) m c]).run P w =
      .ok (.slice (some ⟨g, 0, none⟩) (sLen + m) sCap) (w.setRow g (cur.toList.take (sLen * i.size) ++ news ++ cur.toList.drop (sLen * i.size + news.length)).toArray) := by
  have hf := run_firstCells_some (P := P) w i.size m a m c news hl hnews
  have hst := run_storeCells_at P g (sLen * i.size) e0 news 0 cur w hg (by simpa using hfit) h1
  simp only [Nat.add_zero] at hst
  simp [Builtin.append_, run_underlying ht, sizeOf, typeInfo, hi, Builtin.lenOf, hroom, hf, Addr.add_lit, hst]
theorem append_run2 {P : Program} {w : World} {t ty e e0 : TypeId} {i : TypeInfo} {z : Value} (ht : P.underlying t = some (.slice e)) (hi : P.info? e = some i) (hz : i.zero = some z) {sz bytes : Nat} (hsz : i.size = sz) (hby : i.bytes = bytes) (hzs : z.cells.size = sz)
    {l : Loc} {v : Value} {n : Nat} {xs : List Value} (hl : Lies w e0 sz l v n xs) {A : Option Addr} {m c' : Nat} {news : List Value} (hn : news.length = m * sz) (hA : A = none → m = 0) (hnews : ∀ a, A = some a → ∀ (j : Nat) u, news[j]? = some u → w.cell? (a.add j) = some u)
    (h1 : ∀ u ∈ news, u.oneCell' = true) (h63 : n + m ≤ maxLen) (hb : (n + m) * bytes ≤ 140737488355328) :
    ∃ v' w' l' e1, (Builtin.append_ #[t, t] ty #[v, .slice A m c']).run P w = .ok v' w' ∧ Lies w' e1 sz l' v' (n + m) (xs ++ news) ∧ w'.os = w.os ∧ w'.tape = w.tape ∧ w'.output = w.output ∧ (w.heap.size ≤ w'.heap.size ∧ w.drawn ≤ w'.drawn) ∧
      (∀ k, k < w.heap.size → (∀ c, l ≠ .blk k c) → w'.heap[k]? = w.heap[k]?) ∧ (∀ g c, l' = .blk g c → g < w'.heap.size ∧ (w.heap.size ≤ g ∨ l = .blk g c)) := by
  subst hsz
  subst hby
  have hlen : (xs ++ news).length = (n + m) * i.size := by rw [List.length_append, hl.len, hn, Nat.add_mul]
  have hsmall : n + m ≤ 9223372036854775807 := by simp only [maxLen] at h63; omega
  have grown : ∀ (old : Nat), old < n + m → Lies (w.drew.alloc (.cells (xs.toArray ++ news.toArray ++ Builtin.zeroCells z.cells (grownCap w (n + m) old e - (n + m))) e)) e i.size (.blk w.heap.size (grownCap w (n + m) old e)) (.slice (some ⟨w.heap.size, 0, none⟩) (n + m) (grownCap w (n + m) old e)) (n + m) (xs ++ news) := by
    intro old ho
    have hge := grownCap_ge w (n + m) old e
    refine ⟨rfl, _, heap_alloc_new w.drew _, ?_, hge, grownCap_le_maxLen w (n + m) old e h63, ?_⟩
    · simp only [Array.size_append, List.size_toArray, size_zeroCells, hzs, hl.len, hn, ← Nat.add_mul]
      congr 1
      omega
    · simp only [Array.toList_append, List.append_assoc]
      rw [← List.append_assoc, ← hlen]
      exact List.take_left
  have same : ∀ o k, k < w.heap.size → (w.drew.alloc o).heap[k]? = w.heap[k]? := fun o k hk => Below.heap_alloc w.drew o k hk
  rcases Nat.eq_zero_or_pos m with hm0 | hm0
  · subst hm0
    have hnil : news = [] := List.eq_nil_of_length_eq_zero (by simpa using hn)
    subst hnil
    cases l with
    | nil =>
      obtain ⟨rfl, rfl, rfl⟩ := hl
      refine ⟨.slice none 0 0, w, .nil, e, ?_, ⟨rfl, rfl, rfl⟩, rfl, rfl, rfl, ⟨Nat.le_refl _, Nat.le_refl _⟩, fun _ _ _ => rfl, fun _ _ e => by cases e⟩
      cases A <;> simp [Builtin.append_, run_underlying ht, sizeOf, typeInfo, hi, Builtin.lenOf, Builtin.firstCells, loadCells, loadCellsFrom]
    | blk b c =>
      obtain ⟨rfl, arr, h2, h3, h4, h5, h6⟩ := hl
      have hlt : b < w.heap.size := by
        rcases Nat.lt_or_ge b w.heap.size with h | h
        · exact h
        · rw [Array.getElem?_eq_none h] at h2; cases h2
      refine ⟨.slice (some ⟨b, 0, none⟩) n c, w, .blk b c, e0, ?_, ⟨rfl, arr, h2, h3, h4, h5, by simpa using h6⟩, rfl, rfl, rfl, ⟨Nat.le_refl _, Nat.le_refl _⟩, fun _ _ _ => rfl, fun g c' e => by cases e; exact ⟨hlt, .inr rfl⟩⟩
      cases A <;> simp [Builtin.append_, run_underlying ht, sizeOf, typeInfo, hi, Builtin.lenOf, Builtin.firstCells, loadCells, loadCellsFrom, h4, storeCells]
  · obtain ⟨a, rfl⟩ : ∃ a, A = some a := by
      cases A with
      | none => have := hA rfl; omega
      | some a => exact ⟨a, rfl⟩
    cases l with
    | nil =>
      obtain ⟨rfl, rfl, rfl⟩ := hl
      have hr := Go.run_append_nil (P := P) w t ty e i z ht hi hz a m c' news hn (hnews a rfl) hm0 (by omega) (by have hb := hb; simp only [Nat.zero_add] at hb; omega)
      have hgr := grown 0 (by omega)
      simp only [Nat.zero_add, List.nil_append, Array.empty_append] at hgr ⊢
      exact ⟨_, _, _, _, hr, hgr, rfl, rfl, rfl, ⟨by simp, Nat.le_succ _⟩, fun k hk _ => same _ k hk, fun g c e => by cases e; exact ⟨by simp, .inl (Nat.le_refl _)⟩⟩
    | blk b c =>
      have hl' := hl
      obtain ⟨rfl, arr, h2, h3, h4, h5, h6⟩ := hl
      have hlt : b < w.heap.size := by
        rcases Nat.lt_or_ge b w.heap.size with h | h
        · exact h
        · rw [Array.getElem?_eq_none h] at h2; cases h2
      by_cases hroom : n + m ≤ c
      · have hfit : n * i.size + news.length ≤ arr.size := by rw [hn, h3, ← Nat.add_mul]; exact Nat.mul_le_mul_right _ hroom
        have hr := run_append_room2 (P := P) w t ty e e0 i ht hi b n c arr h2 a m c' news hn (hnews a rfl) h1 hroom hfit
        refine ⟨_, _, .blk b c, e0, hr, ⟨rfl, _, setRow_heap w b arr _ e0 _ h2, ?_, hroom, h5, ?_⟩, rfl, rfl, rfl, ⟨by simp [World.setRow], Nat.le_refl _⟩, fun k hk hne => setRow_other w b k _ (fun e => hne c (by rw [e])), fun g c2 e => by cases e; exact ⟨by simpa [World.setRow] using hlt, .inr rfl⟩⟩
        · simp only [List.size_toArray, List.length_append, List.length_take, List.length_drop, Array.length_toList]
          omega
        · show (arr.toList.take (n * i.size) ++ news ++ arr.toList.drop (n * i.size + news.length)).toArray.toList.take ((n + m) * i.size) = _
          rw [h6, ← hlen]
          exact List.take_left
      · have holds : ∀ j u, xs[j]? = some u → w.cell? ((⟨b, 0, none⟩ : Addr).add j) = some u := by
          intro j u hu
          have hj : j < n * i.size := by rw [← hl'.len]; exact (List.getElem?_eq_some_iff.1 hu).1
          rw [← h6, List.getElem?_take_of_lt hj] at hu
          rw [Addr.add_lit]
          simp only [World.cell?, h2, Nat.zero_add]
          simpa using hu
        have hr := run_append_grow (P := P) w t ty e i z ht hi hz ⟨b, 0, none⟩ n c xs hl'.len holds a m c' news hn (hnews a rfl) (by omega) (by omega) (growslice_fits (by omega) hb)
        exact ⟨_, _, _, _, hr, grown c (by omega), rfl, rfl, rfl, ⟨by simp, Nat.le_succ _⟩, fun k hk _ => same _ k hk, fun g c e => by cases e; exact ⟨by simp, .inl (Nat.le_refl _)⟩⟩


section pv4
variable {P : Program}
/-- the operations of a region, in the order of the text, said of memory -/
def PV4 (P : Program) (ops : Array Oper) (l : List Oper) (Q : Exit → AS → Prop) (s : AS) : Prop :=
  ∀ (X0 : Nat → Prop) (w0 : Base) (m : Mp) (a : Act) (w : World), Sim X0 w0 m s a w → wpList P ops (fun e a' w' => ∃ m' s', Q e s' ∧ Sim X0 w0 m' s' a' w') l a w
theorem pv4_region {id : Nat} {l : List Oper} {Q : Exit → AS → Prop} {s : AS} (h : PV4 P l.toArray l Q s) : PW P (.region id l.toArray false) Q s :=
  fun X0 w0 m a w hs => wp_region_lit (h X0 w0 m a w hs)
theorem pv4_nil {ops : Array Oper} {Q : Exit → AS → Prop} {s : AS} (h : Q .normal s) : PV4 P ops [] Q s := fun _ _ m _ _ hs => ⟨m, s, h, hs⟩
theorem pv4_cons {ops : Array Oper} {o : Oper} {rest : List Oper} {Q : Exit → AS → Prop} {s : AS} (hg : o.guard = none) (h : PO P o s (PV4 P ops rest Q)) : PV4 P ops (o :: rest) Q s := by
  intro X0 w0 m a w hs
  unfold wpList
  simp only [Region.wanted, hg, if_true]
  exact .inl (Oper.wp_mono (fun a' w' ⟨m', s', h1, h2⟩ => h1 X0 w0 m' a' w' h2) (h X0 w0 m a w _ hs))
theorem put_same {a : Act} {d : Tmp} {v : Value} (h : d < a.tmps.size) : (a.put (some d) v).eval (.tmp d) = v := by
  simp [Act.eval, Act.put, h]
theorem put_size (a : Act) (d : Option Tmp) (v : Value) : (a.put d v).tmps.size = a.tmps.size := by
  cases d <;> simp [Act.put]
/-- nil is stored into a row that owns its parts -/
theorem po_store_nil {o : Oper} {s : AS} {K : AS → Prop} {t : TypeId} {p : Operand} {ti : TI} {id sz k off q ty : Nat} {es : List (List D)} {e : List D} (sz2 : Nat) (ho : o.op = .store t p (.const (.slice none 0 0))) (ht : tiB P t ti = true) (h1 : ti.size = 1) (hp : s.get p = .rptr id sz k off) (hg : hget s.hp id = some (.deep q ty sz es)) (hk : es[k]? = some e)
    (hl : off + 1 ≤ e.length) (hK : K (AS.put ⟨s.fr, hset (hcut2 s.hp [] id) id (.deep q ty sz (es.set k (spl e off [.lst sz2 []]))), s.nx⟩ o.dst .und)) : PO P o s K :=
  PO.skip fun X0 w0 m a w hs => by
    have h3 := hs.get p
    rw [hp] at h3
    obtain ⟨b, c, hm, he⟩ := h3.rptr_inv
    have hdp := hs.dp id q ty sz es hg
    rw [hm] at hdp
    obtain ⟨g1, arr, hh, ha, hec, hcm, hes, Fp, f1, f2, f3⟩ := hdp
    obtain ⟨i, hi, hisz⟩ := ti_size ht
    have hklt := (List.getElem?_eq_some_iff.1 hk).1
    have hesz := hes e (List.mem_of_getElem? hk)
    have hbig : (k + 1) * sz ≤ c * sz := Nat.mul_le_mul_right _ (by omega)
    rw [Nat.succ_mul] at hbig
    have hcl : (Value.slice none 0 0).cells = #[.slice none 0 0] := rfl
    have hrun := store_run (P := P) (t := t) (v := .slice none 0 0) (off := k * sz + off) hi (by rw [hisz, h1, hcl]; rfl) hh (by rw [hcl, ha]; show _ + 1 ≤ _; omega) (fun u hu => by rw [hcl] at hu; simp at hu; subst hu; rfl)
    refine ⟨_, _, _, ?_, hs.store_part (w' := w) (vs := [.slice none 0 0]) (ds := [.lst sz2 []]) (off := off) (G := fun _ _ => False) hg hm g1 hh ha hec hcm hes f1 f2 f3 hk (by simpa using hl) rfl (KeepB.refl _ _) (fun _ _ _ => rfl) (fun _ _ h => h.elim) (fun _ _ _ h => h.elim) (fun j d u hd hu => ?_), hK⟩
    · simp only [execOp, ho, he, Sem.run_bind]
      have e1 : a.eval (.const (.slice none 0 0)) = .slice none 0 0 := rfl
      rw [e1, hrun]
      rfl
    · cases j with
      | zero => simp at hd hu; subst hd hu; exact .nil _ _
      | succ j => simp at hd
/-- a part of a deep row is appended to, and the longer list is put back in its place -/
theorem pv4_append_al {ops : Array Oper} {o1 o2 o3 o4 : Oper} {rest : List Oper} {Q : Exit → AS → Prop} {s : AS} {x y : Operand} {tp d1 d2 d3 : Tmp} {t e t3 : TypeId} {sz bytes id n par k q szp typ off fsz f nf : Nat} {fsf : List (Nat × Nat)} {z zf ee : List D} {es es' fs : List (List D)}
    (gd1 : o1.guard = none) (gd2 : o2.guard = none) (gd3 : o3.guard = none) (gd4 : o4.guard = none)
    (ho1 : o1.op = .call { callee := .builtin .append, args := #[x, y], argTypes := #[t, t] }) (ht : tiB P t (.slc e sz bytes z) = true) (hd1 : o1.dst = some d1)
    (ho2 : o2.op = .nilCheck (.tmp tp)) (hd2 : o2.dst = some d2) (ho3 : o3.op = .fieldAddr t3 (.tmp d2) f) (ht3 : tiB P t3 (.st nf fsf zf) = true) (hf : fsf[f]? = some (off, fsz)) (hd3 : o3.dst = some d3)
    (ho4 : o4.op = .store t (.tmp d3) (.tmp d1)) (hne1 : tp ≠ d1) (hne2 : d2 ≠ d1) (hne3 : d3 ≠ d1) (hne4 : d3 ≠ d2) (hn1 : d1 < s.fr.n) (hn2 : d2 < s.fr.n) (hn3 : d3 < s.fr.n)
    (hx : s.get x = .row id n) (hga : hget s.hp id = some (.al par k off)) (hp : s.get (.tmp tp) = .rptr par szp k 0) (hgp : hget s.hp par = some (.deep q typ szp es)) (hk : es[k]? = some ee) (hc : ee[off]? = some (.lst sz es')) (hn : es'.length = n)
    (hy : srcL s.hp (s.get y) = some (sz, fs)) (hlen : es'.length + fs.length ≤ 16777216) (hfl : flatE (es' ++ fs))
    (hK : PV4 P ops rest Q (AS.put (AS.put (AS.put (AS.put ⟨s.fr, hset (hcut2 s.hp [] par) par (.deep q typ szp (es.set k (spl ee off [.lst sz (es' ++ fs)]))), s.nx⟩ o1.dst .und) o2.dst (.rptr par szp k 0)) o3.dst (.rptr par szp k off)) o4.dst .und)) : PV4 P ops (o1 :: o2 :: o3 :: o4 :: rest) Q s := by
  intro X0 w0 m a w hs
  obtain ⟨q0, ty0, sz0, es0, e0, sz2, es2, b, c, arr, a1, a2, a3, a4, a5, a6⟩ := hs.al id par k off hga
  rw [hgp] at a1
  cases a1
  rw [hk] at a2
  cases a2
  rw [hc] at a3
  cases a3
  have hdp := hs.dp par _ _ _ _ hgp
  rw [a4] at hdp
  obtain ⟨g1, arr_, hh, ha, hec, hcm, hes, Fp, f1, f2, f3⟩ := hdp
  rw [a5] at hh
  cases hh
  have hv := hs.get x
  rw [hx] at hv
  have hcell : arr[k * szp + off]? = some (a.eval x) := by
    rcases hv.row_inv with ⟨h1, h2, h3⟩ | ⟨b1, c1, h1, h2, h3⟩
    · rcases a6 with ⟨a7, a8⟩ | ⟨b2, c2, a7, a8⟩
      · rw [h3]; exact a8
      · rw [h1] at a7; cases a7
    · rcases a6 with ⟨a7, a8⟩ | ⟨b2, c2, a7, a8⟩
      · rw [h1] at a7; cases a7
      · rw [h1] at a7; cases a7; rw [h3, ← hn]; exact a8
  have htr := f3 k ee off _ _ hk hc hcell
  obtain ⟨l, e0, xs, hl, hsz, hrd, hroot⟩ : ∃ l e0 xs, Lies w e0 sz l (a.eval x) n xs ∧ (∀ e', e' ∈ es' → e'.length = sz) ∧ (∀ (k' : Nat) (e' : List D) (j : Nat) (d : D) (u : Value), es'[k']? = some e' → e'[j]? = some d → xs[k' * sz + j]? = some u → Rd w (fun _ => False) d u) ∧ ∀ b c, l = .blk b c → Fp k off b := by
    generalize hD : D.lst sz es' = D0 at htr
    generalize hV : a.eval x = V0 at htr
    cases htr with
    | int => cases hD
    | bool => cases hD
    | str => cases hD
    | hole => cases hD
    | nil =>
      cases hD
      refine ⟨.nil, e, [], ⟨rfl, by simpa using hn.symm, rfl⟩, fun e' h => by simp at h, fun k' e' j d u h => by simp at h, fun b c h => by cases h⟩
    | lst _ sz_ es_ b' c' arr2 ty2 Fp2 q1 q2 q3 q4 q5 q6 q7 q8 q9 =>
      cases hD
      subst hn
      refine ⟨.blk b' c', ty2, _, ⟨rfl, arr2, q2, q3, q4, q5, rfl⟩, q6, fun k' e' j d u h1 h2 h3 => ?_, fun b c h => by cases h; exact q1⟩
      have hkl := (List.getElem?_eq_some_iff.1 h1).1
      have hj : j < sz := by rw [← q6 e' (List.mem_of_getElem? h1)]; exact (List.getElem?_eq_some_iff.1 h2).1
      rw [List.getElem?_take_of_lt (mul_apart hkl hj)] at h3
      exact (q9 k' e' j d u h1 h2 (by simpa using h3)).any
  have hsrc := hs.src hy (hs.get y)
  obtain ⟨A, c', news, h5, h6, h7, h8, h9, h10⟩ := hsrc.news
  obtain ⟨t1, ⟨i, v, t2, t4, t5, t6, t7⟩, t8, t9, t10, i', t11, t12⟩ := tiB_slc ht
  have hzs : v.cells.size = sz := by rw [(zB_rd t7).1, t8]
  have hbig : (n + fs.length) * bytes ≤ 140737488355328 := Nat.le_trans (Nat.mul_le_mul (show n + fs.length ≤ 16777216 by omega) t10) (by decide)
  obtain ⟨v', w', l', e1, r1, r2, r3, r4, r5, r6, r7, r8⟩ := append_run2 (P := P) (ty := o1.type) (c' := c') t1 t2 t6 t4 t5 hzs hl h6 h7 h8 h9 (by unfold maxLen; omega) hbig
  have hbe : ∀ b c, l = .blk b c → (w0.w.heap.size ≤ b ∨ w0.chg b) ∧ b < w.heap.size := fun b c e => hs.own par _ b hgp (.inr (f1 _ _ _ (hroot b c e)))
  have hklt := (List.getElem?_eq_some_iff.1 hk).1
  have heel := hes ee (List.mem_of_getElem? hk)
  have hoff := (List.getElem?_eq_some_iff.1 hc).1
  have hbig2 : (k + 1) * szp ≤ c * szp := Nat.mul_le_mul_right _ (by omega)
  rw [Nat.succ_mul] at hbig2
  have hfin := hs.store_part (w' := w') (vs := [v']) (ds := [.lst sz (es' ++ fs)]) (off := off) (G := fun j y => j = 0 ∧ ∃ c, l' = .blk y c) hgp a4 g1 a5 ha hec hcm hes f1 f2 f3 hk (by show off + 1 ≤ _; omega) rfl
    ⟨r3, r4, r5, r6.1, fun k hk hn => r7 k (by have := hs.below.size; omega) (fun c e => by rcases (hbe k c e).1 with h | h; omega; exact hn h), .of_le r6.2⟩
    (fun x hx hnf => r7 x hx fun c e => hnf 0 (by simp) (hroot x c e))
    (fun j y ⟨hj, c2, e2⟩ => by
      subst hj
      obtain ⟨q1, q2⟩ := r8 y c2 e2
      exact ⟨by simp, q1, q2.imp (fun h => h) fun q2 => hroot y c2 q2⟩)
    (fun j j' y h h' => by rw [h.1, h'.1])
    (fun j d u hd hu => by
      cases j with
      | succ j => simp at hd
      | zero =>
        simp at hd hu
        subst hd hu
        cases l' with
        | nil =>
          obtain ⟨q1, q2, _⟩ := r2
          have e2 : es' ++ fs = [] := List.eq_nil_of_length_eq_zero (by rw [List.length_append]; omega)
          rw [e2, q1]
          exact .nil _ _
        | blk g cc =>
          obtain ⟨q1, arr3, q2, q3, q4, q5, q6⟩ := r2
          have e2 : n + fs.length = (es' ++ fs).length := by rw [List.length_append]; omega
          rw [q1, e2]
          refine .lst _ sz (es' ++ fs) g cc arr3 e1 (fun _ _ _ => False) ⟨rfl, cc, rfl⟩ q2 q3 (by omega) q5 (fun e' he' => (List.mem_append.1 he').elim (hsz e') (hsrc.1 e')) (fun _ _ _ h => h.elim) (fun _ _ _ _ _ h => h.elim) fun k' e' j d u he' hd hu => ?_
          have hxl : xs.length = n * sz := hl.len
          have hkl := (List.getElem?_eq_some_iff.1 he').1
          have hsc := hfl e' (List.mem_of_getElem? he') d (List.mem_of_getElem? hd)
          have hesz : e'.length = sz := (List.mem_append.1 (List.mem_of_getElem? he')).elim (hsz e') (hsrc.1 e')
          have hj : j < sz := by rw [← hesz]; exact (List.getElem?_eq_some_iff.1 hd).1
          have hu2 : (xs ++ news)[k' * sz + j]? = some u := by
            rw [← q6, List.getElem?_take_of_lt (mul_apart (by omega) hj)]
            simpa using hu
          by_cases hk' : k' < es'.length
          · rw [List.getElem?_append_left hk'] at he'
            rw [List.getElem?_append_left (by rw [hxl]; exact mul_apart (by omega) hj)] at hu2
            exact (hrd k' e' j d u he' hd hu2).tr hsc
          · rw [List.getElem?_append_right (by omega)] at he'
            have e3 : n * sz ≤ k' * sz + j := by
              have : n * sz ≤ k' * sz := Nat.mul_le_mul_right _ (by omega)
              omega
            rw [List.getElem?_append_right (by rw [hxl]; exact e3), hxl] at hu2
            have e4 : k' * sz + j - n * sz = (k' - es'.length) * sz + j := by
              rw [Nat.sub_mul, hn]
              have : n * sz ≤ k' * sz := Nat.mul_le_mul_right _ (by omega)
              omega
            rw [e4] at hu2
            exact (h10 (k' - es'.length) e' j d u he' hd hu2).tr hsc)
  have hp1 := hs.get (.tmp tp)
  rw [hp] at hp1
  obtain ⟨b_, c_, hm_, hpe⟩ := hp1.rptr_inv
  rw [a4] at hm_
  cases hm_
  have hmem : w'.heap[b]? = some (.cells arr _ (0, 0)) := (r7 b (hs.own par _ b hgp (.inl ⟨_, a4⟩)).2 fun c e => g1 (f1 _ _ _ (hroot b c e))).trans a5
  -- the four operations
  have w1 : (execOp a.eval o1).run P w = .ok (.value v') w' := by
    have e1 : (execOp a.eval o1) = (do let r ← Builtin.append_ #[t, t] o1.type #[a.eval x, a.eval y]; pure (Next.value r)) := by
      simp [execOp, ho1, resolve, invoke, builtin]
    rw [e1, Sem.run_bind, h5, r1]
    rfl
  have s1 : a.tmps.size = s.fr.n := hs.size
  have p1 : (a.put o1.dst v').eval (.tmp tp) = .pointer (some ⟨b, k * szp + 0, none⟩) := by rw [hd1, Act.eval_put (by intro d hd h; cases hd; cases h; exact hne1 rfl), hpe]
  have w2 : (execOp (a.put o1.dst v').eval o2).run P w' = .ok (.value (.pointer (some ⟨b, k * szp + 0, none⟩))) w' := by
    have gen : ∀ (A : Addr) (act : Act), act.eval (.tmp tp) = .pointer (some A) → (execOp act.eval o2).run P w' = .ok (.value (.pointer (some A))) w' := by intro A act h; simp [execOp, ho2, h]
    exact gen _ _ p1
  have p2 : ((a.put o1.dst v').put o2.dst (.pointer (some ⟨b, k * szp + 0, none⟩))).eval (.tmp d2) = .pointer (some ⟨b, k * szp + 0, none⟩) := by
    rw [hd2]; exact put_same (by rw [put_size, s1]; exact hn2)
  have w3 : (execOp ((a.put o1.dst v').put o2.dst (.pointer (some ⟨b, k * szp + 0, none⟩))).eval o3).run P w' = .ok (.value (.pointer (some ⟨b, k * szp + off, none⟩))) w' := by
    obtain ⟨⟨fields, k3, k4, k5⟩, _⟩ := tiB_st ht3
    have hlt : f < fields.size := by rw [k4]; exact (List.getElem?_eq_some_iff.1 hf).1
    obtain ⟨k6, k7, i3, k8, k9⟩ := k5 f fields[f] _ (by simp [hlt]) hf
    have hne : ¬ fsz = 0 := by simp at k7; omega
    simp at k6 k9
    have gen : ∀ (o0 : Nat) (act : Act), act.eval (.tmp d2) = .pointer (some ⟨b, o0, none⟩) → (execOp act.eval o3).run P w' = .ok (.value (.pointer (some ⟨b, o0 + off, none⟩))) w' := by
      intro o0 act h
      simp [execOp, ho3, h, Instr.fieldAt, run_underlying k3, hlt, Instr.sureAddr, fieldPlace, run_size k8, k9, hne, k6, Addr.add_lit]
    exact gen _ _ p2
  have p3 : (((a.put o1.dst v').put o2.dst (.pointer (some ⟨b, k * szp + 0, none⟩))).put o3.dst (.pointer (some ⟨b, k * szp + off, none⟩))).eval (.tmp d3) = .pointer (some ⟨b, k * szp + off, none⟩) := by
    rw [hd3]; exact put_same (by rw [put_size, put_size, s1]; exact hn3)
  have p4 : (((a.put o1.dst v').put o2.dst (.pointer (some ⟨b, k * szp + 0, none⟩))).put o3.dst (.pointer (some ⟨b, k * szp + off, none⟩))).eval (.tmp d1) = v' := by
    rw [hd3, hd2, hd1, Act.eval_put (by intro d hd h; cases hd; cases h; exact hne3 rfl), Act.eval_put (by intro d hd h; cases hd; cases h; exact hne2 rfl)]
    exact put_same (by rw [s1]; exact hn1)
  have hcl : v'.cells = #[v'] := by
    cases l' with
    | nil => rw [r2.1]; rfl
    | blk g cc => rw [r2.1]; rfl
  have h1c : v'.oneCell' = true := by
    cases l' with
    | nil => rw [r2.1]; rfl
    | blk g cc => rw [r2.1]; rfl
  have w4 : (execOp (((a.put o1.dst v').put o2.dst (.pointer (some ⟨b, k * szp + 0, none⟩))).put o3.dst (.pointer (some ⟨b, k * szp + off, none⟩))).eval o4).run P w' = .ok .skip (w'.setRow b (spl arr.toList (k * szp + off) [v']).toArray) := by
    have hrun := store_run (P := P) (t := t) (v := v') (off := k * szp + off) t11 (by rw [t12, hcl]; rfl) hmem (by rw [hcl, ha]; show _ + 1 ≤ _; omega) (fun u hu => by rw [hcl] at hu; simp at hu; subst hu; exact h1c)
    rw [hcl] at hrun
    simp only [execOp, ho4, p3, p4, Sem.run_bind, hrun, Result.andThen_ok, Sem.run_pure]
  have hend := (((hfin.put (v := v') (.und _) o1.dst).put (.rptr par szp k 0 b _ (upd_same _ _ _)) o2.dst).put (.rptr par szp k off b _ (upd_same _ _ _)) o3.dst).put (v := undef) (.und _) o4.dst
  unfold wpList
  simp only [Region.wanted, gd1, if_true]
  refine .inl ?_
  unfold Oper.wp
  rw [w1]
  show wpList P ops _ (o2 :: o3 :: o4 :: rest) (a.put o1.dst v') w'
  unfold wpList
  simp only [Region.wanted, gd2, if_true]
  refine .inl ?_
  unfold Oper.wp
  rw [w2]
  show wpList P ops _ (o3 :: o4 :: rest) _ w'
  unfold wpList
  simp only [Region.wanted, gd3, if_true]
  refine .inl ?_
  unfold Oper.wp
  rw [w3]
  show wpList P ops _ (o4 :: rest) _ w'
  unfold wpList
  simp only [Region.wanted, gd4, if_true]
  refine .inl ?_
  unfold Oper.wp
  rw [w4]
  exact hK X0 w0 _ _ _ hend
end pv4
end Go.Proofs.YthocihmhljmgdaaGreatDoor
