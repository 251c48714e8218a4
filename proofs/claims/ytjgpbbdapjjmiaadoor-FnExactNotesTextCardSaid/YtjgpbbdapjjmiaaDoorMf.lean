/-
  The abstract machine: functions that change a row that they are given. No program is named here.
-/
import Derived.Test.YtjgpbbdapjjmiaaDoorM9
import Derived.Test.YtjgpbbdapjjmiaaDoorMe
namespace Go.Proofs.YtjgpbbdapjjmiaaDoor
open Go.RowKit

/-- the slice value of a row at a place -/
def LocV : Loc → Nat → Value → Prop
  | .nil, n, v => v = .slice none 0 0 ∧ n = 0
  | .blk b c, n, v => v = .slice (some ⟨b, 0, none⟩) n c ∧ n ≤ c
def Loc.at (l : Loc) (b : Nat) : Prop := ∃ c, l = .blk b c
/-- a contract: the function changes the row that is its first argument from es to es' and returns plain results -/
def FnM (P : Program) (f : FuncId) (sz : Nat) (es : List (List D)) (rest : List D) (es' : List (List D)) (rs : List D) : Prop :=
  Enters P f ∧ ∀ (w : World) (ty : TypeId) (l : Loc) (F : Nat → Prop) (v : Value), GL w ∧ (∀ x, F x ∨ l.at x → glN ≤ x) → LocV l es.length v → (∀ x, F x ∨ l.at x → x < w.heap.size) → DpOk w F ty sz es (some l) →
    Calls P f (#[v] ++ (rest.map scV).toArray) w fun e w' => e = .returned (retV (rs.map scV).toArray) ∧ KeepB ⟨w, fun x => F x ∨ l.at x, fun _ => none⟩ w w' ∧ ∃ F2 : Nat → Prop, (∀ x, F2 x → (F x ∨ w.heap.size ≤ x) ∧ x < w'.heap.size) ∧ DpOk w' F2 ty sz es' (some l)
def retM (G : List (Nat × TI)) (fn : Func) (ty sz : Nat) (es' : List (List D)) (rs : List D) : Exit → AS → Prop
  | .normal, s | .ret, s => retPVs G s fn.results.toList = some (rs.map .d) ∧ ∃ id, hget s.hp id = some (.deep 1 ty sz es')
  | _, _ => False
theorem fn_okM {P : Program} {G : List (Nat × TI)} (hG : GOK P G) {f : FuncId} {fn : Func} {c : Code} {sz : Nat} {es es' : List (List D)} {rest rs : List D} (hf : P.funcs[f]? = some fn) (hnm : (fn.name == "runtime.NumGoroutine") = false) (hb : fn.body = some c) (hrest : ∀ d, d ∈ rest → d.sc) (hrs : ∀ d, d ∈ rs → d.sc)
    (h : ∀ ty, PW P c (retM G fn ty sz es' rs) ⟨⟨(rest.length + 1) + (fn.ntmps - (rest.length + 1)), enm 0 (.row 0 es.length :: rest.map .d)⟩, [(0, .deep 1 ty sz es)], 1⟩) : FnM P f sz es rest es' rs := by
  refine ⟨⟨fn, hf, hnm, by rw [hb]; rfl⟩, fun w ty l F v hGL hlv hlt hdp => ?_⟩
  refine calls_of_wp hf hb ?_
  let m0 : Mp := ⟨fun i => if i = 0 then some l else none, fun i => if i = 0 then F else fun _ => False⟩
  have hm0 : m0.loc 0 = some l := rfl
  have hget0 : ∀ id blk, hget [(0, Blk.deep 1 ty sz es)] id = some blk → id = 0 ∧ blk = .deep 1 ty sz es := by
    intro id blk h
    simp only [hget] at h
    split at h
    · cases h; exact ⟨by assumption, rfl⟩
    · cases h
  have hs : Sim (fun _ => False) ⟨w, fun x => F x ∨ l.at x, fun p => if p = 0 then some l else none⟩ m0 ⟨⟨(rest.length + 1) + (fn.ntmps - (rest.length + 1)), enm 0 (.row 0 es.length :: rest.map .d)⟩, [(0, .deep 1 ty sz es)], 1⟩
      { tmps := (#[v] ++ (rest.map scV).toArray) ++ Array.replicate (fn.ntmps - (#[v] ++ (rest.map scV).toArray).size) undef, defers := [] } w := by
    refine ⟨KeepB.refl _ _, fun b hb => hb.elim, by simp <;> omega, fun i => ?_, rfl, fun id blk h => ?_, fun id p ty' sz' es2 h => ?_, fun id par k j h => ?_, fun id blk p h hpo => ?_, fun id id' blk blk' b h h' => ?_, fun id blk b h hb => ?_, fun id hid => ?_, hGL⟩
    · have hlk : lk (enm 0 (PV.row 0 es.length :: rest.map .d)) i = (PV.row 0 es.length :: rest.map .d).getD i .und := by rw [lk_enm]; simp
      show R _ _ _ (lk (enm 0 (PV.row 0 es.length :: rest.map .d)) i) _
      rw [hlk]
      by_cases hi : i < rest.length + 1
      · have e1 : ((#[v] ++ (rest.map scV).toArray) ++ Array.replicate (fn.ntmps - (#[v] ++ (rest.map scV).toArray).size) undef).getD i undef = (v :: rest.map scV).getD i undef := by
          rw [Array.getD_eq_getD_getElem?, Array.getElem?_append_left (by simp; omega), List.getD_eq_getElem?_getD]
          congr 1
          cases i with
          | zero => simp
          | succ i => simp
        rw [e1]
        cases i with
        | zero =>
          simp only [List.getD_cons_zero]
          cases l with
          | nil => obtain ⟨rfl, h0⟩ := hlv; rw [h0]; exact .rowN _ hm0
          | blk b c => obtain ⟨rfl, h0⟩ := hlv; exact .rowB _ _ _ _ hm0 h0
        | succ i =>
          simp only [List.getD_cons_succ]
          have hil : i < rest.length := by omega
          rw [List.getD_eq_getElem?_getD, List.getD_eq_getElem?_getD, List.getElem?_map, List.getElem?_map, List.getElem?_eq_getElem hil]
          exact .d _ _ (scV_rd (hrest _ (List.getElem_mem hil)) _ _)
      · rw [List.getD_eq_getElem?_getD, List.getElem?_eq_none (by simp; omega)]
        exact .und _
    · obtain ⟨rfl, rfl⟩ := hget0 id blk h
      exact ⟨l, hm0, trivial⟩
    · obtain ⟨rfl, e⟩ := hget0 id _ h
      cases e
      exact hdp
    · obtain ⟨_, e⟩ := hget0 id _ h
      cases e
    · obtain ⟨rfl, rfl⟩ := hget0 id blk h
      cases hpo
      rfl
    · intro _ _; rw [(hget0 id blk h).1, (hget0 id' blk' h').1]
    · obtain ⟨rfl, rfl⟩ := hget0 id blk h
      rcases hb with ⟨c, hc⟩ | hf
      · rw [hm0] at hc
        cases hc
        exact ⟨.inr (.inr ⟨c, rfl⟩), hlt b (.inr ⟨c, rfl⟩)⟩
      · exact ⟨.inr (.inl hf), hlt b (.inl hf)⟩
    · have hid' : 1 ≤ id := hid
      exact if_neg (by omega)
  refine wp_mono (h ty _ _ _ _ w hs) ?_
  rintro e a' w' ⟨m, s, hq, hs'⟩
  have key : (retPVs G s fn.results.toList = some (rs.map .d) ∧ ∃ id, hget s.hp id = some (.deep 1 ty sz es')) → a'.defers = [] ∧ ∃ v, (results fn a'.tmps).run P w' = .ok v w' ∧ (Ending.returned v = .returned (retV (rs.map scV).toArray) ∧ KeepB ⟨w, fun x => F x ∨ l.at x, fun _ => none⟩ w w' ∧ ∃ F2 : Nat → Prop, (∀ x, F2 x → (F x ∨ w.heap.size ≤ x) ∧ x < w'.heap.size) ∧ DpOk w' F2 ty sz es' (some l)) := by
    rintro ⟨h1, id, h2⟩
    refine ⟨hs'.df, ?_⟩
    obtain ⟨vs, r1, r2, r3⟩ := ret_run hG hs' fn.results.toList _ h1
    have hvs : vs = rs.map scV := by
      apply List.ext_getElem?
      intro i
      rcases Nat.lt_or_ge i rs.length with hi | hi
      · have hlt : i < vs.length := by rw [r2]; simpa using hi
        have := r3 i (.d rs[i]) vs[i] (by rw [List.getElem?_map, List.getElem?_eq_getElem hi]; rfl) (List.getElem?_eq_getElem hlt)
        rw [List.getElem?_eq_getElem hlt, List.getElem?_map, List.getElem?_eq_getElem hi, scV_eq (hrs _ (List.getElem_mem hi)) this.rd]
        rfl
      · rw [List.getElem?_eq_none (by rw [r2]; simpa using hi), List.getElem?_eq_none (by simpa using hi)]
    have hpin := hs'.pin id _ 0 h2 rfl
    have hl : m.loc id = some l := hpin
    have hd := hs'.dp id 1 ty sz es' h2
    rw [hl] at hd
    refine ⟨retV vs.toArray, ?_, by rw [hvs], ⟨hs'.below.os, hs'.below.tape, hs'.below.output, hs'.below.size, fun k hk hn => hs'.below.block k hk hn, hs'.below.drawn⟩, m.ft id, fun x hx => ?_, hd⟩
    · show (do let us ← fn.results.mapM (resF a'.tmps); pure (retV us) : Sem Value).run P w' = _
      rw [Sem.run_bind, Array.mapM_eq_mapM_toList]
      simp [r1]
    · have h3 := hs'.own id _ x h2 (.inr hx)
      refine ⟨?_, h3.2⟩
      rcases h3.1 with h4 | h4 | h4
      · exact .inr h4
      · exact .inl h4
      · obtain ⟨c, hc⟩ := h4
        subst hc
        exact (hd.1 hx).elim
  cases e with
  | normal => exact key hq
  | ret => exact key hq
  | _ => exact hq.elim
section rules
variable {P : Program} {o : Oper} {s : AS} {K : AS → Prop}
/-- the call of such a function, left to what it does to memory -/
theorem callM_run {f x0 : Operand} {ys : List Operand} {args : Array Operand} {ts : Array TypeId} {fid : FuncId} {sz : Nat} {es es' : List (List D)} {rest rs : List D} {X0 : Nat → Prop} {w0 : Base} {m : Mp} {a : Act} {w : World} {A : Act → World → Prop} {Q : Exit → Act → World → Prop}
    (ho : o.op = .call { callee := .value f, args := args, argTypes := ts }) (hf : s.get f = .fn fid []) (ha : args.toList = x0 :: ys) (hr : ys.map s.get = rest.map .d) (hrest : ∀ d, d ∈ rest → d.sc) (hok : FnM P fid sz es rest es' rs) (hs : Sim X0 w0 m s a w)
    {ty : TypeId} {l : Loc} {F : Nat → Prop} (hlv : LocV l es.length (a.eval x0)) (hgn : ∀ x, F x ∨ l.at x → glN ≤ x) (hlt : ∀ x, F x ∨ l.at x → x < w.heap.size) (hdp : DpOk w F ty sz es (some l))
    (hA : ∀ w', KeepB ⟨w, fun x => F x ∨ l.at x, fun _ => none⟩ w w' → ∀ F2 : Nat → Prop, (∀ x, F2 x → (F x ∨ w.heap.size ≤ x) ∧ x < w'.heap.size) → DpOk w' F2 ty sz es' (some l) → A (a.put o.dst (retV (rs.map scV).toArray)) w') : o.wp P a w A Q := by
  obtain ⟨⟨fn, e1, e2, e3⟩, hcall⟩ := hok
  have hfv := hs.get f
  rw [hf] at hfv
  have hfe : a.eval f = .func (.func fid) #[] #[] := by
    generalize a.eval f = v at hfv
    cases hfv with
    | fn _ _ vs hl h => have : vs = #[] := Array.eq_empty_of_size_eq_zero hl; subst this; rfl
  have hvals : args.map a.eval = #[a.eval x0] ++ (rest.map scV).toArray := by
    apply Array.ext'
    rw [Array.toList_map, ha]
    simp only [List.map_cons, Array.toList_append, List.cons_append, List.nil_append, List.cons.injEq, true_and]
    apply List.ext_getElem?
    intro i
    rw [List.getElem?_map, List.getElem?_map]
    have h1 : (ys.map s.get)[i]? = (rest.map PV.d)[i]? := by rw [hr]
    rw [List.getElem?_map, List.getElem?_map] at h1
    cases hy : ys[i]? with
    | none =>
      rw [hy] at h1
      cases hd : rest[i]? with
      | none => rfl
      | some d => rw [hd] at h1; cases h1
    | some y =>
      rw [hy] at h1
      cases hd : rest[i]? with
      | none => rw [hd] at h1; cases h1
      | some d =>
        rw [hd] at h1
        have h2 : s.get y = .d d := by simpa using h1
        have h3 := hs.get y
        rw [h2] at h3
        exact congrArg some (scV_eq (hrest d (List.mem_of_getElem? hd)) h3.rd)
  have hrun : (execOp a.eval o).run P w = .ok (.enter fid (args.map a.eval)) w := by
    have e2' : ¬ fn.name = "runtime.NumGoroutine" := by simpa using e2
    have e3' : ¬ fn.body = none := fun h => by rw [h] at e3; cases e3
    simp [execOp, ho, resolve, hfe, Deferred.ofValue, invoke, callFunc, e1]
    rw [if_neg e2', if_neg e3']
  unfold Oper.wp
  rw [hrun]
  simp only [Oper.upon_enter]
  rw [hvals]
  refine (hcall w ty l F _ ⟨hs.glob, hgn⟩ hlv hlt hdp).mono ?_
  rintro e w' ⟨rfl, hk, F2, h1, h2⟩
  exact hA w' hk F2 h1 h2
theorem qPV_R (m : Nat → Option Loc) (X : Nat → Prop) (w : World) {rs : List D} (hrs : ∀ d, d ∈ rs → d.sc) : R m X w (qPV rs) (retV (rs.map scV).toArray) := by
  have htup : R m X w (.tup (rs.map .d)) (.tuple (rs.map scV).toArray) := by
    refine .tup _ _ (by simp) fun i y u hy hu => ?_
    rw [List.getElem?_map] at hy
    have hu' : (rs.map scV)[i]? = some u := by simpa using hu
    rw [List.getElem?_map] at hu'
    cases hi : rs[i]? with
    | none => rw [hi] at hy; cases hy
    | some d =>
      rw [hi] at hy hu'
      cases hy
      cases hu'
      exact .d _ _ (scV_rd (hrs d (List.mem_of_getElem? hi)) w X)
  match rs, hrs, htup with
  | [], _, htup => simpa [qPV, retV] using htup
  | [x], hrs, _ => simp only [qPV, retV, List.map_cons, List.map_nil, List.size_toArray, List.length_cons, List.length_nil, dif_pos]; exact .d _ _ (scV_rd (hrs x (by simp)) w X)
  | x :: y :: r, _, htup => simpa [qPV, retV] using htup
theorem locv_of {m : Mp} {X : Nat → Prop} {w : World} {id n : Nat} {v : Value} (h : R m.loc X w (.row id n) v) : ∃ l, m.loc id = some l ∧ LocV l n v := by
  rcases h.row_inv with ⟨h1, h2, h3⟩ | ⟨b, c, h1, h2, h3⟩
  · exact ⟨.nil, h1, h3, h2⟩
  · exact ⟨.blk b c, h1, h3, h2⟩
/-- a row that owns its parts is given to a function that changes it -/
theorem po_callM {f x0 : Operand} {ys : List Operand} {args : Array Operand} {ts : Array TypeId} {fid : FuncId} {id n q sz : Nat} {ty : TypeId} {es es' : List (List D)} {rest rs : List D}
    (ho : o.op = .call { callee := .value f, args := args, argTypes := ts }) (hf : s.get f = .fn fid []) (ha : args.toList = x0 :: ys) (hx : s.get x0 = .row id n) (hr : ys.map s.get = rest.map .d) (hrest : ∀ d, d ∈ rest → d.sc) (hrs : ∀ d, d ∈ rs → d.sc) (hg : hget s.hp id = some (.deep q ty sz es)) (hn : n = es.length)
    (hok : FnM P fid sz es rest es' rs) (hK : K (AS.put ⟨s.fr, hset (hcut2 s.hp [] id) id (.deep q ty sz es'), s.nx⟩ o.dst (qPV rs))) : PO P o s K := by
  intro X0 w0 m a w Q hs
  have hR := hs.get x0
  rw [hx] at hR
  obtain ⟨l, hl, hlv⟩ := locv_of hR
  rw [hn] at hlv
  have hdp := hs.dp id q ty sz es hg
  rw [hl] at hdp
  have hhas : ∀ x, m.ft id x ∨ l.at x → (Blk.deep q ty sz es).has m id x := by
    rintro x (h | ⟨c, h⟩)
    · exact .inr h
    · exact .inl ⟨c, by rw [hl, h]⟩
  refine callM_run ho hf ha hr hrest hok hs hlv (fun x h => hs.above (hs.own id _ x hg (hhas x h)).1) (fun x h => (hs.own id _ x hg (hhas x h)).2) hdp fun w' hk F2 h1 h2 => ?_
  let nd : Blk := .deep q ty sz es'
  have hgid : hget (hcut2 s.hp [] id) id = some (.deep q ty sz es) := hcut2_deep hg (by simp) rfl
  have hset_ne : ∀ id', id' ≠ id → hget (hset (hcut2 s.hp [] id) id nd) id' = hget (hcut2 s.hp [] id) id' := fun id' hne => by rw [hget_hset, if_neg hne]
  have hset_eq : hget (hset (hcut2 s.hp [] id) id nd) id = some nd := by rw [hget_hset]; simp [hgid]
  refine ⟨upd m id l F2, _, hK, Sim.put ?_ (qPV_R _ _ _ hrs) o.dst⟩
  refine hs.changeD (i := id) (blk' := nd) (F' := F2) (fun y => m.ft id y ∨ l.at y) (.inr hl) hset_eq (fun id' hne blk hb => by rw [hset_ne id' hne] at hb; exact (hcut2_keep hb).2) rfl (fun id' par k j hne ha' => ?_) (Nat.le_refl _) (hs.lt_nx hl) ?_ (fun y hy hny => hk.block y hy hny) (fun y hy => ⟨id, _, hg, hhas y hy, .inl rfl⟩) (fun y hy => ?_) (fun p e2 => ?_) (fun p ty' sz' es2 e2 => ?_) (fun _ => trivial)
  · rw [hset_ne id' hne] at ha'
    have h7 := (hcut2_keep ha').2
    obtain ⟨h8, h9⟩ := hcut2_al ha'
    obtain ⟨q', ty', sz', es2, _, _, _, _, _, _, a1, _⟩ := hs.al id' par k j h7
    exact .inl ⟨h9, by rw [hset_ne par h9, hcut2_deep a1 h8 rfl, a1]⟩
  · refine ⟨hk.os, hk.tape, hk.output, hk.size, fun y hy hny => hk.block y (Nat.lt_of_lt_of_le hy hs.below.size) fun h => ?_, hk.drawn⟩
    rcases (hs.own id _ y hg (hhas y h)).1 with h3 | h3
    · omega
    · exact hny h3
  · rcases hy with ⟨c, hc⟩ | hf2
    · rw [upd_same] at hc
      have hat : l.at y := ⟨c, Option.some.inj hc⟩
      have := hs.own id _ y hg (hhas y (.inr hat))
      exact ⟨this.1, Nat.lt_of_lt_of_le this.2 hk.size, .inr (.inr hat)⟩
    · rw [upd_ft] at hf2
      obtain ⟨h3, h4⟩ := h1 y hf2
      rcases h3 with h3 | h3
      · have := hs.own id _ y hg (hhas y (.inl h3))
        exact ⟨this.1, h4, .inr (.inl h3)⟩
      · exact ⟨.inl (Nat.le_trans hs.below.size h3), h4, .inl h3⟩
  · have e3 : (Blk.deep q ty sz es').pinOf = some p := e2
    rw [← hl]
    exact hs.pin id _ p hg (pinOf_deep e3)
  · have e3 : Blk.deep q ty sz es' = _ := e2
    cases e3
    exact h2
/-- the same for a row of scalars -/
theorem po_callMr {f x0 : Operand} {ys : List Operand} {args : Array Operand} {ts : Array TypeId} {fid : FuncId} {id n sz : Nat} {ty : TypeId} {es es' : List (List D)} {rest rs : List D}
    (ho : o.op = .call { callee := .value f, args := args, argTypes := ts }) (hf : s.get f = .fn fid []) (ha : args.toList = x0 :: ys) (hx : s.get x0 = .row id n) (hr : ys.map s.get = rest.map .d) (hrest : ∀ d, d ∈ rest → d.sc) (hrs : ∀ d, d ∈ rs → d.sc) (hg : hget s.hp id = some (.row ty sz es)) (hn : n = es.length) (hfl : flatE es) (hfl' : flatE es')
    (hok : FnM P fid sz es rest es' rs) (hK : K (AS.put ⟨s.fr, hset s.hp id (.row ty sz es'), s.nx⟩ o.dst (qPV rs))) : PO P o s K := by
  intro X0 w0 m a w Q hs
  have hR := hs.get x0
  rw [hx] at hR
  obtain ⟨l, hl, hlv⟩ := locv_of hR
  rw [hn] at hlv
  have hdp : DpOk w (fun _ => False) ty sz es (some l) := by
    obtain ⟨l', h1, h2⟩ := hs.hp id _ hg
    rw [hl] at h1
    cases h1
    cases l with
    | nil => exact ⟨h2, fun _ h => h⟩
    | blk b c =>
      obtain ⟨arr, hh, hc⟩ := h2
      exact ⟨fun h => h, arr, hh, hc.1, hc.2.1, hc.2.2.1, hc.2.2.2.1, fun _ _ _ => False, fun _ _ _ h => h, fun _ _ _ _ _ h => h.elim, fun k e j d v he hd hv => (hc.2.2.2.2 k e j d v he hd hv).tr (hfl e (List.mem_of_getElem? he) d (List.mem_of_getElem? hd))⟩
  have hhas : ∀ x, False ∨ l.at x → (Blk.row ty sz es).has m id x := by
    rintro x (h | ⟨c, h⟩)
    · exact h.elim
    · exact ⟨c, by rw [hl, h]⟩
  refine callM_run ho hf ha hr hrest hok hs hlv (fun x h => hs.above (hs.own id _ x hg (hhas x h)).1) (fun x h => (hs.own id _ x hg (hhas x h)).2) hdp fun w' hk F2 h1 h2 => ?_
  refine ⟨upd m id l, _, hK, Sim.put ?_ (qPV_R _ _ _ hrs) o.dst⟩
  refine hs.change (i := id) (blk' := .row ty sz es') (fun y => l.at y) (.inr hl) (by rw [hget_hset]; simp [hg]) rfl (fun id' hne blk hb => by rw [hget_hset, if_neg hne] at hb; exact hb) (fun id' q ty' sz' es2 hd => ?_) (Nat.le_refl _) (hs.lt_nx hl) ?_ (fun y hy hny => hk.block y hy fun h => hny (h.elim (fun h => h.elim) fun h => h)) (fun y hy => ⟨id, _, hg, hhas y (.inr hy), .inl rfl⟩) (fun b c e => ?_) fun _ => ?_
  · have hne : id' ≠ id := fun e => by subst e; rw [hg] at hd; cases hd
    exact ⟨hne, by rw [hget_hset, if_neg hne]⟩
  · refine ⟨hk.os, hk.tape, hk.output, hk.size, fun y hy hny => hk.block y (Nat.lt_of_lt_of_le hy hs.below.size) fun h => ?_, hk.drawn⟩
    rcases (hs.own id _ y hg (hhas y h)).1 with h3 | h3
    · omega
    · exact hny h3
  · have := hs.own id _ b hg (hhas b (.inr ⟨c, e⟩))
    exact ⟨this.1, Nat.lt_of_lt_of_le this.2 hk.size, .inr ⟨c, e⟩⟩
  · cases l with
    | nil => exact h2.1
    | blk b c =>
      obtain ⟨_, arr, g2, g3, g4, g5, g6, Fp, _, _, g9⟩ := h2
      exact ⟨arr, g2, g3, g4, g5, g6, fun k e j d u he hd hu => (g9 k e j d u he hd hu).any.sc (hfl' e (List.mem_of_getElem? he) d (List.mem_of_getElem? hd))⟩
/-- the same for a part of a row that owns its parts -/
theorem po_callMa {f x0 : Operand} {ys : List Operand} {args : Array Operand} {ts : Array TypeId} {fid : FuncId} {id par k j n q sz szp : Nat} {ty : TypeId} {es ei ei' : List (List D)} {rest rs : List D}
    (ho : o.op = .call { callee := .value f, args := args, argTypes := ts }) (hf : s.get f = .fn fid []) (ha : args.toList = x0 :: ys) (hx : s.get x0 = .row id n) (hr : ys.map s.get = rest.map .d) (hrest : ∀ d, d ∈ rest → d.sc) (hrs : ∀ d, d ∈ rs → d.sc) (hg : hget s.hp id = some (.al par k j)) (hgp : hget s.hp par = some (.deep q ty szp es)) (hal : alC es k j = some (sz, ei)) (hn : n = ei.length) (hlen : ei'.length = ei.length)
    (hok : FnM P fid sz ei rest ei' rs) (hK : K (AS.put ⟨s.fr, hset s.hp par (.deep q ty szp (setC es k j (.lst sz ei'))), s.nx⟩ o.dst (qPV rs))) : PO P o s K := by
  intro X0 w0 m a w Q hs
  have hR := hs.get x0
  rw [hx] at hR
  obtain ⟨l, hl, hlv⟩ := locv_of hR
  rw [hn] at hlv
  obtain ⟨e, k1, k2⟩ := alC_inv hal
  obtain ⟨q0, ty0, sz0, es0, e0, sz2, es2, b, c, arr, a1, a2, a3, a4, a5, a6⟩ := hs.al id par k j hg
  rw [hgp] at a1
  cases a1
  rw [k1] at a2
  cases a2
  rw [k2] at a3
  cases a3
  have hdp := hs.dp par q ty szp es hgp
  rw [a4] at hdp
  obtain ⟨g1, arr_, hh, hsz, hec, hcm, hes, Fpp, f1, f2, f3⟩ := hdp
  rw [a5] at hh
  cases hh
  obtain ⟨v, hv, hvl⟩ : ∃ v, arr[k * szp + j]? = some v ∧ ((l = .nil ∧ v = .slice none 0 0) ∨ ∃ b' c', l = .blk b' c' ∧ v = .slice (some ⟨b', 0, none⟩) ei.length c') := by
    rcases a6 with ⟨h1, h2⟩ | ⟨b', c', h1, h2⟩
    · rw [hl] at h1; cases h1; exact ⟨_, h2, .inl ⟨rfl, rfl⟩⟩
    · rw [hl] at h1; cases h1; exact ⟨_, h2, .inr ⟨b', c', rfl, rfl⟩⟩
  have htr := f3 k e j _ _ k1 k2 hv
  let F : Nat → Prop := fun x => l ≠ .nil ∧ Fpp k j x ∧ ¬ l.at x
  have hroot : ∃ ty2, DpOk w F ty2 sz ei (some l) ∧ ∀ x, l.at x → Fpp k j x := by
    rcases hvl with ⟨rfl, rfl⟩ | ⟨b', c', rfl, rfl⟩
    · exact ⟨0, ⟨htr.nil_inv, fun x h => h.1 rfl⟩, fun x ⟨c, h⟩ => by cases h⟩
    · generalize hD : D.lst sz ei = D0 at htr
      generalize hV : Value.slice (some ⟨b', 0, none⟩) ei.length c' = V0 at htr
      cases htr with
      | int => cases hD
      | bool => cases hD
      | str => cases hD
      | hole => cases hD
      | nil => cases hV
      | lst _ sz_ es_ b_ c_ arr2 ty2 Fp2 q1 q2 q3 q4 q5 q6 q7 q8 q9 =>
        cases hD
        cases hV
        refine ⟨ty2, ⟨fun h => h.2.2 ⟨c', rfl⟩, arr2, q2, q3, q4, q5, q6, Fp2, fun k' j' x hx => ⟨(by simp), (q7 k' j' x hx).1, fun ⟨cc, hc⟩ => (q7 k' j' x hx).2 (by cases hc; rfl)⟩, q8, q9⟩, ?_⟩
        rintro x ⟨cc, hc⟩
        cases hc
        exact q1
  obtain ⟨ty2, hdp2, hatF⟩ := hroot
  have hft : ∀ x, F x ∨ l.at x → m.ft par x := by
    rintro x (h | h)
    · exact f1 _ _ _ h.2.1
    · exact f1 _ _ _ (hatF x h)
  have hown : ∀ y, m.ft par y → (w0.w.heap.size ≤ y ∨ w0.chg y) ∧ y < w.heap.size := fun y hy => hs.own par _ y hgp (.inr hy)
  have hbown := hs.own par _ b hgp (.inl ⟨c, a4⟩)
  refine callM_run ho hf ha hr hrest hok hs hlv (fun x h => hs.above (hown x (hft x h)).1) (fun x h => (hown x (hft x h)).2) hdp2 fun w' hk F2 h1 h2 => ?_
  have hsame : ∀ y, y < w.heap.size → ¬ (F y ∨ l.at y) → w'.heap[y]? = w.heap[y]? := fun y hy hny => hk.block y hy hny
  have hrootb : w'.heap[b]? = some (.cells arr ty (0, 0)) := (hsame b hbown.2 fun h => g1 (hft b h)).trans a5
  let nd : Blk := .deep q ty szp (setC es k j (.lst sz ei'))
  have hset_ne : ∀ id', id' ≠ par → hget (hset s.hp par nd) id' = hget s.hp id' := fun id' hne => by rw [hget_hset, if_neg hne]
  have hset_eq : hget (hset s.hp par nd) par = some nd := by rw [hget_hset]; simp [hgp]
  have hinner : Tr w' (fun x => F2 x ∨ l.at x) (.lst sz ei') v := by
    rcases hvl with ⟨rfl, rfl⟩ | ⟨b', c', rfl, rfl⟩
    · rw [show ei' = [] from h2.1]; exact .nil _ _
    · rw [← hlen]; exact h2.tr (.inr ⟨c', rfl⟩) fun x hx => .inl hx
  refine ⟨upd m par (.blk b c) (fun y => m.ft par y ∨ F2 y), _, hK, Sim.put ?_ (qPV_R _ _ _ hrs) o.dst⟩
  refine hs.changeD (i := par) (blk' := nd) (F' := fun y => m.ft par y ∨ F2 y) (fun y => y = b ∨ m.ft par y) (.inr a4) hset_eq (fun id' hne blk hb => by rw [hset_ne id' hne] at hb; exact hb) rfl (fun id' par' k' j' hne ha' => ?_) (Nat.le_refl _) (hs.lt_nx a4) ?_ (fun y hy hne => hsame y hy fun h => hne (.inr (hft y h))) ?_ ?_ (fun p' e3 => ?_) (fun p' ty' sz' es3 e3 => ?_) (fun _ => trivial)
  · rw [hset_ne id' hne] at ha'
    by_cases e3 : par' = par
    · subst e3
      refine .inr ?_
      obtain ⟨q', ty', sz', es3, e0, sz3, es4, b3, c3, arr', r1, r2, r3, r4, r5, r6⟩ := hs.al id' par' k' j' ha'
      rw [hgp] at r1
      cases r1
      rw [a4] at r4
      cases r4
      rw [a5] at r5
      cases r5
      by_cases hkj : k' = k ∧ j' = j
      · obtain ⟨rfl, rfl⟩ := hkj
        rw [k1] at r2
        cases r2
        rw [k2] at r3
        cases r3
        obtain ⟨e', s1, s2⟩ := setC_at (d := .lst sz ei') k1 k2
        exact ⟨q, ty, szp, _, e', sz, _, b, c, arr, hset_eq, s1, s2, upd_same _ _ _, hrootb, by rw [upd_ne m _ hne, hlen]; exact r6⟩
      · obtain ⟨e', s1, s2⟩ := setC_other (d := .lst sz ei') k1 hkj r2 r3
        exact ⟨q, ty, szp, _, e', sz3, es4, b, c, arr, hset_eq, s1, s2, upd_same _ _ _, hrootb, by rw [upd_ne m _ hne]; exact r6⟩
    · exact .inl ⟨e3, hset_ne par' e3⟩
  · refine ⟨hk.os, hk.tape, hk.output, hk.size, fun y hy hny => hsame y (Nat.lt_of_lt_of_le hy hs.below.size) fun h => ?_, hk.drawn⟩
    rcases (hown y (hft y h)).1 with h3 | h3
    · omega
    · exact hny h3
  · rintro y (rfl | hf)
    · exact ⟨par, _, hgp, .inl ⟨c, a4⟩, .inl rfl⟩
    · exact ⟨par, _, hgp, .inr hf, .inl rfl⟩
  · intro y hy
    have old : m.ft par y → (w0.w.heap.size ≤ y ∨ w0.chg y) ∧ y < w'.heap.size ∧ (w.heap.size ≤ y ∨ (y = b ∨ m.ft par y)) := fun h => ⟨(hown y h).1, Nat.lt_of_lt_of_le (hown y h).2 hk.size, .inr (.inr h)⟩
    rcases hy with ⟨c2, hc2⟩ | hf
    · rw [upd_same] at hc2
      cases hc2
      exact ⟨hbown.1, Nat.lt_of_lt_of_le hbown.2 hk.size, .inr (.inl rfl)⟩
    · rw [upd_ft] at hf
      rcases hf with hf | hf
      · exact old hf
      · obtain ⟨h3, h4⟩ := h1 y hf
        rcases h3 with h3 | h3
        · exact old (hft y (.inl h3))
        · exact ⟨.inl (Nat.le_trans hs.below.size h3), h4, .inl h3⟩
  · have e4 : (Blk.deep q ty szp (setC es k j (.lst sz ei'))).pinOf = some p' := e3
    rw [← a4]
    exact hs.pin par _ p' hgp (pinOf_deep e4)
  · have e4 : Blk.deep q ty szp (setC es k j (.lst sz ei')) = _ := e3
    cases e4
    have hnew : ∀ y, F2 y ∨ l.at y → Fpp k j y ∨ w.heap.size ≤ y := by
      rintro y (h | h)
      · rcases (h1 y h).1 with h3 | h3
        · exact .inl h3.2.1
        · exact .inr h3
      · exact .inl (hatF y h)
    refine ⟨fun h => ?_, arr, hrootb, hsz, by rw [setC_len]; exact hec, hcm, setC_mem hes, fun k' j' y => (k' = k ∧ j' = j ∧ (F2 y ∨ l.at y)) ∨ (¬ (k' = k ∧ j' = j) ∧ Fpp k' j' y), ?_, ?_, fun k' e' j' d u he' hd2 hu => ?_⟩
    · rcases h with h | h
      · exact g1 h
      · rcases hnew b (.inl h) with h3 | h3
        · exact g1 (f1 _ _ _ h3)
        · omega
    · rintro k' j' y (⟨_, _, h | h⟩ | ⟨_, h⟩)
      · exact .inr h
      · exact .inl (f1 _ _ _ (hatF y h))
      · exact .inl (f1 _ _ _ h)
    · rintro k' j' k3 j3 y (⟨p1, p2, h⟩ | ⟨p1, h⟩) (⟨r1, r2, h'⟩ | ⟨r1, h'⟩)
      · exact ⟨p1.trans r1.symm, p2.trans r2.symm⟩
      · rcases hnew y h with h3 | h3
        · exact (r1 (f2 _ _ _ _ _ h' h3)).elim
        · have := (hown y (f1 _ _ _ h')).2; omega
      · rcases hnew y h' with h3 | h3
        · exact (p1 (f2 _ _ _ _ _ h h3)).elim
        · have := (hown y (f1 _ _ _ h)).2; omega
      · exact f2 _ _ _ _ _ h h'
    · rcases setC_get k1 he' hd2 with ⟨rfl, rfl, rfl⟩ | ⟨hne, e0, h7, h8⟩
      · rw [hv] at hu
        cases hu
        exact hinner.sub fun y hy => .inl ⟨rfl, rfl, hy⟩
      · exact ((f3 k' e0 j' d u h7 h8 hu).sub fun y hy => (.inr ⟨hne, hy⟩ : (k' = k ∧ j' = j ∧ (F2 y ∨ l.at y)) ∨ (¬ (k' = k ∧ j' = j) ∧ Fpp k' j' y))).frame fun y hy => (by
          rcases hy with ⟨p1, p2, _⟩ | ⟨_, hy⟩
          · exact (hne ⟨p1, p2⟩).elim
          · refine hsame y (hown y (f1 _ _ _ hy)).2 fun h => hne ?_
            rcases h with h | h
            · exact f2 _ _ _ _ _ hy h.2.1
            · exact f2 _ _ _ _ _ hy (hatF y h))
end rules
end Go.Proofs.YtjgpbbdapjjmiaaDoor
