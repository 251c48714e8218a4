/-
  The abstract machine: functions that change the rows in a struct that they are given; nothing is told of the rows afterwards. No program is named here.
-/
import Derived.Test.YtphakidbddamfaaGreatZMf
namespace Go.Proofs.YtphakidbddamfaaGreat
open Go.RowKit

/-- a cell of such a struct: a scalar, or a row that may change -/
inductive CW where
  | s (d : D)
  | r (sz : Nat) (es : List (List D))
def CW.ok (w : World) (L : Loc) (F : Nat → Prop) (T : TypeId) (u : Value) : CW → Prop
  | .s d => u = scV d ∧ d.sc
  | .r sz es => LocV L es.length u ∧ DpOk w F T sz es (some L)
/-- a contract: the function may change the rows in the struct that is its first argument; it returns plain results -/
def FnW (P : Program) (f : FuncId) (cs : List CW) (rest rs : List D) : Prop :=
  Enters P f ∧ ∀ (w : World) (vs : Array Value) (L : Nat → Loc) (F : Nat → Nat → Prop) (T : Nat → TypeId), vs.size = cs.length →
    (∀ (i : Nat) (c : CW) (u : Value), cs[i]? = some c → vs[i]? = some u → c.ok w (L i) (F i) (T i) u) →
    (∀ i x, F i x ∨ (L i).at x → x < w.heap.size) → (∀ i j x, (F i x ∨ (L i).at x) → (F j x ∨ (L j).at x) → i = j) →
    Calls P f (#[Value.agg vs] ++ (rest.map scV).toArray) w fun e w' => e = .returned (retV (rs.map scV).toArray) ∧ KeepB ⟨w, fun x => ∃ i, F i x ∨ (L i).at x, fun _ => none⟩ w w'
def cwP : Nat → List CW → List PV
  | _, [] => []
  | i, .s d :: r => .d d :: cwP (i + 1) r
  | i, .r _ es :: r => .row i es.length :: cwP (i + 1) r
def cw1 (i : Nat) : CW → PV
  | .s d => .d d
  | .r _ es => .row i es.length
def cwH (T : Nat → TypeId) : Nat → List CW → List (Nat × Blk)
  | _, [] => []
  | i, .s _ :: r => cwH T (i + 1) r
  | i, .r sz es :: r => (i, .deep (i + 1) (T i) sz es) :: cwH T (i + 1) r
theorem cwP_get : ∀ (cs : List CW) (i k : Nat), (cwP i cs)[k]? = (cs[k]?).map (cw1 (i + k))
  | [], i, k => by simp [cwP]
  | .s d :: r, i, 0 => rfl
  | .r sz es :: r, i, 0 => rfl
  | .s d :: r, i, k + 1 => by simp only [cwP, List.getElem?_cons_succ, cwP_get r (i + 1) k, show i + 1 + k = i + (k + 1) by omega]
  | .r sz es :: r, i, k + 1 => by simp only [cwP, List.getElem?_cons_succ, cwP_get r (i + 1) k, show i + 1 + k = i + (k + 1) by omega]
theorem cwP_len : ∀ (cs : List CW) (i : Nat), (cwP i cs).length = cs.length
  | [], _ => rfl
  | .s _ :: r, i => by simp only [cwP, List.length_cons, cwP_len r]
  | .r _ _ :: r, i => by simp only [cwP, List.length_cons, cwP_len r]
theorem cwH_get {T : Nat → TypeId} : ∀ {cs : List CW} {i id : Nat} {blk : Blk}, hget (cwH T i cs) id = some blk → ∃ k sz es, id = i + k ∧ cs[k]? = some (.r sz es) ∧ blk = .deep (id + 1) (T id) sz es
  | [], _, _, _, h => by cases h
  | .s _ :: r, i, id, blk, h => by
    obtain ⟨k, sz, es, h1, h2, h3⟩ := cwH_get (cs := r) (i := i + 1) h
    exact ⟨k + 1, sz, es, by omega, by simpa using h2, h3⟩
  | .r sz es :: r, i, id, blk, h => by
    simp only [cwH, hget] at h
    split at h
    · rename_i e
      cases h
      subst e
      exact ⟨0, sz, es, rfl, rfl, rfl⟩
    · obtain ⟨k, sz', es', h1, h2, h3⟩ := cwH_get (cs := r) (i := i + 1) h
      exact ⟨k + 1, sz', es', by omega, by simpa using h2, h3⟩
def retW (G : List (Nat × TI)) (fn : Func) (rs : List D) : Exit → AS → Prop
  | .normal, s | .ret, s => retPVs G s fn.results.toList = some (rs.map .d)
  | _, _ => False
theorem fn_okW {P : Program} {G : List (Nat × TI)} (hG : GOK P G) {f : FuncId} {fn : Func} {c : Code} {cs : List CW} {rest rs : List D} (hf : P.funcs[f]? = some fn) (hnm : (fn.name == "runtime.NumGoroutine") = false) (hb : fn.body = some c) (hrest : ∀ d, d ∈ rest → d.sc) (hrs : ∀ d, d ∈ rs → d.sc)
    (h : ∀ T : Nat → TypeId, PW P c (retW G fn rs) ⟨⟨(rest.length + 1) + (fn.ntmps - (rest.length + 1)), enm 0 (.agg (cwP 0 cs) :: rest.map .d)⟩, cwH T 0 cs, cs.length⟩) : FnW P f cs rest rs := by
  refine ⟨⟨fn, hf, hnm, by rw [hb]; rfl⟩, fun w vs L F T hvs hok hlt hdis => ?_⟩
  refine calls_of_wp hf hb ?_
  let m0 : Mp := ⟨fun i => if i < cs.length then some (L i) else none, F⟩
  have hm0 : ∀ i, i < cs.length → m0.loc i = some (L i) := fun i hi => if_pos hi
  have hcell : ∀ {id : Nat} {blk : Blk}, hget (cwH T 0 cs) id = some blk → ∃ sz es, id < cs.length ∧ cs[id]? = some (.r sz es) ∧ blk = .deep (id + 1) (T id) sz es := by
    intro id blk h
    obtain ⟨k, sz, es, h1, h2, h3⟩ := cwH_get h
    rw [Nat.zero_add] at h1
    subst h1
    exact ⟨sz, es, (List.getElem?_eq_some_iff.1 h2).1, h2, h3⟩
  have hrow : ∀ {id sz : Nat} {es : List (List D)}, id < cs.length → cs[id]? = some (.r sz es) → LocV (L id) es.length (vs.getD id undef) ∧ DpOk w (F id) (T id) sz es (some (L id)) := by
    intro id sz es hlt' h
    have hi : id < vs.size := by omega
    have := hok id _ vs[id] h (by simp [hi])
    rw [Array.getD_eq_getD_getElem?, show vs[id]? = some vs[id] by simp [hi]]
    exact this
  have hhas : ∀ {id : Nat} {blk : Blk} {b : Nat}, hget (cwH T 0 cs) id = some blk → blk.has m0 id b → F id b ∨ (L id).at b := by
    intro id blk b h h2
    obtain ⟨sz, es, h3, h4, rfl⟩ := hcell h
    rcases h2 with ⟨c, hc⟩ | hf
    · rw [hm0 id h3] at hc
      exact .inr ⟨c, Option.some.inj hc⟩
    · exact .inl hf
  have hs : Sim (fun _ => False) ⟨w, fun x => ∃ i, F i x ∨ (L i).at x, fun p => if p < cs.length then some (L p) else none⟩ m0 ⟨⟨(rest.length + 1) + (fn.ntmps - (rest.length + 1)), enm 0 (.agg (cwP 0 cs) :: rest.map .d)⟩, cwH T 0 cs, cs.length⟩
      { tmps := (#[Value.agg vs] ++ (rest.map scV).toArray) ++ Array.replicate (fn.ntmps - (#[Value.agg vs] ++ (rest.map scV).toArray).size) undef, defers := [] } w := by
    refine ⟨KeepB.refl _ _, fun b hb => hb.elim, by simp <;> omega, fun i => ?_, rfl, fun id blk h => ?_, fun id p ty' sz' es2 h => ?_, fun id par k j h => ?_, fun id blk p h hpo => ?_, fun id id' blk blk' b h h' h1 h2 => ?_, fun id blk b h hb => ?_, fun id hid => ?_⟩
    · have hlk : lk (enm 0 (PV.agg (cwP 0 cs) :: rest.map .d)) i = (PV.agg (cwP 0 cs) :: rest.map .d).getD i .und := by rw [lk_enm]; simp
      show R _ _ _ (lk (enm 0 (PV.agg (cwP 0 cs) :: rest.map .d)) i) _
      rw [hlk]
      by_cases hi : i < rest.length + 1
      · have e1 : ((#[Value.agg vs] ++ (rest.map scV).toArray) ++ Array.replicate (fn.ntmps - (#[Value.agg vs] ++ (rest.map scV).toArray).size) undef).getD i undef = (Value.agg vs :: rest.map scV).getD i undef := by
          rw [Array.getD_eq_getD_getElem?, Array.getElem?_append_left (by simp; omega), List.getD_eq_getElem?_getD]
          congr 1
          cases i with
          | zero => simp
          | succ i => simp
        rw [e1]
        cases i with
        | zero =>
          simp only [List.getD_cons_zero]
          refine .agg _ _ (by rw [cwP_len]; exact hvs) fun k x v hx hv => ?_
          rw [cwP_get, Nat.zero_add] at hx
          cases hc : cs[k]? with
          | none => rw [hc] at hx; cases hx
          | some c =>
            rw [hc] at hx
            cases hx
            have hk := (List.getElem?_eq_some_iff.1 hc).1
            have h1 := hok k c v hc hv
            cases c with
            | s d => obtain ⟨rfl, h2⟩ := h1; exact .d _ _ (scV_rd h2 _ _)
            | r sz es =>
              have h2 := h1.1
              have h3 := hm0 k hk
              generalize L k = l at h2 h3
              cases l with
              | nil => obtain ⟨rfl, h0⟩ := h2; show R _ _ _ (.row k es.length) _; rw [h0]; exact .rowN _ h3
              | blk b c => obtain ⟨rfl, h0⟩ := h2; exact .rowB _ _ _ _ h3 h0
        | succ i =>
          simp only [List.getD_cons_succ]
          have hil : i < rest.length := by omega
          rw [List.getD_eq_getElem?_getD, List.getD_eq_getElem?_getD, List.getElem?_map, List.getElem?_map, List.getElem?_eq_getElem hil]
          exact .d _ _ (scV_rd (hrest _ (List.getElem_mem hil)) _ _)
      · rw [List.getD_eq_getElem?_getD, List.getElem?_eq_none (by simp; omega)]
        exact .und _
    · obtain ⟨sz, es, h3, h4, rfl⟩ := hcell h
      exact ⟨L id, hm0 id h3, trivial⟩
    · obtain ⟨sz, es, h3, h4, e⟩ := hcell h
      cases e
      rw [hm0 id h3]
      exact (hrow h3 h4).2
    · obtain ⟨_, _, _, _, e⟩ := hcell h
      cases e
    · obtain ⟨sz, es, h3, h4, rfl⟩ := hcell h
      cases hpo
      rfl
    · exact hdis _ _ b (hhas h h1) (hhas h' h2)
    · exact ⟨.inr ⟨id, hhas h hb⟩, hlt id b (hhas h hb)⟩
    · exact if_neg (by have : cs.length ≤ id := hid; omega)
  refine wp_mono (h T _ _ _ _ w hs) ?_
  rintro e a' w' ⟨m, s, hq, hs'⟩
  have key : retPVs G s fn.results.toList = some (rs.map .d) → a'.defers = [] ∧ ∃ v, (results fn a'.tmps).run P w' = .ok v w' ∧ (Ending.returned v = .returned (retV (rs.map scV).toArray) ∧ KeepB ⟨w, fun x => ∃ i, F i x ∨ (L i).at x, fun _ => none⟩ w w') := by
    intro h1
    refine ⟨hs'.df, ?_⟩
    obtain ⟨us, r1, r2, r3⟩ := ret_run hG hs' fn.results.toList _ h1
    have hus : us = rs.map scV := by
      apply List.ext_getElem?
      intro i
      rcases Nat.lt_or_ge i rs.length with hi | hi
      · have hlt : i < us.length := by rw [r2]; simpa using hi
        have := r3 i (.d rs[i]) us[i] (by rw [List.getElem?_map, List.getElem?_eq_getElem hi]; rfl) (List.getElem?_eq_getElem hlt)
        rw [List.getElem?_eq_getElem hlt, List.getElem?_map, List.getElem?_eq_getElem hi, scV_eq (hrs _ (List.getElem_mem hi)) this.rd]
        rfl
      · rw [List.getElem?_eq_none (by rw [r2]; simpa using hi), List.getElem?_eq_none (by simpa using hi)]
    refine ⟨retV us.toArray, ?_, by rw [hus], ⟨hs'.below.os, hs'.below.tape, hs'.below.output, hs'.below.size, fun k hk hn => hs'.below.block k hk hn, hs'.below.drawn⟩⟩
    show (do let us ← fn.results.mapM (resF a'.tmps); pure (retV us) : Sem Value).run P w' = _
    rw [Sem.run_bind, Array.mapM_eq_mapM_toList]
    simp [r1]
  cases e with
  | normal => exact key hq
  | ret => exact key hq
  | _ => exact hq.elim
/-- cells in the caller's frame -/
def cwL (hp : List (Nat × Blk)) : List PV → List CW → Prop
  | [], [] => True
  | .d d :: r, .s d' :: q => (d = d' ∧ d.sc) ∧ cwL hp r q
  | .row id n :: r, .r sz es :: q => (n = es.length ∧ ((∃ p ty, hget hp id = some (.deep p ty sz es)) ∨ ((∃ ty, hget hp id = some (.row ty sz es)) ∧ flatE es))) ∧ cwL hp r q
  | _, _ => False
theorem cwL_len {hp : List (Nat × Blk)} : ∀ {xs : List PV} {cs : List CW}, cwL hp xs cs → xs.length = cs.length
  | [], [], _ => rfl
  | .d d :: r, .s d' :: q, h => by simp only [List.length_cons, cwL_len h.2]
  | .row id n :: r, .r sz es :: q, h => by simp only [List.length_cons, cwL_len h.2]
  | [], .s _ :: _, h => h.elim
  | [], .r _ _ :: _, h => h.elim
theorem cwL_get {hp : List (Nat × Blk)} : ∀ {xs : List PV} {cs : List CW}, cwL hp xs cs → ∀ (i : Nat) (c : CW), cs[i]? = some c → (∃ d, xs[i]? = some (.d d) ∧ c = .s d ∧ d.sc) ∨ ∃ id sz es, xs[i]? = some (.row id es.length) ∧ c = .r sz es ∧ ((∃ p ty, hget hp id = some (.deep p ty sz es)) ∨ ((∃ ty, hget hp id = some (.row ty sz es)) ∧ flatE es))
  | [], [], _, i, c, h => by cases i <;> cases h
  | .d d :: r, .s d' :: q, h, i, c, hc => by
    cases i with
    | zero => cases hc; obtain ⟨⟨rfl, h1⟩, _⟩ := h; exact .inl ⟨d, rfl, rfl, h1⟩
    | succ i => exact cwL_get h.2 i c hc
  | .row id n :: r, .r sz es :: q, h, i, c, hc => by
    cases i with
    | zero => cases hc; obtain ⟨⟨rfl, h1⟩, _⟩ := h; exact .inr ⟨id, sz, es, rfl, rfl, h1⟩
    | succ i => exact cwL_get h.2 i c hc
section rules
variable {P : Program} {o : Oper} {s : AS} {K : AS → Prop}
/-- the rows are gone after the call -/
theorem po_callW {f x0 : Operand} {ys : List Operand} {args : Array Operand} {ts : Array TypeId} {fid : FuncId} {xs : List PV} {cs : List CW} {rest rs : List D}
    (ho : o.op = .call { callee := .value f, args := args, argTypes := ts }) (hf : s.get f = .fn fid []) (ha : args.toList = x0 :: ys) (hx : s.get x0 = .agg xs) (hr : ys.map s.get = rest.map .d) (hrest : ∀ d, d ∈ rest → d.sc) (hrs : ∀ d, d ∈ rs → d.sc) (hcs : cwL s.hp xs cs) (hnd : (rowIds xs).Nodup)
    (hok : FnW P fid cs rest rs) (hK : K (AS.put ⟨s.fr, hcut s.hp (rowIds xs), s.nx⟩ o.dst (qPV rs))) : PO P o s K := by
  intro X0 w0 m a w Q hs
  have hR := hs.get x0
  rw [hx] at hR
  obtain ⟨vs, hvl, hvs, hve⟩ : ∃ vs : Array Value, vs.size = xs.length ∧ (∀ (i : Nat) (x : PV) (v : Value), xs[i]? = some x → vs[i]? = some v → R m (Owned X0 m s.hp) w x v) ∧ a.eval x0 = .agg vs := by
    generalize a.eval x0 = v at hR
    cases hR with
    | agg _ vs hl h => exact ⟨vs, hl, h, rfl⟩
  have hlen := cwL_len hcs
  -- where the cells' rows lie
  let idf : Nat → Option Nat := fun i => match xs[i]? with
    | some (.row id _) => some id
    | _ => none
  let L : Nat → Loc := fun i => match idf i with
    | some id => (m.loc id).getD .nil
    | none => .nil
  let F : Nat → Nat → Prop := fun i => match idf i with
    | some id => (match hget s.hp id with
      | some (.deep _ _ _ _) => m.ft id
      | _ => fun _ => False)
    | none => fun _ => False
  let T : Nat → TypeId := fun i => match idf i with
    | some id => (match hget s.hp id with
      | some b => b.ty
      | none => 0)
    | none => 0
  have hown : ∀ i x, F i x ∨ (L i).at x → ∃ id n blk, xs[i]? = some (.row id n) ∧ hget s.hp id = some blk ∧ blk.has m id x := by
    intro i x h
    cases hxi : xs[i]? with
    | none =>
      have e : idf i = none := by simp only [idf, hxi]
      simp only [F, L, e] at h
      rcases h with h | ⟨c, h⟩
      · exact h.elim
      · cases h
    | some y =>
      by_cases hy : ∃ id n, y = .row id n
      · obtain ⟨id, n, rfl⟩ := hy
        have e : idf i = some id := by simp only [idf, hxi]
        have hi := (List.getElem?_eq_some_iff.1 hxi).1
        have hc := List.getElem?_eq_getElem (show i < cs.length by omega)
        rcases cwL_get hcs i _ hc with ⟨d, h1, _⟩ | ⟨id', sz, es, h1, h2, h3⟩
        · rw [hxi] at h1; cases h1
        · rw [hxi] at h1
          cases h1
          simp only [F, L, e] at h
          rcases h3 with ⟨p, ty, h3⟩ | ⟨⟨ty, h3⟩, _⟩
          · refine ⟨id, _, _, rfl, h3, ?_⟩
            rw [h3] at h
            rcases h with h | ⟨c, h⟩
            · exact .inr h
            · obtain ⟨l, h4, _⟩ := hs.hp id _ h3
              rw [h4] at h
              exact .inl ⟨c, by rw [h4]; exact congrArg some h⟩
          · refine ⟨id, _, _, rfl, h3, ?_⟩
            rw [h3] at h
            rcases h with h | ⟨c, h⟩
            · exact h.elim
            · obtain ⟨l, h4, _⟩ := hs.hp id _ h3
              rw [h4] at h
              exact ⟨c, by rw [h4]; exact congrArg some h⟩
      · have e : idf i = none := by
          simp only [idf, hxi]
          cases y <;> first | rfl | exact (hy ⟨_, _, rfl⟩).elim
        simp only [F, L, e] at h
        rcases h with h | ⟨c, h⟩
        · exact h.elim
        · cases h
  have hokc : ∀ (i : Nat) (c : CW) (u : Value), cs[i]? = some c → vs[i]? = some u → c.ok w (L i) (F i) (T i) u := by
    intro i c u hc hu
    rcases cwL_get hcs i c hc with ⟨d, h1, rfl, h2⟩ | ⟨id, sz, es, h1, rfl, h3⟩
    · have h4 := hvs i _ u h1 hu
      exact ⟨scV_eq h2 h4.rd, h2⟩
    · have e : idf i = some id := by simp only [idf, h1]
      obtain ⟨l, hl, hlv⟩ := locv_of (hvs i _ u h1 hu)
      have eL : L i = l := by simp only [L, e, hl, Option.getD_some]
      show LocV (L i) es.length u ∧ DpOk w (F i) (T i) sz es (some (L i))
      rw [eL]
      refine ⟨hlv, ?_⟩
      rcases h3 with ⟨p, ty, h3⟩ | ⟨⟨ty, h3⟩, hfl⟩
      · have eF : F i = m.ft id := by simp only [F, e, h3]
        have eT : T i = ty := by simp only [T, e, h3, Blk.ty]
        rw [eF, eT]
        have := hs.dp id p ty sz es h3
        rw [hl] at this
        exact this
      · have eF : F i = fun _ => False := by simp only [F, e, h3]
        have eT : T i = ty := by simp only [T, e, h3, Blk.ty]
        rw [eF, eT]
        obtain ⟨l', h6, h7⟩ := hs.hp id _ h3
        rw [hl] at h6
        cases h6
        cases l with
        | nil => exact ⟨h7, fun _ h => h⟩
        | blk b c =>
          obtain ⟨arr, hh, hc2⟩ := h7
          exact ⟨fun h => h, arr, hh, hc2.1, hc2.2.1, hc2.2.2.1, hc2.2.2.2.1, fun _ _ _ => False, fun _ _ _ h => h, fun _ _ _ _ _ h => h.elim, fun k e j d v he hd hv => (hc2.2.2.2.2 k e j d v he hd hv).tr (hfl e (List.mem_of_getElem? he) d (List.mem_of_getElem? hd))⟩
  have hltc : ∀ i x, F i x ∨ (L i).at x → x < w.heap.size := fun i x h => by
    obtain ⟨id, n, blk, _, h2, h3⟩ := hown i x h
    exact (hs.own id blk x h2 h3).2
  have hdis : ∀ i j x, (F i x ∨ (L i).at x) → (F j x ∨ (L j).at x) → i = j := fun i j x h h' => by
    obtain ⟨id, n, blk, h1, h2, h3⟩ := hown i x h
    obtain ⟨id', n', blk', h1', h2', h3'⟩ := hown j x h'
    have := hs.inj id id' blk blk' x h2 h2' h3 h3'
    subst this
    exact rowIds_inj hnd i j id n n' h1 h1'
  obtain ⟨⟨fn, e1, e2, e3⟩, hcall⟩ := hok
  have hfv := hs.get f
  rw [hf] at hfv
  have hfe : a.eval f = .func (.func fid) #[] #[] := by
    generalize a.eval f = v at hfv
    cases hfv with
    | fn _ _ vs hl h => have : vs = #[] := Array.eq_empty_of_size_eq_zero hl; subst this; rfl
  have hvals : args.map a.eval = #[Value.agg vs] ++ (rest.map scV).toArray := by
    apply Array.ext'
    rw [Array.toList_map, ha]
    simp only [List.map_cons, Array.toList_append, List.cons_append, List.nil_append, List.cons.injEq, hve, true_and]
    apply List.ext_getElem?
    intro i
    rw [List.getElem?_map, List.getElem?_map]
    have h1 : (ys.map s.get)[i]? = (rest.map PV.d)[i]? := by rw [hr]
    rw [List.getElem?_map, List.getElem?_map] at h1
    cases hy : ys[i]? with
    | none =>
      rw [hy] at h1
      cases hd : rest[i]? with
      | none => rfl
      | some d => rw [hd] at h1; cases h1
    | some y =>
      rw [hy] at h1
      cases hd : rest[i]? with
      | none => rw [hd] at h1; cases h1
      | some d =>
        rw [hd] at h1
        have h2 : s.get y = .d d := by simpa using h1
        have h3 := hs.get y
        rw [h2] at h3
        exact congrArg some (scV_eq (hrest d (List.mem_of_getElem? hd)) h3.rd)
  have hrun : (execOp a.eval o).run P w = .ok (.enter fid (args.map a.eval)) w := by
    have e2' : ¬ fn.name = "runtime.NumGoroutine" := by simpa using e2
    have e3' : ¬ fn.body = none := fun h => by rw [h] at e3; cases e3
    simp [execOp, ho, resolve, hfe, Deferred.ofValue, invoke, callFunc, e1]
    rw [if_neg e2', if_neg e3']
  unfold Oper.wp
  rw [hrun]
  simp only [Oper.upon_enter]
  rw [hvals]
  refine (hcall w vs L F T (by omega) hokc hltc hdis).mono ?_
  rintro e w' ⟨rfl, hk⟩
  refine ⟨m, _, hK, Sim.put ?_ (qPV_R _ _ _ hrs) o.dst⟩
  have hin : ∀ i x, (F i x ∨ (L i).at x) → ∃ id n blk, PV.row id n ∈ xs ∧ hget s.hp id = some blk ∧ blk.has m id x := fun i x h => by
    obtain ⟨id, n, blk, h1, h2, h3⟩ := hown i x h
    exact ⟨id, n, blk, List.mem_of_getElem? h1, h2, h3⟩
  have hsame : ∀ id blk b, hget (hcut s.hp (rowIds xs)) id = some blk → blk.has m id b → w'.heap[b]? = w.heap[b]? := by
    intro id blk b h1 h2
    obtain ⟨h3, h4⟩ := hcut_keep h1
    refine hk.block b (hs.own id blk b h4 h2).2 ?_
    rintro ⟨i, hi⟩
    obtain ⟨id', n, blk', h5, h6, h7⟩ := hin i b hi
    have := hs.inj id id' blk blk' b h4 h6 h2 h7
    subst this
    exact h3 (rowIds_mem h5)
  have hst : Stay w w' (Owned X0 m s.hp) (Owned X0 m (hcut s.hp (rowIds xs))) := by
    intro b hb hn
    refine ⟨hk.block b hb ?_, ?_⟩
    · rintro ⟨i, hi⟩
      obtain ⟨id', n, blk', _, h6, h7⟩ := hin i b hi
      exact hn (.inr ⟨id', blk', h6, h7⟩)
    · rintro (h | ⟨id, blk, h1, h2⟩)
      · exact hn (.inl h)
      · exact hn (.inr ⟨id, blk, (hcut_keep h1).2, h2⟩)
  refine hs.step (fun _ _ h => h) ⟨hk.os, hk.tape, hk.output, hk.size, fun y hy hny => hk.block y (Nat.lt_of_lt_of_le hy hs.below.size) ?_, hk.drawn⟩ hst (fun id blk h => ?_) (fun id p ty sz es h => ?_) (fun id par k j h => ?_) (fun id blk p h hpo => hs.pin id blk p (hcut_keep h).2 hpo) (fun id id' blk blk' b h h' => hs.inj id id' blk blk' b (hcut_keep h).2 (hcut_keep h').2) (fun id blk b h hb => ?_) hs.nx
  · rintro ⟨i, hi⟩
    obtain ⟨id', n, blk', _, h6, h7⟩ := hin i y hi
    rcases (hs.own id' blk' y h6 h7).1 with h8 | h8
    · omega
    · exact hny h8
  · obtain ⟨l, h1, h2⟩ := hs.hp id blk (hcut_keep h).2
    exact ⟨l, h1, h2.mono (fun _ _ h => h) hst fun b c hp hl => hsame id blk b h (Blk.has_root hp (by rw [h1, hl]))⟩
  · exact (hs.dp id p ty sz es (hcut_keep h).2).frame (fun x hx => hsame id _ x h (.inr hx)) fun b c hl => hsame id _ b h (.inl ⟨c, hl⟩)
  · obtain ⟨q, ty, sz, es, e0, sz', es', b, c, arr, a1, a2, a3, a4, a5, a6⟩ := hs.al id par k j (hcut_keep h).2
    have hpar := hcut_deep a1 (hcut_al h) rfl
    exact ⟨q, ty, sz, es, e0, sz', es', b, c, arr, hpar, a2, a3, a4, (hsame par _ b hpar (.inl ⟨c, a4⟩)).trans a5, a6⟩
  · have := hs.own id blk b (hcut_keep h).2 hb
    exact ⟨this.1, Nat.lt_of_lt_of_le this.2 hk.size⟩
end rules
end Go.Proofs.YtphakidbddamfaaGreat
