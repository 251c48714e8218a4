/-
  Arguments of any shape, opened as plain data; reading facts that a walk carries along. No program is named here.
-/
import Derived.Test.YthocihmhljmgdaaGreatDoorZOrd
import Derived.Test.YthocihmhljmgdaaGreatDoorZM9
import Derived.Test.YthocihmhljmgdaaGreatDoorZMe
import Derived.Sort.Statements
namespace Go.Proofs.YthocihmhljmgdaaGreatDoor
open Go.ChangeShapes Go.WideShapes Go.ChangeAt Go.RowKit Go.Deep

section
variable {H : Type} {enc : TypeId × Value → H} {P : Program} {w : World} {base : Nat} {spare : Nat → Bool} {held : Bool}
/-- the cells read as data -/
def CRd (w : World) (ds : List D) (cs : List Value) : Prop := cs.length = ds.length ∧ ∀ (j : Nat) d u, ds[j]? = some d → cs[j]? = some u → Rd w (fun _ => False) d u
/-- a type's cells, opened -/
def OpenK (enc : TypeId × Value → H) (P : Program) (w : World) (base : Nat) (spare : Nat → Bool) (held : Bool) {α : Type} (dat : α → List D) (ok : α → Prop) (t : TypeId) (sz : Nat) : Prop :=
  (∀ x, (dat x).length = sz) ∧ ∀ fuel cs y, DataW.trod enc P w base spare held fuel t cs = some y → ∃ x : α, ok x ∧ CRd w (dat x) cs
theorem OpenK.int {t : TypeId} (ht : P.underlying t = some (.int .i64)) : OpenK enc P w base spare held datI (fun _ => True) t 1 := by
  refine ⟨fun _ => rfl, fun fuel cs y h => ?_⟩
  obtain ⟨n, rfl, _, _⟩ := DataW.trod_int ht h
  refine ⟨n, trivial, rfl, fun j d u hd hu => ?_⟩
  cases j with
  | zero => simp [datI] at hd hu; subst hd hu; exact .int _ _
  | succ j => simp [datI] at hd
def datB (b : Bool) : List D := [.bool b]
theorem OpenK.bool {t : TypeId} (ht : P.underlying t = some .bool) : OpenK enc P w base spare held datB (fun _ => True) t 1 := by
  refine ⟨fun _ => rfl, fun fuel cs y h => ?_⟩
  obtain ⟨n, rfl, _⟩ := DataW.trod_bool ht h
  refine ⟨n, trivial, rfl, fun j d u hd hu => ?_⟩
  cases j with
  | zero => simp [datB] at hd hu; subst hd hu; exact .bool _
  | succ j => simp [datB] at hd
def datS (s : ByteArray) : List D := [.str s]
theorem OpenK.str {t : TypeId} (ht : P.underlying t = some .string) : OpenK enc P w base spare held datS (fun s => s.size ≤ maxLen) t 1 := by
  refine ⟨fun _ => rfl, fun fuel cs y h => ?_⟩
  obtain ⟨n, rfl, _, hl⟩ := DataW.trod_string ht h
  refine ⟨n, hl, rfl, fun j d u hd hu => ?_⟩
  cases j with
  | zero => simp [datS] at hd hu; subst hd hu; exact .str _
  | succ j => simp [datS] at hd
theorem OpenK.map {α β : Type} {dat : α → List D} {ok : α → Prop} {t : TypeId} {sz : Nat} (h : OpenK enc P w base spare held dat ok t sz) (f : α → β) (dat' : β → List D) (ok' : β → Prop) (hl : ∀ y, (dat' y).length = sz) (hd : ∀ x, dat' (f x) = dat x) (ho : ∀ x, ok x → ok' (f x)) : OpenK enc P w base spare held dat' ok' t sz := by
  refine ⟨hl, fun fuel cs y hy => ?_⟩
  obtain ⟨x, h1, h2⟩ := h.2 fuel cs y hy
  exact ⟨f x, ho x h1, by rw [hd]; exact h2⟩
def datL {α : Type} (sz : Nat) (dat : α → List D) (xs : List α) : List D := [.lst sz (xs.map dat)]
theorem OpenK.slc {α : Type} {dat : α → List D} {ok : α → Prop} {t e : TypeId} {sz : Nat} (h : OpenK enc P w base spare held dat ok e sz) (ht : P.underlying t = some (.slice e)) (hC : P.cellsOf e = sz) (hsz : 0 < sz) :
    OpenK enc P w base spare held (datL sz dat) (fun xs => xs.length ≤ maxLen ∧ ∀ x ∈ xs, ok x) t 1 := by
  refine ⟨fun _ => rfl, fun fuel cs y hy => ?_⟩
  rcases open_slice ht hy with ⟨rfl, _⟩ | ⟨a, len, cap, m, n, D', Pl, rfl, hb, hl, hm, hmm, _, hx⟩
  · refine ⟨[], ⟨by simp, by simp⟩, rfl, fun j d u hd hu => ?_⟩
    cases j with
    | zero => simp [datL] at hd hu; subst hd hu; exact .nil _ _ _
    | succ j => simp [datL] at hd
  · have hlm : len ≤ m := by rw [hmm]; split <;> omega
    obtain ⟨xs, hxl, hxs⟩ := exists_list (p := fun i (x : α) => ok x ∧ ∀ (j : Nat) d, (dat x)[j]? = some d → ∃ u, w.cell? ((a.add (i * sz)).add j) = some u ∧ Rd w (fun _ => False) d u) len fun i hi => by
      obtain ⟨cs', h1, h2⟩ := hx i (by omega)
      obtain ⟨x, h3, h4⟩ := h.2 _ _ _ h2
      rw [hC] at h1
      obtain ⟨hcl, _, hc⟩ := World.cells?_some h1
      refine ⟨x, h3, fun j d hd => ?_⟩
      have hj : j < sz := by rw [← h.1 x]; exact (List.getElem?_eq_some_iff.1 hd).1
      have hjc : j < cs'.length := by rw [h4.1, h.1]; exact hj
      refine ⟨cs'[j], by rw [hc j hj]; exact List.getElem?_eq_getElem hjc, h4.2 j d _ hd (List.getElem?_eq_getElem hjc)⟩
    refine ⟨xs, ⟨by omega, fun x hx => ?_⟩, rfl, fun j d u hd hu => ?_⟩
    · obtain ⟨i, hi⟩ := List.getElem?_of_mem hx
      exact (hxs i x hi).1
    · cases j with
      | succ j => simp [datL] at hd
      | zero =>
        simp [datL] at hd hu
        subst hd hu
        obtain ⟨b, off, spot⟩ := a
        rcases Nat.eq_zero_or_pos len with h0 | h0
        · have : xs = [] := List.eq_nil_of_length_eq_zero (by omega)
          subst this
          subst h0
          exact .nil _ _ _
        · have hsp : spot = none := by
            have hd0 := List.getElem?_eq_getElem (show 0 < (dat xs[0]).length by rw [h.1]; exact hsz)
            obtain ⟨u, hu, _⟩ := (hxs 0 xs[0] (List.getElem?_eq_getElem (by omega))).2 0 _ hd0
            simpa [Addr.add] using World.cell?_spot hu
          subst hsp
          have key : ∀ (k : Nat) e (j : Nat) d, (xs.map dat)[k]? = some e → e[j]? = some d → ∃ u, w.cell? ⟨b, off + (k * sz + j), none⟩ = some u ∧ Rd w (fun _ => False) d u := by
            intro k e j d he hd
            rw [List.getElem?_map] at he
            cases hk : xs[k]? with
            | none => rw [hk] at he; cases he
            | some x =>
              rw [hk] at he
              cases he
              obtain ⟨u, h1, h2⟩ := (hxs k x hk).2 j d hd
              have e2 : ((⟨b, off, none⟩ : Addr).add (k * sz)).add j = ⟨b, off + (k * sz + j), none⟩ := by
                unfold Addr.add
                split <;> split <;> simp_all <;> omega
              rw [e2] at h1
              exact ⟨u, h1, h2⟩
          rw [← hxl, ← List.length_map (f := dat)]
          refine .lst _ _ _ _ _ (by rw [List.length_map]; omega) (fun e he => ?_) (fun k e j d he hd => ⟨fun h => h, ?_⟩) (fun k e j d v he hd hv => ?_)
          · obtain ⟨x, _, rfl⟩ := List.mem_map.1 he; exact h.1 x
          · obtain ⟨u, q1, _⟩ := key k e j d he hd; exact ⟨u, q1⟩
          · obtain ⟨u, q1, q2⟩ := key k e j d he hd
            rw [hv] at q1
            cases q1
            exact q2
/-- the fields of a struct, from one on -/
def OpenFs (enc : TypeId × Value → H) (P : Program) (w : World) (base : Nat) (spare : Nat → Bool) (held : Bool) (o : Nat) (fs : List Field) {α : Type} (dat : α → List D) (ok : α → Prop) (sz : Nat) : Prop :=
  (∀ x, (dat x).length = sz) ∧ ∀ cs : List Value, (∀ f ∈ fs, ∃ n y, DataW.trod enc P w base spare held n f.type ((cs.drop f.offset).take (P.cellsOf f.type)) = some y) → ∃ x : α, ok x ∧ ∀ (j : Nat) d u, (dat x)[j]? = some d → cs[o + j]? = some u → Rd w (fun _ => False) d u
theorem OpenFs.nil (o : Nat) : OpenFs enc P w base spare held o [] (fun _ : Unit => []) (fun _ => True) 0 :=
  ⟨fun _ => rfl, fun cs _ => ⟨(), trivial, fun j d u hd _ => by simp at hd⟩⟩
theorem OpenFs.cons {α β : Type} {dat : α → List D} {dat' : β → List D} {ok : α → Prop} {ok' : β → Prop} {o sz sz' : Nat} {f : Field} {fs : List Field} (h : OpenK enc P w base spare held dat ok f.type sz) (ho : f.offset = o) (hC : P.cellsOf f.type = sz) (h' : OpenFs enc P w base spare held (o + sz) fs dat' ok' sz') :
    OpenFs enc P w base spare held o (f :: fs) (fun p : α × β => dat p.1 ++ dat' p.2) (fun p => ok p.1 ∧ ok' p.2) (sz + sz') := by
  refine ⟨fun x => by rw [List.length_append, h.1, h'.1], fun cs hc => ?_⟩
  obtain ⟨n, y, hy⟩ := hc f (by simp)
  obtain ⟨x, h1, h2⟩ := h.2 _ _ _ hy
  obtain ⟨x', h3, h4⟩ := h'.2 cs fun g hg => hc g (List.mem_cons_of_mem _ hg)
  refine ⟨(x, x'), ⟨h1, h3⟩, fun j d u hd hu => ?_⟩
  by_cases hj : j < sz
  · rw [List.getElem?_append_left (by rw [h.1]; exact hj)] at hd
    refine h2.2 j d u hd ?_
    rw [ho, hC, List.getElem?_take_of_lt hj, List.getElem?_drop]
    exact hu
  · rw [List.getElem?_append_right (by rw [h.1]; omega), h.1] at hd
    exact h4 (j - sz) d u hd (by rw [show o + sz + (j - sz) = o + j by omega]; exact hu)
theorem OpenK.st {α : Type} {dat : α → List D} {ok : α → Prop} {t : TypeId} {fs : Array Field} {sz : Nat} (h : OpenFs enc P w base spare held 0 fs.toList dat ok sz) (ht : P.underlying t = some (.struct fs)) (hC : P.cellsOf t = sz) : OpenK enc P w base spare held dat ok t sz := by
  refine ⟨h.1, fun fuel cs y hy => ?_⟩
  obtain ⟨ys, n, _, _, hlen, hyl, hf⟩ := DataW.trod_struct ht hy
  obtain ⟨x, h1, h2⟩ := h.2 cs fun f hfm => by
    obtain ⟨i, hi⟩ := List.getElem?_of_mem hfm
    have hi' : fs[i]? = some f := by simpa using hi
    have hlt : i < ys.length := by rw [hyl]; exact (Array.getElem?_eq_some_iff.1 hi').1
    exact ⟨n, ys[i], by rw [hf i f hi', List.getElem?_eq_getElem hlt]⟩
  exact ⟨x, h1, by rw [hlen, hC, h.1], fun j d u hd hu => h2 j d u hd (by simpa using hu)⟩
end
end Go.Proofs.YthocihmhljmgdaaGreatDoor
namespace Go.Proofs.YthocihmhljmgdaaGreatDoor
open Go.ChangeShapes Go.WideShapes Go.ChangeAt Go.RowKit Go.Deep

theorem mwalk {P : Program} {f : FuncId} {args : List PV} (h : FnEq P f args [.d (.bool true)]) (w : World) (hGL : GL w) (vals : Array Value) (hl : vals.size = args.length)
    (ha : ∀ (i : Nat) (x : PV) (v : Value), args[i]? = some x → vals[i]? = some v → R (fun _ => none) (fun _ => False) w x v) : Calls P f vals w fun e w' => e = .returned (.bool true) ∧ Below w.heap.size w w' := by
  refine (FnOK.calls h w hGL vals hl ha).mono ?_
  rintro e w' ⟨rs, rfl, hr⟩
  obtain ⟨Y, v0, g0, rfl, h0, hb⟩ := hr.one
  exact ⟨by rw [rr_bool h0], hb⟩
theorem R_of_crd1 {w : World} {d : D} {v : Value} {vs : List Value} (hv : vs = [v]) (h : CRd w [d] vs) : R (fun _ => none) (fun _ => False) w (.d d) v := by
  subst hv
  exact .d _ _ (h.2 0 d v rfl rfl)
end Go.Proofs.YthocihmhljmgdaaGreatDoor

/-
  The abstract machine: functions that change a row that they are given. No program is named here.
-/
namespace Go.Proofs.YthocihmhljmgdaaGreatDoor
open Go.RowKit

/-- the slice value of a row at a place -/
def LocV : Loc → Nat → Value → Prop
  | .nil, n, v => v = .slice none 0 0 ∧ n = 0
  | .blk b c, n, v => v = .slice (some ⟨b, 0, none⟩) n c ∧ n ≤ c
def Loc.at (l : Loc) (b : Nat) : Prop := ∃ c, l = .blk b c
/-- a contract: the function changes the row that is its first argument from es to es' and returns plain results -/
def FnM (P : Program) (f : FuncId) (sz : Nat) (es : List (List D)) (rest : List D) (es' : List (List D)) (rs : List D) : Prop :=
  Enters P f ∧ ∀ (w : World) (ty : TypeId) (l : Loc) (F : Nat → Prop) (v : Value), GL w ∧ (∀ x, F x ∨ l.at x → glN ≤ x) → LocV l es.length v → (∀ x, F x ∨ l.at x → x < w.heap.size) → DpOk w F ty sz es (some l) →
    Calls P f (#[v] ++ (rest.map scV).toArray) w fun e w' => e = .returned (retV (rs.map scV).toArray) ∧ KeepB ⟨w, fun x => F x ∨ l.at x, fun _ => none⟩ w w' ∧ ∃ F2 : Nat → Prop, (∀ x, F2 x → (F x ∨ w.heap.size ≤ x) ∧ x < w'.heap.size) ∧ DpOk w' F2 ty sz es' (some l)
section rules
variable {P : Program} {o : Oper} {s : AS} {K : AS → Prop}
/-- the call of such a function, left to what it does to memory -/
theorem callM_run {f x0 : Operand} {ys : List Operand} {args : Array Operand} {ts : Array TypeId} {fid : FuncId} {sz : Nat} {es es' : List (List D)} {rest rs : List D} {X0 : Nat → Prop} {w0 : Base} {m : Mp} {a : Act} {w : World} {A : Act → World → Prop} {Q : Exit → Act → World → Prop}
    (ho : o.op = .call { callee := .value f, args := args, argTypes := ts }) (hf : s.get f = .fn fid []) (ha : args.toList = x0 :: ys) (hr : ys.map s.get = rest.map .d) (hrest : ∀ d, d ∈ rest → d.sc) (hok : FnM P fid sz es rest es' rs) (hs : Sim X0 w0 m s a w)
    {ty : TypeId} {l : Loc} {F : Nat → Prop} (hlv : LocV l es.length (a.eval x0)) (hgn : ∀ x, F x ∨ l.at x → glN ≤ x) (hlt : ∀ x, F x ∨ l.at x → x < w.heap.size) (hdp : DpOk w F ty sz es (some l))
    (hA : ∀ w', KeepB ⟨w, fun x => F x ∨ l.at x, fun _ => none⟩ w w' → ∀ F2 : Nat → Prop, (∀ x, F2 x → (F x ∨ w.heap.size ≤ x) ∧ x < w'.heap.size) → DpOk w' F2 ty sz es' (some l) → A (a.put o.dst (retV (rs.map scV).toArray)) w') : o.wp P a w A Q := by
  obtain ⟨⟨fn, e1, e2, e3⟩, hcall⟩ := hok
  have hfv := hs.get f
  rw [hf] at hfv
  have hfe : a.eval f = .func (.func fid) #[] #[] := by
    generalize a.eval f = v at hfv
    cases hfv with
    | fn _ _ vs hl h => have : vs = #[] := Array.eq_empty_of_size_eq_zero hl; subst this; rfl
  have hvals : args.map a.eval = #[a.eval x0] ++ (rest.map scV).toArray := by
    apply Array.ext'
    rw [Array.toList_map, ha]
    simp only [List.map_cons, Array.toList_append, List.cons_append, List.nil_append, List.cons.injEq, true_and]
    apply List.ext_getElem?
    intro i
    rw [List.getElem?_map, List.getElem?_map]
    have h1 : (ys.map s.get)[i]? = (rest.map PV.d)[i]? := by rw [hr]
    rw [List.getElem?_map, List.getElem?_map] at h1
    cases hy : ys[i]? with
    | none =>
      rw [hy] at h1
      cases hd : rest[i]? with
      | none => rfl
      | some d => rw [hd] at h1; cases h1
    | some y =>
      rw [hy] at h1
      cases hd : rest[i]? with
      | none => rw [hd] at h1; cases h1
      | some d =>
        rw [hd] at h1
        have h2 : s.get y = .d d := by simpa using h1
        have h3 := hs.get y
        rw [h2] at h3
        exact congrArg some (scV_eq (hrest d (List.mem_of_getElem? hd)) h3.rd)
  have hrun : (execOp a.eval o).run P w = .ok (.enter fid (args.map a.eval)) w := by
    have e2' : ¬ fn.name = "runtime.NumGoroutine" := by simpa using e2
    have e3' : ¬ fn.body = none := fun h => by rw [h] at e3; cases e3
    simp [execOp, ho, resolve, hfe, Deferred.ofValue, invoke, callFunc, e1]
    rw [if_neg e2', if_neg e3']
  unfold Oper.wp
  rw [hrun]
  simp only [Oper.upon_enter]
  rw [hvals]
  refine (hcall w ty l F _ ⟨hs.glob, hgn⟩ hlv hlt hdp).mono ?_
  rintro e w' ⟨rfl, hk, F2, h1, h2⟩
  exact hA w' hk F2 h1 h2
theorem qPV_R (m : Nat → Option Loc) (X : Nat → Prop) (w : World) {rs : List D} (hrs : ∀ d, d ∈ rs → d.sc) : R m X w (qPV rs) (retV (rs.map scV).toArray) := by
  have htup : R m X w (.tup (rs.map .d)) (.tuple (rs.map scV).toArray) := by
    refine .tup _ _ (by simp) fun i y u hy hu => ?_
    rw [List.getElem?_map] at hy
    have hu' : (rs.map scV)[i]? = some u := by simpa using hu
    rw [List.getElem?_map] at hu'
    cases hi : rs[i]? with
    | none => rw [hi] at hy; cases hy
    | some d =>
      rw [hi] at hy hu'
      cases hy
      cases hu'
      exact .d _ _ (scV_rd (hrs d (List.mem_of_getElem? hi)) w X)
  match rs, hrs, htup with
  | [], _, htup => simpa [qPV, retV] using htup
  | [x], hrs, _ => simp only [qPV, retV, List.map_cons, List.map_nil, List.size_toArray, List.length_cons, List.length_nil, dif_pos]; exact .d _ _ (scV_rd (hrs x (by simp)) w X)
  | x :: y :: r, _, htup => simpa [qPV, retV] using htup
theorem locv_of {m : Mp} {X : Nat → Prop} {w : World} {id n : Nat} {v : Value} (h : R m.loc X w (.row id n) v) : ∃ l, m.loc id = some l ∧ LocV l n v := by
  rcases h.row_inv with ⟨h1, h2, h3⟩ | ⟨b, c, h1, h2, h3⟩
  · exact ⟨.nil, h1, h3, h2⟩
  · exact ⟨.blk b c, h1, h3, h2⟩
/-- the same for a row of scalars -/
theorem po_callMr {f x0 : Operand} {ys : List Operand} {args : Array Operand} {ts : Array TypeId} {fid : FuncId} {id n sz : Nat} {ty : TypeId} {es es' : List (List D)} {rest rs : List D}
    (ho : o.op = .call { callee := .value f, args := args, argTypes := ts }) (hf : s.get f = .fn fid []) (ha : args.toList = x0 :: ys) (hx : s.get x0 = .row id n) (hr : ys.map s.get = rest.map .d) (hrest : ∀ d, d ∈ rest → d.sc) (hrs : ∀ d, d ∈ rs → d.sc) (hg : hget s.hp id = some (.row ty sz es)) (hn : n = es.length) (hfl : flatE es) (hfl' : flatE es')
    (hok : FnM P fid sz es rest es' rs) (hK : K (AS.put ⟨s.fr, hset s.hp id (.row ty sz es'), s.nx⟩ o.dst (qPV rs))) : PO P o s K := by
  intro X0 w0 m a w Q hs
  have hR := hs.get x0
  rw [hx] at hR
  obtain ⟨l, hl, hlv⟩ := locv_of hR
  rw [hn] at hlv
  have hdp : DpOk w (fun _ => False) ty sz es (some l) := by
    obtain ⟨l', h1, h2⟩ := hs.hp id _ hg
    rw [hl] at h1
    cases h1
    cases l with
    | nil => exact ⟨h2, fun _ h => h⟩
    | blk b c =>
      obtain ⟨arr, hh, hc⟩ := h2
      exact ⟨fun h => h, arr, hh, hc.1, hc.2.1, hc.2.2.1, hc.2.2.2.1, fun _ _ _ => False, fun _ _ _ h => h, fun _ _ _ _ _ h => h.elim, fun k e j d v he hd hv => (hc.2.2.2.2 k e j d v he hd hv).tr (hfl e (List.mem_of_getElem? he) d (List.mem_of_getElem? hd))⟩
  have hhas : ∀ x, False ∨ l.at x → (Blk.row ty sz es).has m id x := by
    rintro x (h | ⟨c, h⟩)
    · exact h.elim
    · exact ⟨c, by rw [hl, h]⟩
  refine callM_run ho hf ha hr hrest hok hs hlv (fun x h => hs.above (hs.own id _ x hg (hhas x h)).1) (fun x h => (hs.own id _ x hg (hhas x h)).2) hdp fun w' hk F2 h1 h2 => ?_
  refine ⟨upd m id l, _, hK, Sim.put ?_ (qPV_R _ _ _ hrs) o.dst⟩
  refine hs.change (i := id) (blk' := .row ty sz es') (fun y => l.at y) (.inr hl) (by rw [hget_hset]; simp [hg]) rfl (fun id' hne blk hb => by rw [hget_hset, if_neg hne] at hb; exact hb) (fun id' q ty' sz' es2 hd => ?_) (Nat.le_refl _) (hs.lt_nx hl) ?_ (fun y hy hny => hk.block y hy fun h => hny (h.elim (fun h => h.elim) fun h => h)) (fun y hy => ⟨id, _, hg, hhas y (.inr hy), .inl rfl⟩) (fun b c e => ?_) fun _ => ?_
  · have hne : id' ≠ id := fun e => by subst e; rw [hg] at hd; cases hd
    exact ⟨hne, by rw [hget_hset, if_neg hne]⟩
  · refine ⟨hk.os, hk.tape, hk.output, hk.size, fun y hy hny => hk.block y (Nat.lt_of_lt_of_le hy hs.below.size) fun h => ?_, hk.drawn⟩
    rcases (hs.own id _ y hg (hhas y h)).1 with h3 | h3
    · omega
    · exact hny h3
  · have := hs.own id _ b hg (hhas b (.inr ⟨c, e⟩))
    exact ⟨this.1, Nat.lt_of_lt_of_le this.2 hk.size, .inr ⟨c, e⟩⟩
  · cases l with
    | nil => exact h2.1
    | blk b c =>
      obtain ⟨_, arr, g2, g3, g4, g5, g6, Fp, _, _, g9⟩ := h2
      exact ⟨arr, g2, g3, g4, g5, g6, fun k e j d u he hd hu => (g9 k e j d u he hd hu).any.sc (hfl' e (List.mem_of_getElem? he) d (List.mem_of_getElem? hd))⟩
end rules
end Go.Proofs.YthocihmhljmgdaaGreatDoor

/-
  Lists of numbers: what the laws' helpers give (szIntS, eqIntS, toIntS, markIntS, heldIntS), in the abstract machine; lists of numbers opened as arguments.
-/
namespace Go.Proofs.YthocihmhljmgdaaGreatDoor
open Go.ChangeShapes Go.WideShapes Go.ChangeAt Go.RowKit Go.Deep

theorem sc_datI {xs : List Int} {e : List D} (he : e ∈ xs.map datI) {d : D} (hd : d ∈ e) : d.sc := by
  obtain ⟨x, _, rfl⟩ := List.mem_map.1 he
  rw [show datI x = [.int .i64 x] from rfl, List.mem_singleton] at hd
  subst hd
  simp [D.sc]
theorem flatE_datI (xs : List Int) : flatE (xs.map datI) := fun _ he _ hd => sc_datI he hd
section
variable {H : Type} {enc : TypeId × Value → H} {w : World} {base : Nat} {spare : Nat → Bool} {held : Bool}
end
end Go.Proofs.YthocihmhljmgdaaGreatDoor

/-
  Entrants: their words.
-/
namespace Go.Proofs.YthocihmhljmgdaaGreatDoor
open Go.RowKit

structure EntrantD where
  skater : Int
  rank : Int

def EntrantD.enc (x : EntrantD) : List Value := [.int .i64 x.skater, .int .i64 x.rank]
theorem EntrantD.eq {x y : EntrantD} (h0 : x.skater = y.skater) (h1 : x.rank = y.rank) : x = y := by cases x; cases y; cases h0; cases h1; rfl

end Go.Proofs.YthocihmhljmgdaaGreatDoor
namespace Go.Proofs.YthocihmhljmgdaaGreatDoor
open Go.ChangeShapes Go.WideShapes Go.ChangeAt Go.RowKit Go.Deep

def EntrantD.dat (x : EntrantD) : List D := [.int .i64 x.skater, .int .i64 x.rank]
end Go.Proofs.YthocihmhljmgdaaGreatDoor

/-
  An insertion sort under a total order: plain words. No program is named here.
-/
namespace Go.Proofs.YthocihmhljmgdaaGreatDoor
open Go.RowKit

/-- a strict total order on those that satisfy S -/
structure TotOn {α : Type} (lt : α → α → Bool) (S : α → Prop) : Prop where
  asymm : ∀ {a b}, S a → S b → lt a b = true → lt b a = false
  trans : ∀ {a b c}, S a → S b → S c → lt a b = true → lt b c = true → lt a c = true
  total : ∀ {a b}, S a → S b → lt a b = false → lt b a = false → a = b
def insO {α : Type} (lt : α → α → Bool) (x : α) : List α → List α
  | [] => [x]
  | y :: ys => if lt y x = true then y :: insO lt x ys else x :: y :: ys
theorem insO_perm {α : Type} (lt : α → α → Bool) (x : α) : ∀ l : List α, (insO lt x l).Perm (x :: l)
  | [] => List.Perm.refl _
  | y :: ys => by
    unfold insO
    split
    · exact ((insO_perm lt x ys).cons y).trans (List.Perm.swap x y ys)
    · exact List.Perm.refl _
theorem insO_sorted {α : Type} {lt : α → α → Bool} {S : α → Prop} (hT : TotOn lt S) {x : α} (hx : S x) : ∀ {l : List α}, (∀ y ∈ l, S y) → (∀ y ∈ l, y ≠ x) → l.Pairwise (fun a b => lt a b = true) → (insO lt x l).Pairwise (fun a b => lt a b = true)
  | [], _, _, _ => by simp [insO]
  | y :: ys, hS, hne, hp => by
    have hy := hS y (by simp)
    have h1 := (List.pairwise_cons.1 hp).1
    have h2 := (List.pairwise_cons.1 hp).2
    unfold insO
    split
    · rename_i h
      refine List.pairwise_cons.2 ⟨fun z hz => ?_, insO_sorted hT hx (fun z hz => hS z (List.mem_cons_of_mem _ hz)) (fun z hz => hne z (List.mem_cons_of_mem _ hz)) h2⟩
      rcases List.mem_cons.1 ((insO_perm lt x ys).mem_iff.1 hz) with rfl | hz
      · exact h
      · exact h1 z hz
    · rename_i h
      have hxy : lt x y = true := by
        cases e : lt x y with
        | true => rfl
        | false => exact absurd (hT.total hy hx (by simpa using h) e) (hne y (by simp))
      refine List.pairwise_cons.2 ⟨fun z hz => ?_, hp⟩
      rcases List.mem_cons.1 hz with rfl | hz'
      · exact hxy
      · exact hT.trans hx hy (hS z hz) hxy (h1 z hz')
theorem insO_at {α : Type} {lt : α → α → Bool} {S : α → Prop} (hT : TotOn lt S) {x : α} (hx : S x) : ∀ (l : List α) (k : Nat), (∀ y ∈ l, S y) → l.Pairwise (fun a b => lt a b = true) → k ≤ l.length → (∀ j y, k ≤ j → l[j]? = some y → lt y x = false) → (∀ y, 0 < k → l[k - 1]? = some y → lt y x = true) → insO lt x l = l.take k ++ x :: l.drop k
  | [], k, _, _, hk, _, _ => by
    have : k = 0 := by simpa using hk
    subst this
    rfl
  | y :: ys, 0, _, _, _, h1, _ => by
    unfold insO
    rw [if_neg (by rw [h1 0 y (by omega) rfl]; simp)]
    rfl
  | y :: ys, k + 1, hS, hp, hk, h1, h2 => by
    have hp1 := (List.pairwise_cons.1 hp).1
    have hp2 := (List.pairwise_cons.1 hp).2
    have hyx : lt y x = true := by
      cases k with
      | zero => exact h2 y (by omega) rfl
      | succ k =>
        have hlt : k < ys.length := by simp at hk; omega
        have hz := List.getElem?_eq_getElem hlt
        have h3 := h2 ys[k] (by omega) (by simp)
        exact hT.trans (hS y (by simp)) (hS _ (List.mem_cons_of_mem _ (List.mem_of_getElem? hz))) hx (hp1 _ (List.mem_of_getElem? hz)) h3
    unfold insO
    rw [if_pos hyx, insO_at hT hx ys k (fun z hz => hS z (List.mem_cons_of_mem _ hz)) hp2 (by simpa using hk) (fun j z hj hz => h1 (j + 1) z (by omega) (by simpa using hz)) (fun z hk0 hz => h2 z (by omega) (by rw [show k + 1 - 1 = (k - 1) + 1 by omega, List.getElem?_cons_succ]; exact hz))]
    rfl
end Go.Proofs.YthocihmhljmgdaaGreatDoor

/-
  Entrants: when they are valid; who is behind; the program's functions and the reference's, in the abstract machine.
-/
set_option linter.unusedSimpArgs false
set_option linter.unusedVariables false
set_option maxHeartbeats 2000000
set_option maxRecDepth 100000
namespace Go.Proofs.YthocihmhljmgdaaGreatDoor
open Go.RowKit

def EntAt (l : List EntrantD) (k : Nat) (x : EntrantD) : Prop := (1 ≤ x.skater ∧ x.skater ≤ 999 ∧ 0 ≤ x.rank ∧ x.rank ≤ 999) ∧ ∀ y ∈ l.take k, y.skater ≠ x.skater ∧ ¬ (y.rank = x.rank ∧ 0 < x.rank)
def EntsOk (l : List EntrantD) : Prop := l.length ≤ 40 ∧ All (EntAt l) l
theorem EntsOk.not_at {l : List EntrantD} {k : Nat} {x : EntrantD} (hx : l[k]? = some x) (hf : ¬ EntAt l k x) : ¬ EntsOk l := fun h => hf (h.2 k x hx)
theorem ents_end {l : List EntrantD} {k : Nat} (h1 : Upto (EntAt l) l k) (hk : l.length ≤ k) : bP (EntsOk l) = decide ((l.length : Int) ≤ 40) := by
  by_cases h : l.length ≤ 40
  · rw [bP_true ⟨h, h1.all hk⟩]; exact (decide_eq_true (by omega)).symm
  · rw [bP_false fun h' => h h'.1]; exact (decide_eq_false (by omega)).symm
theorem EntsOk.rng {l : List EntrantD} (h : EntsOk l) {x : EntrantD} (hx : x ∈ l) : 1 ≤ x.skater ∧ x.skater ≤ 999 ∧ 0 ≤ x.rank ∧ x.rank ≤ 999 := by
  obtain ⟨k, hk⟩ := List.getElem?_of_mem hx
  exact (h.2 k x hk).1
theorem EntsOk.apart {l : List EntrantD} (h : EntsOk l) {i k : Nat} {x z : EntrantD} (hx : l[i]? = some x) (hz : l[k]? = some z) (hik : i ≠ k) : x.skater ≠ z.skater ∧ ¬ (x.rank = z.rank ∧ 0 < x.rank) := by
  have key : ∀ {i k : Nat} {x z : EntrantD}, l[i]? = some x → l[k]? = some z → i < k → x.skater ≠ z.skater ∧ ¬ (x.rank = z.rank ∧ 0 < z.rank) := by
    intro i k x z hx hz hik
    refine (h.2 k z hz).2 x (List.mem_of_getElem? (i := i) ?_)
    rw [List.getElem?_take_of_lt hik]; exact hx
  rcases Nat.lt_or_gt_of_ne hik with h1 | h1
  · have := key hx hz h1
    exact ⟨this.1, fun h2 => this.2 ⟨h2.1, h2.1 ▸ h2.2⟩⟩
  · have := key hz hx h1
    exact ⟨Ne.symm this.1, fun h2 => this.2 ⟨h2.1.symm, h2.2⟩⟩
/-- compared: who is behind comes first -/
def cfE (x y : EntrantD) : Int := if x.rank = 0 then (if y.rank = 0 then y.skater - x.skater else -1) else if y.rank = 0 then 1 else y.rank - x.rank
def ltE (x y : EntrantD) : Bool := decide (cfE x y < 0)
theorem ltE_iff {x y : EntrantD} : ltE x y = true ↔ (x.rank = 0 ∧ y.rank = 0 ∧ y.skater < x.skater) ∨ (x.rank = 0 ∧ y.rank ≠ 0) ∨ (x.rank ≠ 0 ∧ y.rank ≠ 0 ∧ y.rank < x.rank) := by
  unfold ltE cfE
  rw [decide_eq_true_eq]
  split <;> split <;> omega
theorem ltE_no {x y : EntrantD} (h : ltE x y = false) : ¬ ((x.rank = 0 ∧ y.rank = 0 ∧ y.skater < x.skater) ∨ (x.rank = 0 ∧ y.rank ≠ 0) ∨ (x.rank ≠ 0 ∧ y.rank ≠ 0 ∧ y.rank < x.rank)) := fun h' => by rw [ltE_iff.2 h'] at h; cases h
theorem ltE_tot {l : List EntrantD} (hv : EntsOk l) : TotOn ltE (fun x => x ∈ l) := by
  refine ⟨fun {a b} ha hb h => ?_, fun {a b c} ha hb hc h1 h2 => ?_, fun {a b} ha hb h1 h2 => ?_⟩
  · have h3 := hv.rng ha; have h4 := hv.rng hb
    rw [ltE_iff] at h
    rw [Bool.eq_false_iff]
    intro h'
    rw [ltE_iff] at h'
    omega
  · have h3 := hv.rng ha; have h4 := hv.rng hb; have h5 := hv.rng hc
    rw [ltE_iff] at h1 h2 ⊢
    omega
  · obtain ⟨i, hi⟩ := List.getElem?_of_mem ha
    obtain ⟨k, hk⟩ := List.getElem?_of_mem hb
    by_cases e : i = k
    · subst e; rw [hi] at hk; cases hk; rfl
    · exfalso
      have h3 := hv.apart hi hk e
      have h4 := hv.rng ha; have h5 := hv.rng hb
      have h1' := ltE_no h1
      have h2' := ltE_no h2
      omega
theorem AreEntrants_ok (l : List EntrantD) (hn : l.length ≤ 1048576) : FnEq Tryz.prog 87 [.d (.lst 2 (l.map EntrantD.dat))] [.d (.bool (bP (EntsOk l)))] := by
  refine fn_ok G_ok Tryz.func87 rfl rfl ?_; simp only [Tryz.ntmps87, List.length_cons, List.length_nil, Nat.reduceAdd, Nat.reduceSub, enm]
  repeat' (first | ((with_reducible first | (refine hK _ ?_; clear hK K) | refine stq fun K' hK' => ?_ | refine stc ?_); try simp only [go_sem]) | (with_reducible first | refine stp ?_ | (refine hK' _ ?_; clear hK' K') | refine kN kl87 fun K hK => ?_ | refine kO fun K hK => ?_) | (refine xS rfl fun K' hK' => ?_; simp only [go_sem]) | refine iB ?_ | (with_reducible refine pK_mk ?_ ?_ <;> (intro hc; (try simp only [go_sem]); (try simp at hc); try (exfalso; omega))) | with_reducible refine And.intro (by first | omega | (unfold inI; omega)) ?_)
  refine pw_loop_over [2, 3, 4, 6, 9, 10, 11, 12, 13, 14, 15, 16, 17, 18, 19, 20, 21, 22, 23, 24, 25, 26, 27, 28, 29, 30, 31, 32, 33, 34, 35, 36, 37, 38, 39, 40, 41, 42, 43, 44, 45, 46, 47, 48, 49, 50] (fun k : Nat => [(9, .d (.int .i64 (k : Int)))]) (fun k : Nat => []) 0 (fun k : Nat => k ≤ l.length ∧ Upto (EntAt l) l k) (fun k : Nat => l.length - k) 0 ⟨Nat.zero_le _, Upto.zero _ _⟩ (fits_mk [] (by simp [renL_d, bdL_d, sg, over, wipe, wl, memN, ins, rm, lk, fitFr, fit1, ren, renL, bd, bdL, app, fitHp, hget, renB, bdB] <;> omega)) ?_
  rintro k ⟨hk, hJ⟩
  simp only [over, wipe, wl, memN, ins, rm, if_true, if_false, Nat.reduceEqDiff, Bool.false_eq_true, reduceCtorEq]
  by_cases hlt : k < l.length
  · have hx := List.getElem?_eq_getElem hlt
    generalize l[k] = x at hx
    repeat' (first | ((with_reducible first | (refine hK _ ?_; clear hK K) | refine stq fun K' hK' => ?_ | refine stc ?_); try simp only [go_sem, List.getElem?_map, hx, Option.map_some, EntrantD.dat, ← List.map_take]) | (with_reducible first | refine stp ?_ | (refine hK' _ ?_; clear hK' K') | refine kN kl87 fun K hK => ?_ | refine kO fun K hK => ?_) | (refine xS rfl fun K' hK' => ?_; simp only [go_sem, List.getElem?_map, hx, Option.map_some, EntrantD.dat, ← List.map_take]) | ((with_reducible apply CallK.eq); (· with_reducible first | exact isSkater_ok _ | exact within_ok _ _ _); (· simp [RV.flat, D.sc, datI]); try simp only [go_sem, List.getElem?_map, hx, Option.map_some, EntrantD.dat, ← List.map_take]) | refine iB ?_ | (with_reducible refine pK_mk ?_ ?_ <;> (intro hc; (try simp only [go_sem, List.getElem?_map, hx, Option.map_some, EntrantD.dat, ← List.map_take]); (try simp at hc); try (exfalso; omega))) | with_reducible refine And.intro (by first | omega | (unfold inI; omega)) ?_)
    · refine retQ_ret rfl rfl (by simp [rowsOf, lk]) ?_; rw [bP_false (EntsOk.not_at hx fun h => by have := h.1; omega)]
    · have hT : (l.take k).length = k := by simp; omega
      refine pw_loop_over [2, 6, 28, 29, 30, 31, 32, 33, 34, 35, 36, 37, 38, 39, 40, 41, 42, 43, 44, 45, 46, 47, 48, 49] (fun j : Nat => [(28, .d (.int .i64 (j : Int)))]) (fun _ => [(0, .box 53 [.d (.int .i64 x.skater), .d (.int .i64 x.rank)])]) 1 (fun j => j ≤ k ∧ ∀ y ∈ l.take j, y.skater ≠ x.skater ∧ ¬ (y.rank = x.rank ∧ 0 < x.rank)) (fun j => k - j) 0 ⟨Nat.zero_le _, by simp⟩ (fits_mk [] (by simp [renL_d, bdL_d, sg, over, wipe, wl, memN, ins, rm, lk, fitFr, fit1, ren, renL, bd, bdL, app, fitHp, hget, renB, bdB] <;> omega)) ?_
      rintro j ⟨hj, hJ2⟩
      simp only [over, wipe, wl, memN, ins, rm, if_true, if_false, Nat.reduceEqDiff, Bool.false_eq_true, reduceCtorEq]
      by_cases hlt2 : j < k
      · have hjl : j < l.length := by omega
        have hy := List.getElem?_eq_getElem hjl
        generalize l[j] = y at hy
        have hyt : (l.take k)[j]? = some y := by rw [List.getElem?_take_of_lt hlt2]; exact hy
        repeat' (first | ((with_reducible first | (refine hK _ ?_; clear hK K) | refine stq fun K' hK' => ?_ | refine stc ?_); try simp only [go_sem, List.getElem?_map, hyt, Option.map_some, EntrantD.dat]) | (with_reducible first | refine stp ?_ | (refine hK' _ ?_; clear hK' K') | refine kN kl87 fun K hK => ?_ | refine kO fun K hK => ?_) | (refine xS rfl fun K' hK' => ?_; simp only [go_sem, List.getElem?_map, hyt, Option.map_some, EntrantD.dat]) | refine iB ?_ | (with_reducible refine pK_mk ?_ ?_ <;> (intro hc; (try simp only [go_sem, List.getElem?_map, hyt, Option.map_some, EntrantD.dat]); (try simp at hc); try (exfalso; omega))) | with_reducible refine And.intro (by first | omega | (unfold inI; omega)) ?_)
        all_goals first
          | (refine retQ_ret rfl rfl (by simp [rowsOf, lk]) ?_; rw [bP_false (EntsOk.not_at hx fun h => by have := h.2 y (List.mem_of_getElem? hyt); omega)])
          | exact ⟨j + 1, ⟨by omega, fun z hz => by
              rw [take_snoc hy] at hz
              rcases List.mem_append.1 hz with h | h
              · exact hJ2 z h
              · rw [List.mem_singleton] at h; subst h; omega⟩, by omega, (fits_mk [] (by simp [renL_d, bdL_d, sg, over, wipe, wl, memN, ins, rm, lk, fitFr, fit1, ren, renL, bd, bdL, app, fitHp, hget, renB, bdB] <;> omega))⟩
      · have hje : j = k := by omega
        subst hje
        repeat' (first | ((with_reducible first | (refine hK _ ?_; clear hK K) | refine stq fun K' hK' => ?_ | refine stc ?_); try simp only [go_sem]) | (with_reducible first | refine stp ?_ | (refine hK' _ ?_; clear hK' K') | refine kN kl87 fun K hK => ?_ | refine kO fun K hK => ?_) | (refine xS rfl fun K' hK' => ?_; simp only [go_sem]) | refine iB ?_ | (with_reducible refine pK_mk ?_ ?_ <;> (intro hc; (try simp only [go_sem]); (try simp at hc); try (exfalso; omega))) | with_reducible refine And.intro (by first | omega | (unfold inI; omega)) ?_)
        exact ⟨j + 1, ⟨by omega, hJ.succ hx ⟨by omega, hJ2⟩⟩, by omega, (fits_mk [] (by simp [renL_d, bdL_d, sg, over, wipe, wl, memN, ins, rm, lk, fitFr, fit1, ren, renL, bd, bdL, app, fitHp, hget, renB, bdB] <;> omega))⟩
    all_goals (refine retQ_ret rfl rfl (by simp [rowsOf, lk]) ?_; rw [bP_false (EntsOk.not_at hx fun h => by have := h.1; omega)])
  · repeat' (first | ((with_reducible first | (refine hK _ ?_; clear hK K) | refine stq fun K' hK' => ?_ | refine stc ?_); try simp only [go_sem]) | (with_reducible first | refine stp ?_ | (refine hK' _ ?_; clear hK' K') | refine kN kl87 fun K hK => ?_ | refine kO fun K hK => ?_) | (refine xS rfl fun K' hK' => ?_; simp only [go_sem]) | refine iB ?_ | (with_reducible refine pK_mk ?_ ?_ <;> (intro hc; (try simp only [go_sem]); (try simp at hc); try (exfalso; omega))) | with_reducible refine And.intro (by first | omega | (unfold inI; omega)) ?_)
    refine retQ_ret rfl rfl (by simp [rowsOf, lk]) ?_; rw [ents_end hJ (by omega)]
end Go.Proofs.YthocihmhljmgdaaGreatDoor
