/-
  The abstract machine: calls, code, loops, whole functions. No program is named here.
-/
import Derived.Test.YtldcnlhfanbdfaaM6
namespace Go.Proofs.Ytldcnlhfanbdfaa
open Go.RowKit

def D.sc : D → Prop
  | .lst _ _ => False
  | _ => True
theorem Rd.sc {w w' : World} {X X' : Nat → Prop} {d : D} {v : Value} (h : Rd w X d v) (hd : d.sc) : Rd w' X' d v := by
  cases h with
  | int k n => exact .int k n
  | bool b => exact .bool b
  | str s => exact .str s
  | nil => exact hd.elim
  | lst => exact hd.elim

/-- results -/
inductive RV where
  | d (x : D)
  | agg (ds : List D)
  | row (ty : TypeId) (sz : Nat) (es : List (List D))
  | deep (ty : TypeId) (sz : Nat) (es : List (List D))
def RV.flat : RV → Prop
  | .d x => x.sc
  | .agg ds => ∀ d, d ∈ ds → d.sc
  | .row _ _ es => ∀ e, e ∈ es → ∀ d, d ∈ e → d.sc
  | .deep _ _ _ => True
/-- a result lies in w, its own blocks (if any) are S -/
inductive RR (Y : Nat → Prop) (B : Nat) (w : World) : RV → Value → (Nat → Prop) → Prop
  | d (x : D) (v : Value) (h : Rd w Y x v) : RR Y B w (.d x) v (fun _ => False)
  | agg (ds : List D) (vs : Array Value) (hl : vs.size = ds.length) (h : ∀ (i : Nat) (d : D) (v : Value), ds[i]? = some d → vs[i]? = some v → Rd w Y d v) : RR Y B w (.agg ds) (.agg vs) (fun _ => False)
  | nil (ty : TypeId) (sz : Nat) : RR Y B w (.row ty sz []) (.slice none 0 0) (fun _ => False)
  | row (ty : TypeId) (sz : Nat) (es : List (List D)) (g c : Nat) (arr : Array Value) (hB : B ≤ g) (hh : w.heap[g]? = some (.cells arr ty (0, 0))) (hc : (Blk.row ty sz es).cellsOk (fun _ => none) Y w arr c) : RR Y B w (.row ty sz es) (.slice (some ⟨g, 0, none⟩) es.length c) (fun b => b = g)
  | dnil (ty : TypeId) (sz : Nat) : RR Y B w (.deep ty sz []) (.slice none 0 0) (fun _ => False)
  | deep (ty : TypeId) (sz : Nat) (es : List (List D)) (g c : Nat) (F : Nat → Prop) (hB : B ≤ g) (hF : ∀ x, F x → B ≤ x ∧ x < w.heap.size) (hd : DpOk w F ty sz es (some (.blk g c))) : RR Y B w (.deep ty sz es) (.slice (some ⟨g, 0, none⟩) es.length c) (fun b => b = g ∨ F b)

def retV (vs : Array Value) : Value := if h : vs.size = 1 then vs[0] else .tuple vs
def Res (X : Nat → Prop) (w : World) (rs : List RV) (e : Ending) (w' : World) : Prop :=
  ∃ (vs : Array Value) (gs : Nat → Nat → Prop), e = .returned (retV vs) ∧ vs.size = rs.length ∧ Bel w.heap.size w w' ∧ (∀ i j x, gs i x → gs j x → i = j) ∧
    ∀ (i : Nat) (r : RV) (v : Value), rs[i]? = some r → vs[i]? = some v → RR (fun b => X b ∨ ∃ j, gs j b) w.heap.size w' r v (gs i)

/-- the function is one of the program's own -/
def Enters (P : Program) (f : FuncId) : Prop := ∃ fn, P.funcs[f]? = some fn ∧ (fn.name == "runtime.NumGoroutine") = false ∧ fn.body.isNone = false
/-- a contract: arguments that read as args lead to results that satisfy Post; nothing that was there changes -/
def FnOK (P : Program) (f : FuncId) (args : List PV) (Post : List RV → Prop) : Prop :=
  Enters P f ∧ ∀ (w : World) (X : Nat → Prop) (vals : Array Value), (∀ b, X b → b < w.heap.size) → vals.size = args.length → (∀ (i : Nat) (x : PV) (v : Value), args[i]? = some x → vals[i]? = some v → R (fun _ => none) X w x v) →
    Calls P f vals w fun e w' => ∃ rs, Post rs ∧ Res X w rs e w'
theorem FnOK.mono {P : Program} {f : FuncId} {args : List PV} {Post Post' : List RV → Prop} (h : FnOK P f args Post) (hp : ∀ rs, Post rs → Post' rs) : FnOK P f args Post' :=
  ⟨h.1, fun w X vals h1 h2 h3 => (h.2 w X vals h1 h2 h3).mono fun _ _ ⟨rs, h4, h5⟩ => ⟨rs, hp rs h4, h5⟩⟩

/-- the content of a slice, to be read -/
def rowD (hp : List (Nat × Blk)) : PV → Option (Nat × List (List D))
  | .d (.lst sz es) => some (sz, es)
  | .row id n => match cont hp id with
    | some (sz, es) => if es.length = n then some (sz, es) else none
    | none => none
  | .view id sz lo n => match cont hp id with
    | some (sz', es) => if sz' = sz ∧ lo + n ≤ es.length then some (sz, (es.drop lo).take n) else none
    | none => none
  | _ => none
/-- own rows and boxes, as plain data -/
def pD (hp : List (Nat × Blk)) : PV → Option D
  | .d x => some x
  | .row id n => match rowD hp (.row id n) with
    | some (sz, es) => some (.lst sz es)
    | none => none
  | .view id sz lo n => match rowD hp (.view id sz lo n) with
    | some (sz, es) => some (.lst sz es)
    | none => none
  | _ => none
def pDs (hp : List (Nat × Blk)) : List PV → Option (List D)
  | [] => some []
  | x :: r => match pD hp x, pDs hp r with
    | some d, some l => some (d :: l)
    | _, _ => none
theorem pDs_get {hp : List (Nat × Blk)} : ∀ {xs : List PV} {ds : List D}, pDs hp xs = some ds → ∀ (j : Nat) d, ds[j]? = some d → ∃ x, xs[j]? = some x ∧ pD hp x = some d
  | [], ds, h, j, d, hj => by cases h; simp at hj
  | x :: r, ds, h, j, d, hj => by
    simp only [pDs] at h
    split at h
    · rename_i e l he hl
      cases h
      cases j with
      | zero => simp at hj; subst hj; exact ⟨x, rfl, he⟩
      | succ j => simpa using pDs_get hl j d (by simpa using hj)
    · cases h
def ta0 (hp : List (Nat × Blk)) : PV → PV
  | .d x => .d x
  | .eptr cs => .eptr cs
  | .bptr id off => match hget hp id with
    | some (.box _ cs) => (match pDs hp (cs.drop off) with
      | some ds => .eptr ds
      | none => .und)
    | _ => .und
  | .row id n => match rowD hp (.row id n) with
    | some (sz, es) => .d (.lst sz es)
    | none => .und
  | .view id sz lo n => match rowD hp (.view id sz lo n) with
    | some (sz, es) => .d (.lst sz es)
    | none => .und
  | _ => .und
def ta1 (hp : List (Nat × Blk)) : PV → PV
  | .agg xs => .agg (xs.map (ta0 hp))
  | x => ta0 hp x
def ta2 (hp : List (Nat × Blk)) : PV → PV
  | .fn f caps => .fn f (caps.map (ta1 hp))
  | x => ta1 hp x
def rf0 : PV → Bool
  | .row _ _ | .view _ _ _ _ | .bptr _ _ => true
  | _ => false
def rf1 : PV → Bool
  | .agg xs => xs.any rf0
  | x => rf0 x
def rf2 : PV → Bool
  | .fn _ caps => caps.any rf1
  | x => rf1 x

section
variable {X0 : Nat → Prop} {w0 : Base} {m : Mp} {s : AS} {a : Act} {w : World} {X' : Nat → Prop}
theorem rowD_rd (hs : Sim X0 w0 m s a w) {x : PV} {sz : Nat} {fs : List (List D)} {v : Value} (hx : rowD s.hp x = some (sz, fs)) (hv : R m.loc (Owned X0 m s.hp) w x v) (hn : ∀ b, ¬ X' b) : Rd w X' (.lst sz fs) v := by
  have any : ∀ {d : D} {u : Value}, Rd w (fun _ => False) d u → Rd w X' d u := fun h => h.mono fun b _ _ => ⟨rfl, hn b⟩
  cases hv with
  | d x v h =>
    cases x with
    | lst sz' es => cases hx; exact any h.any
    | _ => cases hx
  | rowN id hm =>
    simp only [rowD] at hx
    split at hx
    · split at hx
      · rename_i hl
        cases hx
        rw [List.eq_nil_of_length_eq_zero hl]
        exact .nil _ _ _
      · cases hx
    · cases hx
  | rowB id n b c hm hn' =>
    simp only [rowD] at hx
    split at hx
    · rename_i sz1 es1 hc
      split at hx
      · rename_i hl
        cases hx
        rcases hs.cont hc with ⟨h1, _⟩ | ⟨b', c', h1, h2⟩
        · rw [hm] at h1; cases h1
        · rw [hm] at h1
          cases h1
          have h2c := h2
          obtain ⟨arr, ty, h3, h4, h5, h6, h7⟩ := h2c
          rw [← hl]
          refine .lst _ _ b 0 c h5 h6 (fun k e j d he hd => ?_) (fun k e j d u he hd hu => ?_)
          · obtain ⟨u, q1, _⟩ := h2.get he hd
            exact ⟨hn b, u, by rw [Nat.zero_add]; exact q1⟩
          · obtain ⟨u', q1, q2⟩ := h2.get he hd
            rw [Nat.zero_add, q1] at hu
            cases hu
            exact any q2
      · cases hx
    · cases hx
  | view0 id sz' lo A c =>
    simp only [rowD] at hx
    split at hx
    · split at hx
      · cases hx; exact .nil _ _ _
      · cases hx
    · cases hx
  | viewB id sz' lo n b c c' hm hc' =>
    simp only [rowD] at hx
    split at hx
    · rename_i sz1 es1 hc
      split at hx
      · rename_i hl
        obtain ⟨rfl, hl⟩ := hl
        cases hx
        rcases hs.cont hc with ⟨h1, _⟩ | ⟨b', c2, h1, h2⟩
        · rw [hm] at h1; cases h1
        · rw [hm] at h1
          cases h1
          have h2c := h2
          obtain ⟨arr, ty, h3, h4, h5, h6, h7⟩ := h2c
          have hlen : ((es1.drop lo).take n).length = n := by simp; omega
          have hget : ∀ k e, ((es1.drop lo).take n)[k]? = some e → es1[lo + k]? = some e := by
            intro k e he
            rw [List.getElem?_take] at he
            split at he
            · rw [List.getElem?_drop] at he; exact he
            · cases he
          have hadr : ∀ k j : Nat, lo * sz + (k * sz + j) = (lo + k) * sz + j := fun k j => by rw [Nat.add_mul]; omega
          have := Rd.lst (w := w) (X := X') sz ((es1.drop lo).take n) b (lo * sz) c' (by rw [hlen]; exact hc') (fun e he => h6 e (List.mem_of_mem_drop (List.mem_of_mem_take he))) (fun k e j d he hd => by
            obtain ⟨u, q1, _⟩ := h2.get (hget k e he) hd
            exact ⟨hn b, u, by rw [hadr]; exact q1⟩) (fun k e j d u he hd hu => by
            obtain ⟨u', q1, q2⟩ := h2.get (hget k e he) hd
            rw [hadr, q1] at hu
            cases hu
            exact any q2)
          rwa [hlen] at this
      · cases hx
    · cases hx
  | _ => cases hx
theorem pD_R (hs : Sim X0 w0 m s a w) (hX : Stay w w (Owned X0 m s.hp) X') (hn : ∀ b, ¬ X' b) {x : PV} {v : Value} {d : D} (h : R m (Owned X0 m s.hp) w x v) (hd : pD s.hp x = some d) : Rd w X' d v := by
  cases x with
  | d x => cases hd; exact h.rd.mono hX
  | row id n =>
    simp only [pD] at hd
    split at hd
    · rename_i sz es he; cases hd; exact rowD_rd hs he h hn
    · cases hd
  | view id sz lo n =>
    simp only [pD] at hd
    split at hd
    · rename_i sz es he; cases hd; exact rowD_rd hs he h hn
    · cases hd
  | _ => cases hd
theorem ta0_R (hs : Sim X0 w0 m s a w) (hX : Stay w w (Owned X0 m s.hp) X') {x : PV} {v : Value} (hr : rf0 x = true → ∀ b, ¬ X' b) (h : R m (Owned X0 m s.hp) w x v) : R (fun _ => none) X' w (ta0 s.hp x) v := by
  cases x with
  | d x => exact .d _ _ (h.rd.mono hX)
  | eptr cs =>
    obtain ⟨b, off, rfl, h2⟩ := h.eptr_inv
    refine .eptr _ _ _ fun j d hj => ?_
    obtain ⟨q1, u, q2, q3⟩ := h2 j d hj
    exact ⟨(hX.cell q1 q2).2, u, q2, q3.mono hX⟩
  | bptr id off =>
    obtain ⟨b, c, hm, rfl⟩ := h.bptr_inv
    simp only [ta0]
    split
    · rename_i ty cs hg
      split
      · rename_i ds hd
        obtain ⟨arr, hh, ha, hc⟩ := hs.blk hg hm
        refine .eptr _ _ _ fun j d hj => ?_
        obtain ⟨x, hx, hp⟩ := pDs_get hd j d hj
        rw [List.getElem?_drop] at hx
        have hlt := (List.getElem?_eq_some_iff.1 hx).1
        have hja : off + j < arr.size := by rw [ha]; exact hlt
        have hu : arr[off + j]? = some arr[off + j] := by simp [hja]
        exact ⟨hr rfl b, arr[off + j], by simp [World.cell?, hh, hja], pD_R hs hX (hr rfl) (hc _ _ _ hx hu).1 hp⟩
      · exact .und _
    · exact .und _
  | row id n =>
    simp only [ta0]
    split
    · rename_i sz es he; exact .d _ _ (rowD_rd hs he h (hr rfl))
    · exact .und _
  | view id sz lo n =>
    simp only [ta0]
    split
    · rename_i sz es he; exact .d _ _ (rowD_rd hs he h (hr rfl))
    · exact .und _
  | _ => exact .und _
theorem ta1_R (hs : Sim X0 w0 m s a w) (hX : Stay w w (Owned X0 m s.hp) X') {x : PV} {v : Value} (hr : rf1 x = true → ∀ b, ¬ X' b) (h : R m (Owned X0 m s.hp) w x v) : R (fun _ => none) X' w (ta1 s.hp x) v := by
  cases x with
  | agg xs =>
    cases h with
    | agg _ vs hl h =>
      refine .agg _ _ (by simpa using hl) fun i y u hy hu => ?_
      rw [List.getElem?_map] at hy
      cases hi : xs[i]? with
      | none => rw [hi] at hy; cases hy
      | some z =>
        rw [hi] at hy
        cases hy
        exact ta0_R hs hX (fun hz => hr (by simp only [rf1, List.any_eq_true]; exact ⟨z, List.mem_of_getElem? hi, hz⟩)) (h i z u hi hu)
  | _ => (refine ta0_R hs hX ?_ h; exact hr)
theorem ta2_R (hs : Sim X0 w0 m s a w) (hX : Stay w w (Owned X0 m s.hp) X') {x : PV} {v : Value} (hr : rf2 x = true → ∀ b, ¬ X' b) (h : R m (Owned X0 m s.hp) w x v) : R (fun _ => none) X' w (ta2 s.hp x) v := by
  cases x with
  | fn f caps =>
    cases h with
    | fn _ _ vs hl h =>
      refine .fn _ _ _ (by simpa using hl) fun i y u hy hu => ?_
      rw [List.getElem?_map] at hy
      cases hi : caps[i]? with
      | none => rw [hi] at hy; cases hy
      | some z =>
        rw [hi] at hy
        cases hy
        exact ta1_R hs hX (fun hz => hr (by simp only [rf2, List.any_eq_true]; exact ⟨z, List.mem_of_getElem? hi, hz⟩)) (h i z u hi hu)
  | _ => (refine ta1_R hs hX ?_ h; exact hr)
end

/-- what the results become in the caller -/
def pv1 (nx : Nat) : RV → PV
  | .d x => .d x
  | .agg ds => .agg (ds.map .d)
  | .row _ _ es => .row nx es.length
  | .deep _ _ es => .row nx es.length
def rvB : RV → Option Blk
  | .row ty sz es => some (.row ty sz es)
  | .deep ty sz es => some (.deep 0 ty sz es)
  | _ => none
def pvs (nx : Nat) : List RV → List PV
  | [] => []
  | r :: rs => pv1 nx r :: pvs (nx + 1) rs
def hps (nx : Nat) : List RV → List (Nat × Blk)
  | [] => []
  | .row ty sz es :: rs => (nx, .row ty sz es) :: hps (nx + 1) rs
  | .deep ty sz es :: rs => (nx, .deep 0 ty sz es) :: hps (nx + 1) rs
  | _ :: rs => hps (nx + 1) rs
def resPV (nx : Nat) : List RV → PV
  | [r] => pv1 nx r
  | rs => .tup (pvs nx rs)
theorem pvs_get : ∀ (rs : List RV) (nx i : Nat), (pvs nx rs)[i]? = (rs[i]?).map (pv1 (nx + i))
  | [], nx, i => by simp [pvs]
  | r :: rs, nx, 0 => by simp [pvs]
  | r :: rs, nx, i + 1 => by
    have := pvs_get rs (nx + 1) i
    rw [show nx + 1 + i = nx + (i + 1) by omega] at this
    simpa [pvs] using this
theorem pvs_len : ∀ (rs : List RV) (nx : Nat), (pvs nx rs).length = rs.length
  | [], _ => rfl
  | r :: rs, nx => by rw [pvs, List.length_cons, pvs_len rs, List.length_cons]
theorem hps_get (hp : List (Nat × Blk)) : ∀ (rs : List RV) (nx id : Nat), (∀ j, nx ≤ j → hget hp j = none) →
    hget (hps nx rs ++ hp) id = if id < nx then hget hp id else (rs[id - nx]?).bind rvB
  | [], nx, id, h => by
    by_cases hid : id < nx
    · simp [hps, hid]
    · simp [hps, hid, h id (by omega)]
  | r :: rs, nx, id, h => by
    have ih := hps_get hp rs (nx + 1) id (fun j hj => h j (by omega))
    by_cases hid : id < nx
    · rw [if_pos (by omega)] at ih
      rw [if_pos hid]
      cases r <;> simp only [hps, List.cons_append, hget]
      · exact ih
      · exact ih
      · rw [if_neg (by omega)]; exact ih
      · rw [if_neg (by omega)]; exact ih
    · rw [if_neg hid]
      by_cases he : id = nx
      · subst he
        rw [if_pos (by omega), h id (Nat.le_refl _)] at ih
        cases r <;> simp [hps, hget, ih, rvB]
      · rw [if_neg (by omega)] at ih
        rw [show id - nx = (id - (nx + 1)) + 1 by omega, List.getElem?_cons_succ]
        cases r <;> simp only [hps, List.cons_append, hget]
        · exact ih
        · exact ih
        · rw [if_neg he]; exact ih
        · rw [if_neg he]; exact ih
theorem Blk.has_congr {m m' : Mp} {id b : Nat} {blk : Blk} (h1 : m'.loc id = m.loc id) (h2 : m'.ft id = m.ft id) : blk.has m' id b ↔ blk.has m id b := by
  cases blk <;> simp [Blk.has, h1, h2]

section rules
variable {P : Program} {o : Oper} {s : AS} {K : AS → Prop}
/-- the caller takes the results over -/
theorem Sim.takeW {X0 : Nat → Prop} {w0 : Base} {m : Mp} {a : Act} {w w' : World} {X : Nat → Prop} {rs : List RV} {vs : Array Value} {gs : Nat → Nat → Prop} (hs : Sim X0 w0 m s a w) (h2 : vs.size = rs.length) (h3 : Bel w.heap.size w w') (h4 : ∀ i j x, gs i x → gs j x → i = j)
    (h5 : ∀ (i : Nat) (r : RV) (v : Value), rs[i]? = some r → vs[i]? = some v → RR (fun b => X b ∨ ∃ j, gs j b) w.heap.size w' r v (gs i)) (hX : (∀ b, X b ↔ Owned X0 m s.hp b) ∨ ∀ r ∈ rs, r.flat) :
    ∃ m' : Mp, Sim X0 w0 m' ⟨s.fr, hps s.nx rs ++ s.hp, s.nx + rs.length⟩ a w' ∧ (∀ (i : Nat) (r : RV) (v : Value), rs[i]? = some r → vs[i]? = some v → R m'.loc (Owned X0 m' (hps s.nx rs ++ s.hp)) w' (pv1 (s.nx + i) r) v) ∧ (∀ i l, m.loc i = some l → m'.loc i = some l) ∧ ∀ id, s.nx ≤ id → (rs[id - s.nx]?).bind rvB = none → m'.loc id = none := by
  have hnone : ∀ j, s.nx ≤ j → hget s.hp j = none := fun j hj => hs.hget_none hj
  have hget' := fun id => hps_get s.hp rs s.nx id hnone
  -- where the new rows lie
  let lc : Nat → Option Loc := fun id => if id < s.nx then m.loc id else match vs[id - s.nx]?, (rs[id - s.nx]?).bind rvB with
    | some (.slice (some ad) _ c), some _ => some (.blk ad.block c)
    | some (.slice none _ _), some _ => some .nil
    | _, _ => none
  let m' : Mp := ⟨lc, fun id => if id < s.nx then m.ft id else fun b => gs (id - s.nx) b ∧ ∀ c, lc id ≠ some (.blk b c)⟩
  have hmold : ∀ id, id < s.nx → m'.loc id = m.loc id := fun id hid => if_pos hid
  have hfold : ∀ id, id < s.nx → m'.ft id = m.ft id := fun id hid => if_pos hid
  have hfnew : ∀ i b, m'.ft (s.nx + i) b ↔ (gs i b ∧ ∀ c, m'.loc (s.nx + i) ≠ some (.blk b c)) := by
    intro i b
    show (if s.nx + i < s.nx then m.ft (s.nx + i) else fun b => gs (s.nx + i - s.nx) b ∧ ∀ c, lc (s.nx + i) ≠ some (.blk b c)) b ↔ _
    rw [if_neg (by omega), Nat.add_sub_cancel_left]
  have hm : ∀ i l, m.loc i = some l → m'.loc i = some l := fun i l h => by rw [hmold i (hs.lt_nx h)]; exact h
  have hidx : ∀ i r, rs[i]? = some r → ∃ v, vs[i]? = some v := fun i r h => by
    have hlt := (List.getElem?_eq_some_iff.1 h).1
    exact ⟨_, Array.getElem?_eq_getElem (by omega)⟩
  have hlc : ∀ (i : Nat) (r : RV) (v : Value), rs[i]? = some r → vs[i]? = some v → m'.loc (s.nx + i) = match some v, rvB r with
      | some (.slice (some ad) _ c), some _ => some (.blk ad.block c)
      | some (.slice none _ _), some _ => some .nil
      | _, _ => none := by
    intro i r v hi hv
    show (if s.nx + i < s.nx then m.loc (s.nx + i) else match vs[s.nx + i - s.nx]?, (rs[s.nx + i - s.nx]?).bind rvB with
      | some (.slice (some ad) _ c), some _ => some (.blk ad.block c)
      | some (.slice none _ _), some _ => some .nil
      | _, _ => none) = _
    rw [if_neg (by omega), Nat.add_sub_cancel_left, hi, hv]
    rfl
  -- a new row
  have hrow : ∀ i ty sz es, rs[i]? = some (.row ty sz es) → ∃ v, vs[i]? = some v ∧ ((es = [] ∧ v = .slice none 0 0 ∧ m'.loc (s.nx + i) = some .nil ∧ ∀ x, ¬ gs i x) ∨ ∃ g c arr, v = .slice (some ⟨g, 0, none⟩) es.length c ∧ m'.loc (s.nx + i) = some (.blk g c) ∧ (∀ x, gs i x ↔ x = g) ∧ w.heap.size ≤ g ∧ w'.heap[g]? = some (.cells arr ty (0, 0)) ∧ (Blk.row ty sz es).cellsOk (fun _ => none) (fun b => X b ∨ ∃ j, gs j b) w' arr c) := by
    intro i ty sz es hi
    obtain ⟨v, hv⟩ := hidx i _ hi
    refine ⟨v, hv, ?_⟩
    have hl := hlc i _ v hi hv
    have := h5 i _ v hi hv
    generalize hgi : gs i = g0 at this
    cases this with
    | nil => exact .inl ⟨rfl, rfl, hl, fun x hx => hx⟩
    | row _ _ _ g c arr hB hh hc => exact .inr ⟨g, c, arr, rfl, hl, fun x => Iff.rfl, hB, hh, hc⟩
  have hdeep : ∀ i ty sz es, rs[i]? = some (.deep ty sz es) → ∃ v, vs[i]? = some v ∧ ((es = [] ∧ v = .slice none 0 0 ∧ m'.loc (s.nx + i) = some .nil ∧ ∀ x, ¬ gs i x) ∨ ∃ g c F, v = .slice (some ⟨g, 0, none⟩) es.length c ∧ m'.loc (s.nx + i) = some (.blk g c) ∧ (∀ x, gs i x ↔ (x = g ∨ F x)) ∧ w.heap.size ≤ g ∧ g < w'.heap.size ∧ (∀ x, F x → w.heap.size ≤ x ∧ x < w'.heap.size) ∧ DpOk w' F ty sz es (some (.blk g c))) := by
    intro i ty sz es hi
    obtain ⟨v, hv⟩ := hidx i _ hi
    refine ⟨v, hv, ?_⟩
    have hl := hlc i _ v hi hv
    have := h5 i _ v hi hv
    generalize hgi : gs i = g0 at this
    cases this with
    | dnil => exact .inl ⟨rfl, rfl, hl, fun x hx => hx⟩
    | deep _ _ _ g c F hB hF hd =>
      refine .inr ⟨g, c, F, rfl, hl, fun x => Iff.rfl, hB, ?_, hF, hd⟩
      obtain ⟨_, arr, hh, _⟩ := hd
      rcases Nat.lt_or_ge g w'.heap.size with h | h
      · exact h
      · rw [Array.getElem?_eq_none h] at hh; cases hh
  have hltw : ∀ {g arr} {ty : TypeId}, w'.heap[g]? = some (.cells arr ty (0, 0)) → g < w'.heap.size := by
    intro g arr ty hh
    rcases Nat.lt_or_ge g w'.heap.size with h | h
    · exact h
    · rw [Array.getElem?_eq_none h] at hh; cases hh
  have hhas : ∀ id blk b, hget (hps s.nx rs ++ s.hp) id = some blk → blk.has m' id b → (id < s.nx ∧ hget s.hp id = some blk ∧ blk.has m id b) ∨ (s.nx ≤ id ∧ id - s.nx < rs.length ∧ gs (id - s.nx) b ∧ w.heap.size ≤ b ∧ b < w'.heap.size) := by
    intro id blk b q1 q2
    rw [hget' id] at q1
    by_cases hlt : id < s.nx
    · rw [if_pos hlt] at q1
      exact .inl ⟨hlt, q1, (Blk.has_congr (hmold id hlt) (hfold id hlt)).1 q2⟩
    · rw [if_neg hlt] at q1
      refine .inr ?_
      obtain ⟨i, rfl⟩ : ∃ i, id = s.nx + i := ⟨id - s.nx, by omega⟩
      rw [Nat.add_sub_cancel_left] at q1 ⊢
      cases hi : rs[i]? with
      | none => rw [hi] at q1; cases q1
      | some r =>
        rw [hi] at q1
        have hir := (List.getElem?_eq_some_iff.1 hi).1
        cases r with
        | d x => cases q1
        | agg ds => cases q1
        | row ty sz es =>
          cases q1
          obtain ⟨c, hc⟩ := q2
          obtain ⟨v, _, h6⟩ := hrow i ty sz es hi
          rcases h6 with ⟨_, _, h7, _⟩ | ⟨g, c', arr, _, h7, h8, h9, h10, _⟩
          · rw [hc] at h7; cases h7
          · rw [hc] at h7
            cases h7
            exact ⟨by omega, hir, (h8 b).2 rfl, h9, hltw h10⟩
        | deep ty sz es =>
          cases q1
          obtain ⟨v, _, h6⟩ := hdeep i ty sz es hi
          rcases h6 with ⟨_, _, h7, h8⟩ | ⟨g, c', F, _, h7, h8, h9, h9', h10, _⟩
          · rcases q2 with ⟨c, hc⟩ | hf
            · rw [hc] at h7; cases h7
            · exact (h8 b ((hfnew i b).1 hf).1).elim
          · rcases q2 with ⟨c, hc⟩ | hf
            · rw [hc] at h7
              cases h7
              exact ⟨by omega, hir, (h8 b).2 (.inl rfl), h9, h9'⟩
            · have hg := ((hfnew i b).1 hf).1
              rcases (h8 b).1 hg with e | e
              · subst e; exact ⟨by omega, hir, hg, h9, h9'⟩
              · exact ⟨by omega, hir, hg, h10 b e⟩
  have hgs : ∀ j b, gs j b → j < rs.length → w.heap.size ≤ b ∧ ∃ blk, hget (hps s.nx rs ++ s.hp) (s.nx + j) = some blk ∧ blk.has m' (s.nx + j) b := by
    intro j b q hj
    have hi := List.getElem?_eq_getElem hj
    have hgt : hget (hps s.nx rs ++ s.hp) (s.nx + j) = rvB rs[j] := by rw [hget', if_neg (by omega), Nat.add_sub_cancel_left, hi]; rfl
    rw [hgt]
    generalize rs[j] = r at hi
    cases r with
    | d x =>
      obtain ⟨v, hv⟩ := hidx j _ hi
      have h6 := h5 j _ v hi hv
      generalize gs j = g0 at h6 q
      cases h6; exact q.elim
    | agg ds =>
      obtain ⟨v, hv⟩ := hidx j _ hi
      have h6 := h5 j _ v hi hv
      generalize gs j = g0 at h6 q
      cases h6; exact q.elim
    | row ty sz es =>
      obtain ⟨v, _, h6⟩ := hrow j ty sz es hi
      rcases h6 with ⟨_, _, _, h8⟩ | ⟨g, c, arr, _, h7, h8, h9, _⟩
      · exact (h8 b q).elim
      · have e := (h8 b).1 q
        subst e
        exact ⟨h9, _, rfl, c, h7⟩
    | deep ty sz es =>
      obtain ⟨v, _, h6⟩ := hdeep j ty sz es hi
      rcases h6 with ⟨_, _, _, h8⟩ | ⟨g, c, F, _, h7, h8, h9, h9', h10, h11⟩
      · exact (h8 b q).elim
      · rcases (h8 b).1 q with e | e
        · subst e
          exact ⟨h9, _, rfl, .inl ⟨c, h7⟩⟩
        · refine ⟨(h10 b e).1, _, rfl, .inr ((hfnew j b).2 ⟨q, fun c' hc' => ?_⟩)⟩
          rw [h7] at hc'
          cases hc'
          exact h11.1 e
  have hown' : ∀ b, Owned X0 m' (hps s.nx rs ++ s.hp) b ↔ (Owned X0 m s.hp b ∨ ∃ j, j < rs.length ∧ gs j b) := by
    intro b
    constructor
    · rintro (hx | ⟨id, blk, q1, q2⟩)
      · exact .inl (.inl hx)
      · rcases hhas id blk b q1 q2 with ⟨_, q3, q4⟩ | ⟨_, q3, q4, _⟩
        · exact .inl (.inr ⟨id, blk, q3, q4⟩)
        · exact .inr ⟨_, q3, q4⟩
    · rintro ((hx | ⟨id, blk, q1, q2⟩) | ⟨j, hj, q⟩)
      · exact .inl hx
      · obtain ⟨l, q3, _⟩ := hs.hp id blk q1
        have hid := hs.lt_nx q3
        exact .inr ⟨id, blk, by rw [hget' id, if_pos hid]; exact q1, (Blk.has_congr (hmold id hid) (hfold id hid)).2 q2⟩
      · obtain ⟨_, blk, q1, q2⟩ := hgs j b q hj
        exact .inr ⟨_, blk, q1, q2⟩
  have hst : Stay w w' (Owned X0 m s.hp) (Owned X0 m' (hps s.nx rs ++ s.hp)) := by
    intro b hb hn
    refine ⟨h3.block b hb, fun ho => ?_⟩
    rcases (hown' b).1 ho with h6 | ⟨j, hj, h6⟩
    · exact hn h6
    · have := (hgs j b h6 hj).1
      omega
  -- data of the results read in the new state
  have hread : ∀ (r : RV), r ∈ rs → ∀ d v, (r.flat → d.sc) → Rd w' (fun b => X b ∨ ∃ j, gs j b) d v → Rd w' (Owned X0 m' (hps s.nx rs ++ s.hp)) d v := by
    intro r hr d v hf h
    rcases hX with hX | hX
    · refine h.mono fun b _ hn => ⟨rfl, fun ho => hn ?_⟩
      rcases (hown' b).1 ho with h6 | ⟨j, _, h6⟩
      · exact .inl ((hX b).2 h6)
      · exact .inr ⟨j, h6⟩
    · exact h.sc (hf (hX r hr))
  have hrowok : ∀ ty sz es arr c, RV.row ty sz es ∈ rs → (Blk.row ty sz es).cellsOk (fun _ => none) (fun b => X b ∨ ∃ j, gs j b) w' arr c → (Blk.row ty sz es).cellsOk m'.loc (Owned X0 m' (hps s.nx rs ++ s.hp)) w' arr c := by
    intro ty sz es arr c hm hc
    exact ⟨hc.1, hc.2.1, hc.2.2.1, hc.2.2.2.1, fun k e j d u he hd hu => hread _ hm d u (fun hf => hf e (List.mem_of_getElem? he) d (List.mem_of_getElem? hd)) (hc.2.2.2.2 k e j d u he hd hu)⟩
  have hpv : ∀ i r v, rs[i]? = some r → vs[i]? = some v → R m'.loc (Owned X0 m' (hps s.nx rs ++ s.hp)) w' (pv1 (s.nx + i) r) v := by
    intro i r v hi hv
    have hmem := List.mem_of_getElem? hi
    cases r with
    | d x =>
      have h6 := h5 i _ v hi hv
      generalize gs i = g0 at h6
      cases h6 with
      | d _ _ h => exact .d _ _ (hread _ hmem x v (fun hf => hf) h)
    | agg ds =>
      have h6 := h5 i _ v hi hv
      generalize gs i = g0 at h6
      cases h6 with
      | agg _ us hl h =>
        refine .agg _ _ (by simpa using hl) fun j y u hy hu => ?_
        rw [List.getElem?_map] at hy
        cases hj : ds[j]? with
        | none => rw [hj] at hy; cases hy
        | some d =>
          rw [hj] at hy
          cases hy
          exact .d _ _ (hread _ hmem d u (fun hf => hf d (List.mem_of_getElem? hj)) (h j d u hj hu))
    | row ty sz es =>
      obtain ⟨v', hv', h6⟩ := hrow i ty sz es hi
      rw [hv] at hv'
      cases hv'
      rcases h6 with ⟨rfl, rfl, h7, _⟩ | ⟨g, c, arr, rfl, h7, _, _, _, hc⟩
      · exact .rowN _ h7
      · exact .rowB _ _ _ _ h7 hc.2.1
    | deep ty sz es =>
      obtain ⟨v', hv', h6⟩ := hdeep i ty sz es hi
      rw [hv] at hv'
      cases hv'
      rcases h6 with ⟨rfl, rfl, h7, _⟩ | ⟨g, c, F, rfl, h7, _, _, _, _, hd⟩
      · exact .rowN _ h7
      · obtain ⟨_, arr, _, _, hle, _⟩ := hd
        exact .rowB _ _ _ _ h7 hle
  refine ⟨m', hs.step hm ⟨h3.os, h3.tape, h3.output, h3.size, fun k hk _ => h3.block k (by have := hs.below.size; omega), h3.drawn⟩ hst ?_ ?_ ?_ ?_ ?_ ?_ ?_, hpv, hm, fun id hid h6 => ?_⟩
  · intro id blk hid
    rw [hget' id] at hid
    by_cases hlt : id < s.nx
    · rw [if_pos hlt] at hid
      obtain ⟨l, q1, q2⟩ := hs.hp id blk hid
      refine ⟨l, by rw [hmold id hlt]; exact q1, q2.mono hm hst fun b c hpl e => ?_⟩
      subst e
      exact h3.block b (hs.own id blk b hid (Blk.has_root hpl q1)).2
    · rw [if_neg hlt] at hid
      obtain ⟨i, rfl⟩ : ∃ i, id = s.nx + i := ⟨id - s.nx, by omega⟩
      rw [Nat.add_sub_cancel_left] at hid
      cases hi : rs[i]? with
      | none => rw [hi] at hid; cases hid
      | some r =>
        rw [hi] at hid
        cases r with
        | d x => cases hid
        | agg ds => cases hid
        | row ty sz es =>
          cases hid
          obtain ⟨v, _, h6⟩ := hrow i ty sz es hi
          rcases h6 with ⟨h7, _, h8, _⟩ | ⟨g, c, arr, _, h8, _, _, hh, hc⟩
          · exact ⟨_, h8, h7⟩
          · exact ⟨_, h8, arr, hh, hrowok ty sz es arr c (List.mem_of_getElem? hi) hc⟩
        | deep ty sz es =>
          cases hid
          obtain ⟨v, _, h6⟩ := hdeep i ty sz es hi
          rcases h6 with ⟨h7, _, h8, _⟩ | ⟨g, c, F, _, h8, _⟩
          · exact ⟨_, h8, trivial⟩
          · exact ⟨_, h8, trivial⟩
  · intro id p ty sz es hid
    rw [hget' id] at hid
    by_cases hlt : id < s.nx
    · rw [if_pos hlt] at hid
      rw [hmold id hlt, hfold id hlt]
      exact (hs.dp id p ty sz es hid).frame (fun x hx => h3.block x (hs.own id _ x hid (.inr hx)).2) fun b c hbc => h3.block b (hs.own id _ b hid (.inl ⟨c, hbc⟩)).2
    · rw [if_neg hlt] at hid
      obtain ⟨i, rfl⟩ : ∃ i, id = s.nx + i := ⟨id - s.nx, by omega⟩
      rw [Nat.add_sub_cancel_left] at hid
      cases hi : rs[i]? with
      | none => rw [hi] at hid; cases hid
      | some r =>
        rw [hi] at hid
        cases r with
        | d x => cases hid
        | agg ds => cases hid
        | row ty sz es => cases hid
        | deep ty sz es =>
          cases hid
          obtain ⟨v, _, h6⟩ := hdeep i ty sz es hi
          rcases h6 with ⟨h7, _, h8, h9⟩ | ⟨g, c, F, _, h8, h9, _, _, _, hd⟩
          · rw [h8]; exact ⟨h7, fun x hx => h9 x ((hfnew i x).1 hx).1⟩
          · rw [h8]
            obtain ⟨q1, arr, q2, q3, q4, q5, q6, Fp, q7, q8, q9⟩ := hd
            refine ⟨fun hf => ((hfnew i g).1 hf).2 c h8, arr, q2, q3, q4, q5, q6, Fp, fun k j x hx => (hfnew i x).2 ⟨(h9 x).2 (.inr (q7 k j x hx)), fun c' hc' => ?_⟩, q8, q9⟩
            rw [h8] at hc'
            cases hc'
            exact q1 (q7 k j g hx)
  · intro id par k j hid
    rw [hget' id] at hid
    by_cases hlt : id < s.nx
    · rw [if_pos hlt] at hid
      obtain ⟨q, ty, sz, es, e0, sz', es', b, c, arr, a1, a2, a3, a4, a5, a6⟩ := hs.al id par k j hid
      have hpl := hs.lt_nx a4
      refine ⟨q, ty, sz, es, e0, sz', es', b, c, arr, by rw [hget' par, if_pos hpl]; exact a1, a2, a3, by rw [hmold par hpl]; exact a4, ?_, by rw [hmold id hlt]; exact a6⟩
      rw [h3.block b (hs.own par _ b a1 (.inl ⟨c, a4⟩)).2]
      exact a5
    · rw [if_neg hlt] at hid
      cases hi : rs[id - s.nx]? with
      | none => rw [hi] at hid; cases hid
      | some r =>
        rw [hi] at hid
        cases r <;> cases hid
  · intro id blk p hid hpo
    rw [hget' id] at hid
    by_cases hlt : id < s.nx
    · rw [if_pos hlt] at hid
      rw [hmold id hlt]
      exact hs.pin id blk p hid hpo
    · rw [if_neg hlt] at hid
      cases hi : rs[id - s.nx]? with
      | none => rw [hi] at hid; cases hid
      | some r =>
        rw [hi] at hid
        cases r <;> cases hid <;> cases hpo
  · intro id id' blk blk' b q1 q2 q3 q4
    rcases hhas id blk b q1 q3 with ⟨a1, a2, a3⟩ | ⟨a1, a2, a3, a4, _⟩
    · rcases hhas id' blk' b q2 q4 with ⟨b1, b2, b3⟩ | ⟨b1, b2, b3, b4, _⟩
      · exact hs.inj id id' blk blk' b a2 b2 a3 b3
      · have := (hs.own id blk b a2 a3).2; omega
    · rcases hhas id' blk' b q2 q4 with ⟨b1, b2, b3⟩ | ⟨b1, b2, b3, b4, _⟩
      · have := (hs.own id' blk' b b2 b3).2; omega
      · have := h4 _ _ b a3 b3
        omega
  · intro id blk b q1 q2
    rcases hhas id blk b q1 q2 with ⟨a1, a2, a3⟩ | ⟨a1, a2, a3, a4, a5⟩
    · have := hs.own id blk b a2 a3
      exact ⟨this.1, Nat.lt_of_lt_of_le this.2 h3.size⟩
    · exact ⟨.inl (Nat.le_trans hs.below.size a4), a5⟩
  · intro id hid
    have h6 : rs[id - s.nx]? = none := List.getElem?_eq_none (by omega)
    show (if id < s.nx then m.loc id else match vs[id - s.nx]?, (rs[id - s.nx]?).bind rvB with
      | some (.slice (some ad) _ c), some _ => some (.blk ad.block c)
      | some (.slice none _ _), some _ => some .nil
      | _, _ => none) = none
    rw [if_neg (by omega), h6]
    cases vs[id - s.nx]? with
    | none => rfl
    | some v =>
      cases v <;> try rfl
      rename_i A _ _
      cases A <;> rfl
  · show (if id < s.nx then m.loc id else match vs[id - s.nx]?, (rs[id - s.nx]?).bind rvB with
      | some (.slice (some ad) _ c), some _ => some (.blk ad.block c)
      | some (.slice none _ _), some _ => some .nil
      | _, _ => none) = none
    rw [if_neg (by omega), h6]
    cases vs[id - s.nx]? with
    | none => rfl
    | some v =>
      cases v <;> try rfl
      rename_i A _ _
      cases A <;> rfl
theorem Sim.takeV {X0 : Nat → Prop} {w0 : Base} {m : Mp} {a : Act} {w w' : World} {X : Nat → Prop} {rs : List RV} {vs : Array Value} {gs : Nat → Nat → Prop} (hs : Sim X0 w0 m s a w) (h2 : vs.size = rs.length) (h3 : Bel w.heap.size w w') (h4 : ∀ i j x, gs i x → gs j x → i = j)
    (h5 : ∀ (i : Nat) (r : RV) (v : Value), rs[i]? = some r → vs[i]? = some v → RR (fun b => X b ∨ ∃ j, gs j b) w.heap.size w' r v (gs i)) (hX : (∀ b, X b ↔ Owned X0 m s.hp b) ∨ ∀ r ∈ rs, r.flat) :
    ∃ m' : Mp, Sim X0 w0 m' ⟨s.fr, hps s.nx rs ++ s.hp, s.nx + rs.length⟩ a w' ∧ ∀ (i : Nat) (r : RV) (v : Value), rs[i]? = some r → vs[i]? = some v → R m'.loc (Owned X0 m' (hps s.nx rs ++ s.hp)) w' (pv1 (s.nx + i) r) v := by
  obtain ⟨m', q1, q2, _⟩ := hs.takeW h2 h3 h4 h5 hX
  exact ⟨m', q1, q2⟩
theorem Sim.take {X0 : Nat → Prop} {w0 : Base} {m : Mp} {a : Act} {w w' : World} {X : Nat → Prop} {rs : List RV} {e : Ending} (hs : Sim X0 w0 m s a w) (hr : Res X w rs e w') (hX : (∀ b, X b ↔ Owned X0 m s.hp b) ∨ ∀ r ∈ rs, r.flat) :
    ∃ m' v, e = .returned v ∧ Sim X0 w0 m' ⟨s.fr, hps s.nx rs ++ s.hp, s.nx + rs.length⟩ a w' ∧ R m'.loc (Owned X0 m' (hps s.nx rs ++ s.hp)) w' (resPV s.nx rs) v := by
  obtain ⟨vs, gs, h1, h2, h3, h4, h5⟩ := hr
  obtain ⟨m', hS, hpv⟩ := hs.takeV h2 h3 h4 h5 hX
  refine ⟨m', retV vs, h1, hS, ?_⟩
  have hl : (pvs s.nx rs).length = vs.size := by rw [pvs_len, h2]
  have htup : R m'.loc (Owned X0 m' (hps s.nx rs ++ s.hp)) w' (.tup (pvs s.nx rs)) (.tuple vs) := by
    refine .tup _ _ hl.symm fun i y u hy hu => ?_
    rw [pvs_get] at hy
    cases hi : rs[i]? with
    | none => rw [hi] at hy; cases hy
    | some r =>
      rw [hi] at hy
      cases hy
      exact hpv i r u hi hu
  cases rs with
  | nil =>
    have : ¬ vs.size = 1 := by rw [h2]; simp
    simp only [retV, this, dif_neg, not_false_eq_true]
    exact htup
  | cons r rest =>
    cases rest with
    | nil =>
      have h1' : vs.size = 1 := by rw [h2]; rfl
      simp only [retV, h1', dif_pos]
      exact hpv 0 r vs[0] rfl (by simp [h1'])
    | cons r2 rest =>
      have : ¬ vs.size = 1 := by rw [h2]; simp
      simp only [retV, this, dif_neg, not_false_eq_true]
      exact htup
/-- a struct as result: its cells lie as results do -/
def ResA (X : Nat → Prop) (w : World) (rs : List RV) (e : Ending) (w' : World) : Prop :=
  ∃ (vs : Array Value) (gs : Nat → Nat → Prop), e = .returned (.agg vs) ∧ vs.size = rs.length ∧ Bel w.heap.size w w' ∧ (∀ i j x, gs i x → gs j x → i = j) ∧
    ∀ (i : Nat) (r : RV) (v : Value), rs[i]? = some r → vs[i]? = some v → RR (fun b => X b ∨ ∃ j, gs j b) w.heap.size w' r v (gs i)
theorem Sim.takeA {X0 : Nat → Prop} {w0 : Base} {m : Mp} {a : Act} {w w' : World} {X : Nat → Prop} {rs : List RV} {e : Ending} (hs : Sim X0 w0 m s a w) (hr : ResA X w rs e w') (hX : (∀ b, X b ↔ Owned X0 m s.hp b) ∨ ∀ r ∈ rs, r.flat) :
    ∃ m' v, e = .returned v ∧ Sim X0 w0 m' ⟨s.fr, hps s.nx rs ++ s.hp, s.nx + rs.length⟩ a w' ∧ R m'.loc (Owned X0 m' (hps s.nx rs ++ s.hp)) w' (.agg (pvs s.nx rs)) v := by
  obtain ⟨vs, gs, h1, h2, h3, h4, h5⟩ := hr
  obtain ⟨m', hS, hpv⟩ := hs.takeV h2 h3 h4 h5 hX
  refine ⟨m', .agg vs, h1, hS, ?_⟩
  have hl : (pvs s.nx rs).length = vs.size := by rw [pvs_len, h2]
  refine .agg _ _ hl.symm fun i y u hy hu => ?_
  rw [pvs_get] at hy
  cases hi : rs[i]? with
  | none => rw [hi] at hy; cases hy
  | some r =>
    rw [hi] at hy
    cases hy
    exact hpv i r u hi hu

theorem po_call {f : Operand} {args : Array Operand} {argTypes : Array TypeId} {fid : FuncId} {caps : List PV} {Post : List RV → Prop} (ho : o.op = .call { callee := .value f, args := args, argTypes := argTypes }) (hf : s.get f = .fn fid caps)
    (hok : FnOK P fid ((args.toList.map s.get ++ caps).map (ta2 s.hp)) Post)
    (hK : ∀ rs, Post rs → ((args.toList.map s.get ++ caps).any rf2 = true → ∀ r ∈ rs, r.flat) ∧ K (AS.put ⟨s.fr, hps s.nx rs ++ s.hp, s.nx + rs.length⟩ o.dst (resPV s.nx rs))) : PO P o s K := by
  intro X0 w0 m a w Q hs
  obtain ⟨⟨fn, e1, e2, e3⟩, hcall⟩ := hok
  have hfv := hs.get f
  rw [hf] at hfv
  obtain ⟨vs, hl, hvs, hfe⟩ : ∃ vs : Array Value, vs.size = caps.length ∧ (∀ (i : Nat) (x : PV) (v : Value), caps[i]? = some x → vs[i]? = some v → R m (Owned X0 m s.hp) w x v) ∧ a.eval f = .func (.func fid) #[] vs := by
    generalize a.eval f = v at hfv
    cases hfv with
    | fn _ _ vs hl h => exact ⟨vs, hl, h, rfl⟩
  have hrun : (execOp a.eval o).run P w = .ok (.enter fid (args.map a.eval ++ vs)) w := by
    have e2' : ¬ fn.name = "runtime.NumGoroutine" := by simpa using e2
    have e3' : ¬ fn.body = none := fun h => by rw [h] at e3; cases e3
    simp [execOp, ho, resolve, hfe, Deferred.ofValue, invoke, callFunc, e1]
    rw [if_neg e2', if_neg e3']
  unfold Oper.wp
  rw [hrun]
  simp only [Oper.upon_enter]
  have hxb : ∀ b, Owned X0 m s.hp b → b < w.heap.size := fun b hb => hs.lt_size hb
  have hall : ∀ (i : Nat) (x : PV) (v : Value), (args.toList.map s.get ++ caps)[i]? = some x → (args.map a.eval ++ vs)[i]? = some v → R m (Owned X0 m s.hp) w x v := by
    intro i x v hx hv
    by_cases hi : i < args.size
    · rw [List.getElem?_append_left (by simpa using hi), List.getElem?_map] at hx
      rw [Array.getElem?_append_left (by simpa using hi), Array.getElem?_map] at hv
      have h6 : args[i]? = some args[i] := by simp [hi]
      have h7 : args.toList[i]? = some args[i] := by simp [hi]
      rw [h6] at hv
      rw [h7] at hx
      cases hv
      cases hx
      exact hs.get _
    · rw [List.getElem?_append_right (by simp; omega)] at hx
      rw [Array.getElem?_append_right (by simp; omega)] at hv
      simp only [List.length_map, Array.length_toList] at hx
      simp only [Array.size_map] at hv
      exact hvs _ x v hx hv
  have key : ∀ X', (∀ b, X' b → b < w.heap.size) → Stay w w (Owned X0 m s.hp) X' → ((args.toList.map s.get ++ caps).any rf2 = true → ∀ b, ¬ X' b) → Calls P fid (args.map a.eval ++ vs) w fun e w' => ∃ rs, Post rs ∧ Res X' w rs e w' := by
    intro X' h1 h2 h3
    refine hcall w X' _ h1 (by simp [hl]) fun i x v hx hv => ?_
    rw [List.getElem?_map] at hx
    cases hi : (args.toList.map s.get ++ caps)[i]? with
    | none => rw [hi] at hx; cases hx
    | some y =>
      rw [hi] at hx
      cases hx
      exact ta2_R hs h2 (fun hr => h3 (by rw [List.any_eq_true]; exact ⟨y, List.mem_of_getElem? hi, hr⟩)) (hall i y v hi hv)
  cases hrf : (args.toList.map s.get ++ caps).any rf2 with
  | false =>
    refine (key (Owned X0 m s.hp) hxb (Stay.refl _ _) (fun h => by rw [hrf] at h; cases h)).mono ?_
    rintro e w' ⟨rs, h1, h2⟩
    obtain ⟨m', v, h3, h4, h5⟩ := hs.take h2 (.inl fun b => Iff.rfl)
    subst h3
    exact ⟨m', _, (hK rs h1).2, h4.put h5 o.dst⟩
  | true =>
    refine (key (fun _ => False) (fun b h => h.elim) (fun b _ _ => ⟨rfl, fun h => h⟩) (fun _ b h => h)).mono ?_
    rintro e w' ⟨rs, h1, h2⟩
    obtain ⟨m', v, h3, h4, h5⟩ := hs.take h2 (.inr ((hK rs h1).1 hrf))
    subst h3
    exact ⟨m', _, (hK rs h1).2, h4.put h5 o.dst⟩
/-- a contract of a function that returns a struct with rows of the call's own -/
def FnAg (P : Program) (f : FuncId) (args : List PV) (rs : List RV) : Prop :=
  Enters P f ∧ ∀ (w : World) (X : Nat → Prop) (vals : Array Value), (∀ b, X b → b < w.heap.size) → vals.size = args.length → (∀ (i : Nat) (x : PV) (v : Value), args[i]? = some x → vals[i]? = some v → R (fun _ => none) X w x v) →
    Calls P f vals w fun e w' => ResA X w rs e w'
theorem po_callA {f : Operand} {args : Array Operand} {argTypes : Array TypeId} {fid : FuncId} {caps : List PV} {rs : List RV} (ho : o.op = .call { callee := .value f, args := args, argTypes := argTypes }) (hf : s.get f = .fn fid caps)
    (hok : FnAg P fid ((args.toList.map s.get ++ caps).map (ta2 s.hp)) rs)
    (hK : ((args.toList.map s.get ++ caps).any rf2 = true → ∀ r ∈ rs, r.flat) ∧ K (AS.put ⟨s.fr, hps s.nx rs ++ s.hp, s.nx + rs.length⟩ o.dst (.agg (pvs s.nx rs)))) : PO P o s K := by
  intro X0 w0 m a w Q hs
  obtain ⟨⟨fn, e1, e2, e3⟩, hcall⟩ := hok
  have hfv := hs.get f
  rw [hf] at hfv
  obtain ⟨vs, hl, hvs, hfe⟩ : ∃ vs : Array Value, vs.size = caps.length ∧ (∀ (i : Nat) (x : PV) (v : Value), caps[i]? = some x → vs[i]? = some v → R m (Owned X0 m s.hp) w x v) ∧ a.eval f = .func (.func fid) #[] vs := by
    generalize a.eval f = v at hfv
    cases hfv with
    | fn _ _ vs hl h => exact ⟨vs, hl, h, rfl⟩
  have hrun : (execOp a.eval o).run P w = .ok (.enter fid (args.map a.eval ++ vs)) w := by
    have e2' : ¬ fn.name = "runtime.NumGoroutine" := by simpa using e2
    have e3' : ¬ fn.body = none := fun h => by rw [h] at e3; cases e3
    simp [execOp, ho, resolve, hfe, Deferred.ofValue, invoke, callFunc, e1]
    rw [if_neg e2', if_neg e3']
  unfold Oper.wp
  rw [hrun]
  simp only [Oper.upon_enter]
  have hxb : ∀ b, Owned X0 m s.hp b → b < w.heap.size := fun b hb => hs.lt_size hb
  have hall : ∀ (i : Nat) (x : PV) (v : Value), (args.toList.map s.get ++ caps)[i]? = some x → (args.map a.eval ++ vs)[i]? = some v → R m (Owned X0 m s.hp) w x v := by
    intro i x v hx hv
    by_cases hi : i < args.size
    · rw [List.getElem?_append_left (by simpa using hi), List.getElem?_map] at hx
      rw [Array.getElem?_append_left (by simpa using hi), Array.getElem?_map] at hv
      have h6 : args[i]? = some args[i] := by simp [hi]
      have h7 : args.toList[i]? = some args[i] := by simp [hi]
      rw [h6] at hv
      rw [h7] at hx
      cases hv
      cases hx
      exact hs.get _
    · rw [List.getElem?_append_right (by simp; omega)] at hx
      rw [Array.getElem?_append_right (by simp; omega)] at hv
      simp only [List.length_map, Array.length_toList] at hx
      simp only [Array.size_map] at hv
      exact hvs _ x v hx hv
  have key : ∀ X', (∀ b, X' b → b < w.heap.size) → Stay w w (Owned X0 m s.hp) X' → ((args.toList.map s.get ++ caps).any rf2 = true → ∀ b, ¬ X' b) → Calls P fid (args.map a.eval ++ vs) w fun e w' => ResA X' w rs e w' := by
    intro X' h1 h2 h3
    refine hcall w X' _ h1 (by simp [hl]) fun i x v hx hv => ?_
    rw [List.getElem?_map] at hx
    cases hi : (args.toList.map s.get ++ caps)[i]? with
    | none => rw [hi] at hx; cases hx
    | some y =>
      rw [hi] at hx
      cases hx
      exact ta2_R hs h2 (fun hr => h3 (by rw [List.any_eq_true]; exact ⟨y, List.mem_of_getElem? hi, hr⟩)) (hall i y v hi hv)
  cases hrf : (args.toList.map s.get ++ caps).any rf2 with
  | false =>
    refine (key (Owned X0 m s.hp) hxb (Stay.refl _ _) (fun h => by rw [hrf] at h; cases h)).mono ?_
    intro e w' h2
    obtain ⟨m', v, h3, h4, h5⟩ := hs.takeA h2 (.inl fun b => Iff.rfl)
    subst h3
    exact ⟨m', _, hK.2, h4.put h5 o.dst⟩
  | true =>
    refine (key (fun _ => False) (fun b h => h.elim) (fun b _ _ => ⟨rfl, fun h => h⟩) (fun _ b h => h)).mono ?_
    intro e w' h2
    obtain ⟨m', v, h3, h4, h5⟩ := hs.takeA h2 (.inr (hK.1 hrf))
    subst h3
    exact ⟨m', _, hK.2, h4.put h5 o.dst⟩
end rules
end Go.Proofs.Ytldcnlhfanbdfaa
