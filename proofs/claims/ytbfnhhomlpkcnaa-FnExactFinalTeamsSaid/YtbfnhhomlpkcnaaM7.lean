/-
  The abstract machine: calls, code, loops, whole functions. No program is named here.
-/
import Derived.Test.YtbfnhhomlpkcnaaM6
namespace Go.Proofs.Ytbfnhhomlpkcnaa
open Go.RowKit

def D.sc : D → Prop
  | .lst _ _ => False
  | _ => True
theorem Rd.sc {w w' : World} {X X' : Nat → Prop} {d : D} {v : Value} (h : Rd w X d v) (hd : d.sc) : Rd w' X' d v := by
  cases h with
  | int k n => exact .int k n
  | bool b => exact .bool b
  | str s => exact .str s
  | nil => exact hd.elim
  | lst => exact hd.elim

/-- results -/
inductive RV where
  | d (x : D)
  | agg (ds : List D)
  | row (ty : TypeId) (sz : Nat) (es : List (List D))
def RV.flat : RV → Prop
  | .d x => x.sc
  | .agg ds => ∀ d, d ∈ ds → d.sc
  | .row _ _ es => ∀ e, e ∈ es → ∀ d, d ∈ e → d.sc
/-- a result lies in w, its own row (if any) in block g -/
inductive RR (Y : Nat → Prop) (B : Nat) (w : World) : RV → Value → Option Nat → Prop
  | d (x : D) (v : Value) (h : Rd w Y x v) : RR Y B w (.d x) v none
  | agg (ds : List D) (vs : Array Value) (hl : vs.size = ds.length) (h : ∀ (i : Nat) (d : D) (v : Value), ds[i]? = some d → vs[i]? = some v → Rd w Y d v) : RR Y B w (.agg ds) (.agg vs) none
  | nil (ty : TypeId) (sz : Nat) : RR Y B w (.row ty sz []) (.slice none 0 0) none
  | row (ty : TypeId) (sz : Nat) (es : List (List D)) (g c : Nat) (arr : Array Value) (hB : B ≤ g) (hh : w.heap[g]? = some (.cells arr ty (0, 0))) (hc : (Blk.row ty sz es).cellsOk (fun _ => none) Y w arr c) : RR Y B w (.row ty sz es) (.slice (some ⟨g, 0, none⟩) es.length c) (some g)

def retV (vs : Array Value) : Value := if h : vs.size = 1 then vs[0] else .tuple vs
def Res (X : Nat → Prop) (w : World) (rs : List RV) (e : Ending) (w' : World) : Prop :=
  ∃ (vs : Array Value) (gs : Nat → Option Nat), e = .returned (retV vs) ∧ vs.size = rs.length ∧ Below w.heap.size w w' ∧ (∀ i j g, gs i = some g → gs j = some g → i = j) ∧
    ∀ (i : Nat) (r : RV) (v : Value), rs[i]? = some r → vs[i]? = some v → RR (fun b => X b ∨ ∃ j, gs j = some b) w.heap.size w' r v (gs i)

/-- the function is one of the program's own -/
def Enters (P : Program) (f : FuncId) : Prop := ∃ fn, P.funcs[f]? = some fn ∧ (fn.name == "runtime.NumGoroutine") = false ∧ fn.body.isNone = false
/-- a contract: arguments that read as args lead to results that satisfy Post; nothing that was there changes -/
def FnOK (P : Program) (f : FuncId) (args : List PV) (Post : List RV → Prop) : Prop :=
  Enters P f ∧ ∀ (w : World) (X : Nat → Prop) (vals : Array Value), (∀ b, X b → b < w.heap.size) → vals.size = args.length → (∀ (i : Nat) (x : PV) (v : Value), args[i]? = some x → vals[i]? = some v → R (fun _ => none) X w x v) →
    Calls P f vals w fun e w' => ∃ rs, Post rs ∧ Res X w rs e w'
theorem FnOK.mono {P : Program} {f : FuncId} {args : List PV} {Post Post' : List RV → Prop} (h : FnOK P f args Post) (hp : ∀ rs, Post rs → Post' rs) : FnOK P f args Post' :=
  ⟨h.1, fun w X vals h1 h2 h3 => (h.2 w X vals h1 h2 h3).mono fun _ _ ⟨rs, h4, h5⟩ => ⟨rs, hp rs h4, h5⟩⟩

/-- own rows and boxes, as plain data -/
def pD (hp : List (Nat × Blk)) : PV → Option D
  | .d x => some x
  | .row id n => match srcL hp (.row id n) with
    | some (sz, es) => some (.lst sz es)
    | none => none
  | .view id sz lo n => match srcL hp (.view id sz lo n) with
    | some (sz, es) => some (.lst sz es)
    | none => none
  | _ => none
def pDs (hp : List (Nat × Blk)) : List PV → Option (List D)
  | [] => some []
  | x :: r => match pD hp x, pDs hp r with
    | some d, some l => some (d :: l)
    | _, _ => none
theorem pDs_get {hp : List (Nat × Blk)} : ∀ {xs : List PV} {ds : List D}, pDs hp xs = some ds → ∀ (j : Nat) d, ds[j]? = some d → ∃ x, xs[j]? = some x ∧ pD hp x = some d
  | [], ds, h, j, d, hj => by cases h; simp at hj
  | x :: r, ds, h, j, d, hj => by
    simp only [pDs] at h
    split at h
    · rename_i e l he hl
      cases h
      cases j with
      | zero => simp at hj; subst hj; exact ⟨x, rfl, he⟩
      | succ j => simpa using pDs_get hl j d (by simpa using hj)
    · cases h
def ta0 (hp : List (Nat × Blk)) : PV → PV
  | .d x => .d x
  | .eptr cs => .eptr cs
  | .bptr id off => match hget hp id with
    | some (.box _ cs) => (match pDs hp (cs.drop off) with
      | some ds => .eptr ds
      | none => .und)
    | _ => .und
  | .row id n => match srcL hp (.row id n) with
    | some (sz, es) => .d (.lst sz es)
    | none => .und
  | .view id sz lo n => match srcL hp (.view id sz lo n) with
    | some (sz, es) => .d (.lst sz es)
    | none => .und
  | _ => .und
def ta1 (hp : List (Nat × Blk)) : PV → PV
  | .agg xs => .agg (xs.map (ta0 hp))
  | x => ta0 hp x
def ta2 (hp : List (Nat × Blk)) : PV → PV
  | .fn f caps => .fn f (caps.map (ta1 hp))
  | x => ta1 hp x
def rf0 : PV → Bool
  | .row _ _ | .view _ _ _ _ | .bptr _ _ => true
  | _ => false
def rf1 : PV → Bool
  | .agg xs => xs.any rf0
  | x => rf0 x
def rf2 : PV → Bool
  | .fn _ caps => caps.any rf1
  | x => rf1 x

section
variable {X0 : Nat → Prop} {w0 : World} {m : Nat → Option Loc} {s : AS} {a : Act} {w : World} {X' : Nat → Prop}
theorem src_rd {X : Nat → Prop} {sz : Nat} {fs : List (List D)} {v : Value} (h : SrcOK w X sz fs v) (hX : Stay w w X X') (hn : ∀ b, ¬ X' b) : Rd w X' (.lst sz fs) v := by
  obtain ⟨hz, h⟩ := h
  rcases h with ⟨rfl, A, c, rfl⟩ | ⟨b, off, c, rfl, hc, h2⟩
  · exact .nil _ _ _
  · refine .lst _ _ _ _ _ hc hz (fun k e j d he hd => ?_) (fun k e j d u he hd hu => ?_)
    · obtain ⟨u, q1, _⟩ := h2 k e j d he hd
      exact ⟨hn b, u, q1⟩
    · obtain ⟨u', q1, q2⟩ := h2 k e j d he hd
      rw [q1] at hu
      cases hu
      exact q2.mono hX
theorem pD_R (hs : Sim X0 w0 m s a w) (hX : Stay w w (Owned X0 m s.hp) X') (hn : ∀ b, ¬ X' b) {x : PV} {v : Value} {d : D} (h : R m (Owned X0 m s.hp) w x v) (hd : pD s.hp x = some d) : Rd w X' d v := by
  cases x with
  | d x => cases hd; exact h.rd.mono hX
  | row id n =>
    simp only [pD] at hd
    split at hd
    · rename_i sz es he; cases hd; exact src_rd (hs.src he h) hX hn
    · cases hd
  | view id sz lo n =>
    simp only [pD] at hd
    split at hd
    · rename_i sz es he; cases hd; exact src_rd (hs.src he h) hX hn
    · cases hd
  | _ => cases hd
theorem ta0_R (hs : Sim X0 w0 m s a w) (hX : Stay w w (Owned X0 m s.hp) X') {x : PV} {v : Value} (hr : rf0 x = true → ∀ b, ¬ X' b) (h : R m (Owned X0 m s.hp) w x v) : R (fun _ => none) X' w (ta0 s.hp x) v := by
  cases x with
  | d x => exact .d _ _ (h.rd.mono hX)
  | eptr cs =>
    obtain ⟨b, off, rfl, h2⟩ := h.eptr_inv
    refine .eptr _ _ _ fun j d hj => ?_
    obtain ⟨q1, u, q2, q3⟩ := h2 j d hj
    exact ⟨(hX.cell q1 q2).2, u, q2, q3.mono hX⟩
  | bptr id off =>
    obtain ⟨b, c, hm, rfl⟩ := h.bptr_inv
    simp only [ta0]
    split
    · rename_i ty cs hg
      split
      · rename_i ds hd
        obtain ⟨arr, hh, ha, hc⟩ := hs.blk hg hm
        refine .eptr _ _ _ fun j d hj => ?_
        obtain ⟨x, hx, hp⟩ := pDs_get hd j d hj
        rw [List.getElem?_drop] at hx
        have hlt := (List.getElem?_eq_some_iff.1 hx).1
        have hja : off + j < arr.size := by rw [ha]; exact hlt
        have hu : arr[off + j]? = some arr[off + j] := by simp [hja]
        exact ⟨hr rfl b, arr[off + j], by simp [World.cell?, hh, hja], pD_R hs hX (hr rfl) (hc _ _ _ hx hu).1 hp⟩
      · exact .und _
    · exact .und _
  | row id n =>
    simp only [ta0]
    split
    · rename_i sz es he; exact .d _ _ (src_rd (hs.src he h) hX (hr rfl))
    · exact .und _
  | view id sz lo n =>
    simp only [ta0]
    split
    · rename_i sz es he; exact .d _ _ (src_rd (hs.src he h) hX (hr rfl))
    · exact .und _
  | _ => exact .und _
theorem ta1_R (hs : Sim X0 w0 m s a w) (hX : Stay w w (Owned X0 m s.hp) X') {x : PV} {v : Value} (hr : rf1 x = true → ∀ b, ¬ X' b) (h : R m (Owned X0 m s.hp) w x v) : R (fun _ => none) X' w (ta1 s.hp x) v := by
  cases x with
  | agg xs =>
    cases h with
    | agg _ vs hl h =>
      refine .agg _ _ (by simpa using hl) fun i y u hy hu => ?_
      rw [List.getElem?_map] at hy
      cases hi : xs[i]? with
      | none => rw [hi] at hy; cases hy
      | some z =>
        rw [hi] at hy
        cases hy
        exact ta0_R hs hX (fun hz => hr (by simp only [rf1, List.any_eq_true]; exact ⟨z, List.mem_of_getElem? hi, hz⟩)) (h i z u hi hu)
  | _ => (refine ta0_R hs hX ?_ h; exact hr)
theorem ta2_R (hs : Sim X0 w0 m s a w) (hX : Stay w w (Owned X0 m s.hp) X') {x : PV} {v : Value} (hr : rf2 x = true → ∀ b, ¬ X' b) (h : R m (Owned X0 m s.hp) w x v) : R (fun _ => none) X' w (ta2 s.hp x) v := by
  cases x with
  | fn f caps =>
    cases h with
    | fn _ _ vs hl h =>
      refine .fn _ _ _ (by simpa using hl) fun i y u hy hu => ?_
      rw [List.getElem?_map] at hy
      cases hi : caps[i]? with
      | none => rw [hi] at hy; cases hy
      | some z =>
        rw [hi] at hy
        cases hy
        exact ta1_R hs hX (fun hz => hr (by simp only [rf2, List.any_eq_true]; exact ⟨z, List.mem_of_getElem? hi, hz⟩)) (h i z u hi hu)
  | _ => (refine ta1_R hs hX ?_ h; exact hr)
end

/-- what the results become in the caller -/
def pv1 (nx : Nat) : RV → PV
  | .d x => .d x
  | .agg ds => .agg (ds.map .d)
  | .row _ _ es => .row nx es.length
def pvs (nx : Nat) : List RV → List PV
  | [] => []
  | r :: rs => pv1 nx r :: pvs (nx + 1) rs
def hps (nx : Nat) : List RV → List (Nat × Blk)
  | [] => []
  | .row ty sz es :: rs => (nx, .row ty sz es) :: hps (nx + 1) rs
  | _ :: rs => hps (nx + 1) rs
def resPV (nx : Nat) : List RV → PV
  | [r] => pv1 nx r
  | rs => .tup (pvs nx rs)
theorem pvs_get : ∀ (rs : List RV) (nx i : Nat), (pvs nx rs)[i]? = (rs[i]?).map (pv1 (nx + i))
  | [], nx, i => by simp [pvs]
  | r :: rs, nx, 0 => by simp [pvs]
  | r :: rs, nx, i + 1 => by
    have := pvs_get rs (nx + 1) i
    rw [show nx + 1 + i = nx + (i + 1) by omega] at this
    simpa [pvs] using this
theorem pvs_len : ∀ (rs : List RV) (nx : Nat), (pvs nx rs).length = rs.length
  | [], _ => rfl
  | r :: rs, nx => by rw [pvs, List.length_cons, pvs_len rs, List.length_cons]
theorem hps_get (hp : List (Nat × Blk)) : ∀ (rs : List RV) (nx id : Nat), (∀ j, nx ≤ j → hget hp j = none) →
    hget (hps nx rs ++ hp) id = if id < nx then hget hp id else match rs[id - nx]? with | some (.row ty sz es) => some (.row ty sz es) | _ => none
  | [], nx, id, h => by
    by_cases hid : id < nx
    · simp [hps, hid]
    · simp [hps, hid, h id (by omega)]
  | r :: rs, nx, id, h => by
    have ih := hps_get hp rs (nx + 1) id (fun j hj => h j (by omega))
    by_cases hid : id < nx
    · rw [if_pos (by omega)] at ih
      rw [if_pos hid]
      cases r <;> simp only [hps, List.cons_append, hget]
      · exact ih
      · exact ih
      · rw [if_neg (by omega)]; exact ih
    · rw [if_neg hid]
      by_cases he : id = nx
      · subst he
        rw [if_pos (by omega), h id (Nat.le_refl _)] at ih
        cases r <;> simp [hps, hget, ih]
      · rw [if_neg (by omega)] at ih
        rw [show id - nx = (id - (nx + 1)) + 1 by omega, List.getElem?_cons_succ]
        cases r <;> simp only [hps, List.cons_append, hget]
        · exact ih
        · exact ih
        · rw [if_neg he]; exact ih

section rules
variable {P : Program} {o : Oper} {s : AS} {K : AS → Prop}
/-- the caller takes the results over -/
theorem Sim.take {X0 : Nat → Prop} {w0 : World} {m : Nat → Option Loc} {a : Act} {w w' : World} {X : Nat → Prop} {rs : List RV} {e : Ending} (hs : Sim X0 w0 m s a w) (hr : Res X w rs e w') (hX : (∀ b, X b ↔ Owned X0 m s.hp b) ∨ ∀ r ∈ rs, r.flat) :
    ∃ m' v, e = .returned v ∧ Sim X0 w0 m' ⟨s.fr, hps s.nx rs ++ s.hp, s.nx + rs.length⟩ a w' ∧ R m' (Owned X0 m' (hps s.nx rs ++ s.hp)) w' (resPV s.nx rs) v := by
  obtain ⟨vs, gs, h1, h2, h3, h4, h5⟩ := hr
  have hnone : ∀ j, s.nx ≤ j → hget s.hp j = none := by
    intro j hj
    cases hg : hget s.hp j with
    | none => rfl
    | some blk =>
      obtain ⟨l, q1, _⟩ := hs.hp j blk hg
      rw [hs.nx j hj] at q1
      cases q1
  have hget' := hps_get s.hp rs s.nx
  -- where the new rows lie
  let m' : Nat → Option Loc := fun id => if id < s.nx then m id else match vs[id - s.nx]?, rs[id - s.nx]? with
    | some (.slice (some ad) _ c), some (.row _ _ _) => some (.blk ad.block c)
    | some (.slice none _ _), some (.row _ _ _) => some .nil
    | _, _ => none
  have hmold : ∀ id, id < s.nx → m' id = m id := fun id hid => if_pos hid
  have hm : ∀ i l, m i = some l → m' i = some l := fun i l h => by rw [hmold i (hs.lt_nx h)]; exact h
  have hidx : ∀ i r, rs[i]? = some r → ∃ v, vs[i]? = some v := fun i r h => by
    have hlt := (List.getElem?_eq_some_iff.1 h).1
    exact ⟨_, Array.getElem?_eq_getElem (by omega)⟩
  -- a new row
  have hnew : ∀ i ty sz es, rs[i]? = some (.row ty sz es) → ∃ v, vs[i]? = some v ∧ ((es = [] ∧ v = .slice none 0 0 ∧ m' (s.nx + i) = some .nil ∧ gs i = none) ∨ ∃ g c arr, v = .slice (some ⟨g, 0, none⟩) es.length c ∧ m' (s.nx + i) = some (.blk g c) ∧ gs i = some g ∧ w.heap.size ≤ g ∧ w'.heap[g]? = some (.cells arr ty (0, 0)) ∧ (Blk.row ty sz es).cellsOk (fun _ => none) (fun b => X b ∨ ∃ j, gs j = some b) w' arr c) := by
    intro i ty sz es hi
    obtain ⟨v, hv⟩ := hidx i _ hi
    refine ⟨v, hv, ?_⟩
    have := h5 i _ v hi hv
    have hmi : m' (s.nx + i) = match some v, some (RV.row ty sz es) with
      | some (.slice (some ad) _ c), some (.row _ _ _) => some (.blk ad.block c)
      | some (.slice none _ _), some (.row _ _ _) => some .nil
      | _, _ => none := by
      simp only [m', show ¬ s.nx + i < s.nx by omega, if_false, Nat.add_sub_cancel_left, hv, hi]
    generalize hgi : gs i = g0 at this
    cases this with
    | nil => exact .inl ⟨rfl, rfl, hmi, rfl⟩
    | row _ _ _ g c arr hB hh hc => exact .inr ⟨g, c, arr, rfl, hmi, rfl, hB, hh, hc⟩
  have hown' : ∀ b, Owned X0 m' (hps s.nx rs ++ s.hp) b ↔ (Owned X0 m s.hp b ∨ ∃ j, j < rs.length ∧ gs j = some b) := by
    intro b
    constructor
    · rintro (hx | ⟨id, blk, c, q1, q2⟩)
      · exact .inl (.inl hx)
      · rw [hget' id hnone] at q1
        by_cases hid : id < s.nx
        · rw [if_pos hid] at q1
          rw [hmold id hid] at q2
          exact .inl (.inr ⟨id, blk, c, q1, q2⟩)
        · rw [if_neg hid] at q1
          split at q1
          · rename_i ty sz es hr
            obtain ⟨v, _, h6⟩ := hnew _ ty sz es hr
            rw [show s.nx + (id - s.nx) = id by omega] at h6
            rcases h6 with ⟨_, _, h7, _⟩ | ⟨g, c', arr, _, h7, h8, _⟩
            · rw [q2] at h7; cases h7
            · rw [q2] at h7
              cases h7
              exact .inr ⟨_, (List.getElem?_eq_some_iff.1 hr).1, h8⟩
          · cases q1
    · rintro ((hx | ⟨id, blk, c, q1, q2⟩) | ⟨j, hj, q⟩)
      · exact .inl hx
      · have hid := hs.lt_nx q2
        exact .inr ⟨id, blk, c, by rw [hget' id hnone, if_pos hid]; exact q1, by rw [hmold id hid]; exact q2⟩
      · obtain ⟨v, hv⟩ := hidx j rs[j] (List.getElem?_eq_getElem hj)
        have h6 := h5 j rs[j] v (List.getElem?_eq_getElem hj) hv
        rw [q] at h6
        generalize hrj : rs[j] = r at h6
        cases h6 with
        | row ty sz es g c arr hB hh hc =>
          have hi : rs[j]? = some (.row ty sz es) := by rw [← hrj]; exact List.getElem?_eq_getElem hj
          obtain ⟨v', _, h7⟩ := hnew j ty sz es hi
          rcases h7 with ⟨_, _, _, h8⟩ | ⟨g', c', arr', _, h8, h9, _⟩
          · rw [q] at h8; cases h8
          · rw [q] at h9
            cases h9
            refine .inr ⟨s.nx + j, .row ty sz es, c', ?_, h8⟩
            rw [hget' _ hnone, if_neg (by omega), Nat.add_sub_cancel_left, hi]
  have hgs : ∀ j b, gs j = some b → j < rs.length → w.heap.size ≤ b := by
    intro j b q hj
    obtain ⟨v, hv⟩ := hidx j rs[j] (List.getElem?_eq_getElem hj)
    have h6 := h5 j rs[j] v (List.getElem?_eq_getElem hj) hv
    rw [q] at h6
    generalize rs[j] = r at h6
    cases h6 with
    | row ty sz es g c arr hB hh hc => exact hB
  have hst : Stay w w' (Owned X0 m s.hp) (Owned X0 m' (hps s.nx rs ++ s.hp)) := by
    intro b hb hn
    refine ⟨h3.block b hb, fun ho => ?_⟩
    rcases (hown' b).1 ho with h6 | ⟨j, hj, h6⟩
    · exact hn h6
    · have := hgs j b h6 hj
      omega
  -- data of the results read in the new state
  have hread : ∀ (r : RV), r ∈ rs → ∀ d v, (r.flat → d.sc) → Rd w' (fun b => X b ∨ ∃ j, gs j = some b) d v → Rd w' (Owned X0 m' (hps s.nx rs ++ s.hp)) d v := by
    intro r hr d v hf h
    rcases hX with hX | hX
    · refine h.mono fun b _ hn => ⟨rfl, fun ho => hn ?_⟩
      rcases (hown' b).1 ho with h6 | ⟨j, _, h6⟩
      · exact .inl ((hX b).2 h6)
      · exact .inr ⟨j, h6⟩
    · exact h.sc (hf (hX r hr))
  have hrow : ∀ ty sz es arr c, RV.row ty sz es ∈ rs → (Blk.row ty sz es).cellsOk (fun _ => none) (fun b => X b ∨ ∃ j, gs j = some b) w' arr c → (Blk.row ty sz es).cellsOk m' (Owned X0 m' (hps s.nx rs ++ s.hp)) w' arr c := by
    intro ty sz es arr c hm hc
    exact ⟨hc.1, hc.2.1, hc.2.2.1, hc.2.2.2.1, fun k e j d u he hd hu => hread _ hm d u (fun hf => hf e (List.mem_of_getElem? he) d (List.mem_of_getElem? hd)) (hc.2.2.2.2 k e j d u he hd hu)⟩
  have hpv : ∀ i r v, rs[i]? = some r → vs[i]? = some v → R m' (Owned X0 m' (hps s.nx rs ++ s.hp)) w' (pv1 (s.nx + i) r) v := by
    intro i r v hi hv
    have hmem := List.mem_of_getElem? hi
    cases r with
    | d x =>
      have h6 := h5 i _ v hi hv
      generalize gs i = g0 at h6
      cases h6 with
      | d _ _ h => exact .d _ _ (hread _ hmem x v (fun hf => hf) h)
    | agg ds =>
      have h6 := h5 i _ v hi hv
      generalize gs i = g0 at h6
      cases h6 with
      | agg _ us hl h =>
        refine .agg _ _ (by simpa using hl) fun j y u hy hu => ?_
        rw [List.getElem?_map] at hy
        cases hj : ds[j]? with
        | none => rw [hj] at hy; cases hy
        | some d =>
          rw [hj] at hy
          cases hy
          exact .d _ _ (hread _ hmem d u (fun hf => hf d (List.mem_of_getElem? hj)) (h j d u hj hu))
    | row ty sz es =>
      obtain ⟨v', hv', h6⟩ := hnew i ty sz es hi
      rw [hv] at hv'
      cases hv'
      rcases h6 with ⟨rfl, rfl, h7, _⟩ | ⟨g, c, arr, rfl, h7, _, _, _, hc⟩
      · exact .rowN _ h7
      · exact .rowB _ _ _ _ h7 hc.2.1
  refine ⟨m', retV vs, h1, hs.step hm ⟨h3.os, h3.tape, h3.output, h3.size, fun k hk => h3.block k (by have := hs.below.size; omega)⟩ hst ?_ ?_ ?_ ?_, ?_⟩
  · intro id blk hid
    rw [hget' id hnone] at hid
    by_cases hlt : id < s.nx
    · rw [if_pos hlt] at hid
      obtain ⟨l, q1, q2⟩ := hs.hp id blk hid
      refine ⟨l, by rw [hmold id hlt]; exact q1, q2.mono hm hst fun b c e => ?_⟩
      subst e
      exact h3.block b (hs.own id blk b c hid q1).2
    · rw [if_neg hlt] at hid
      split at hid
      · rename_i ty sz es hr
        cases hid
        obtain ⟨v, _, h6⟩ := hnew _ ty sz es hr
        rw [show s.nx + (id - s.nx) = id by omega] at h6
        rcases h6 with ⟨h7, _, h8, _⟩ | ⟨g, c, arr, _, h8, _, _, hh, hc⟩
        · exact ⟨_, h8, h7⟩
        · exact ⟨_, h8, arr, hh, hrow ty sz es arr c (List.mem_of_getElem? hr) hc⟩
      · cases hid
  · have hloc : ∀ id blk b c, hget (hps s.nx rs ++ s.hp) id = some blk → m' id = some (.blk b c) → (id < s.nx ∧ hget s.hp id = some blk ∧ m id = some (.blk b c) ∧ b < w.heap.size) ∨ (s.nx ≤ id ∧ gs (id - s.nx) = some b ∧ w.heap.size ≤ b) := by
      intro id blk b c q1 q2
      rw [hget' id hnone] at q1
      by_cases hlt : id < s.nx
      · rw [if_pos hlt] at q1
        rw [hmold id hlt] at q2
        exact .inl ⟨hlt, q1, q2, (hs.own id blk b c q1 q2).2⟩
      · rw [if_neg hlt] at q1
        split at q1
        · rename_i ty sz es hr
          obtain ⟨v, _, h6⟩ := hnew _ ty sz es hr
          rw [show s.nx + (id - s.nx) = id by omega] at h6
          rcases h6 with ⟨_, _, h8, _⟩ | ⟨g, c', arr, _, h8, h9, h10, _⟩
          · rw [q2] at h8; cases h8
          · rw [q2] at h8
            cases h8
            exact .inr ⟨by omega, h9, h10⟩
        · cases q1
    intro id id' blk blk' b c c' q1 q2 q3 q4
    rcases hloc id blk b c q1 q3 with ⟨a1, a2, a3, a4⟩ | ⟨a1, a2, a3⟩
    · rcases hloc id' blk' b c' q2 q4 with ⟨b1, b2, b3, b4⟩ | ⟨b1, b2, b3⟩
      · exact hs.inj id id' blk blk' b c c' a2 b2 a3 b3
      · omega
    · rcases hloc id' blk' b c' q2 q4 with ⟨b1, b2, b3, b4⟩ | ⟨b1, b2, b3⟩
      · omega
      · have := h4 _ _ b a2 b2
        omega
  · intro id blk b c q1 q2
    rw [hget' id hnone] at q1
    by_cases hlt : id < s.nx
    · rw [if_pos hlt] at q1
      rw [hmold id hlt] at q2
      have := hs.own id blk b c q1 q2
      exact ⟨this.1, Nat.lt_of_lt_of_le this.2 h3.size⟩
    · rw [if_neg hlt] at q1
      split at q1
      · rename_i ty sz es hr
        obtain ⟨v, _, h6⟩ := hnew _ ty sz es hr
        rw [show s.nx + (id - s.nx) = id by omega] at h6
        rcases h6 with ⟨_, _, h8, _⟩ | ⟨g, c', arr, _, h8, h9, h10, hh, _⟩
        · rw [q2] at h8; cases h8
        · rw [q2] at h8
          cases h8
          refine ⟨Nat.le_trans hs.below.size h10, ?_⟩
          rcases Nat.lt_or_ge b w'.heap.size with h | h
          · exact h
          · rw [Array.getElem?_eq_none h] at hh; cases hh
      · cases q1
  · intro id hid
    have h6 : rs[id - s.nx]? = none := List.getElem?_eq_none (by omega)
    have h7 : m' id = match vs[id - s.nx]?, rs[id - s.nx]? with
      | some (.slice (some ad) _ c), some (.row _ _ _) => some (.blk ad.block c)
      | some (.slice none _ _), some (.row _ _ _) => some .nil
      | _, _ => none := if_neg (by omega)
    rw [h7, h6]
    cases vs[id - s.nx]? with
    | none => rfl
    | some v =>
      cases v <;> try rfl
      rename_i A _ _
      cases A <;> rfl
  · have hl : (pvs s.nx rs).length = vs.size := by rw [pvs_len, h2]
    have htup : R m' (Owned X0 m' (hps s.nx rs ++ s.hp)) w' (.tup (pvs s.nx rs)) (.tuple vs) := by
      refine .tup _ _ hl.symm fun i y u hy hu => ?_
      rw [pvs_get] at hy
      cases hi : rs[i]? with
      | none => rw [hi] at hy; cases hy
      | some r =>
        rw [hi] at hy
        cases hy
        exact hpv i r u hi hu
    cases rs with
    | nil =>
      have : ¬ vs.size = 1 := by rw [h2]; simp
      simp only [retV, this, dif_neg, not_false_eq_true]
      exact htup
    | cons r rest =>
      cases rest with
      | nil =>
        have h1' : vs.size = 1 := by rw [h2]; rfl
        simp only [retV, h1', dif_pos]
        exact hpv 0 r vs[0] rfl (by simp [h1'])
      | cons r2 rest =>
        have : ¬ vs.size = 1 := by rw [h2]; simp
        simp only [retV, this, dif_neg, not_false_eq_true]
        exact htup

theorem po_call {f : Operand} {args : Array Operand} {argTypes : Array TypeId} {fid : FuncId} {caps : List PV} {Post : List RV → Prop} (ho : o.op = .call { callee := .value f, args := args, argTypes := argTypes }) (hf : s.get f = .fn fid caps)
    (hok : FnOK P fid ((args.toList.map s.get ++ caps).map (ta2 s.hp)) Post)
    (hK : ∀ rs, Post rs → ((args.toList.map s.get ++ caps).any rf2 = true → ∀ r ∈ rs, r.flat) ∧ K (AS.put ⟨s.fr, hps s.nx rs ++ s.hp, s.nx + rs.length⟩ o.dst (resPV s.nx rs))) : PO P o s K := by
  intro X0 w0 m a w Q hs
  obtain ⟨⟨fn, e1, e2, e3⟩, hcall⟩ := hok
  have hfv := hs.get f
  rw [hf] at hfv
  obtain ⟨vs, hl, hvs, hfe⟩ : ∃ vs : Array Value, vs.size = caps.length ∧ (∀ (i : Nat) (x : PV) (v : Value), caps[i]? = some x → vs[i]? = some v → R m (Owned X0 m s.hp) w x v) ∧ a.eval f = .func (.func fid) #[] vs := by
    generalize a.eval f = v at hfv
    cases hfv with
    | fn _ _ vs hl h => exact ⟨vs, hl, h, rfl⟩
  have hrun : (execOp a.eval o).run P w = .ok (.enter fid (args.map a.eval ++ vs)) w := by
    have e2' : ¬ fn.name = "runtime.NumGoroutine" := by simpa using e2
    have e3' : ¬ fn.body = none := fun h => by rw [h] at e3; cases e3
    simp [execOp, ho, resolve, hfe, Deferred.ofValue, invoke, callFunc, e1]
    rw [if_neg e2', if_neg e3']
  unfold Oper.wp
  rw [hrun]
  simp only [Oper.upon_enter]
  have hxb : ∀ b, Owned X0 m s.hp b → b < w.heap.size := by
    rintro b (hx | ⟨id, blk, c, h1, h2⟩)
    · have := hs.x0 b hx
      have := hs.below.size
      omega
    · exact (hs.own id blk b c h1 h2).2
  have hall : ∀ (i : Nat) (x : PV) (v : Value), (args.toList.map s.get ++ caps)[i]? = some x → (args.map a.eval ++ vs)[i]? = some v → R m (Owned X0 m s.hp) w x v := by
    intro i x v hx hv
    by_cases hi : i < args.size
    · rw [List.getElem?_append_left (by simpa using hi), List.getElem?_map] at hx
      rw [Array.getElem?_append_left (by simpa using hi), Array.getElem?_map] at hv
      have h6 : args[i]? = some args[i] := by simp [hi]
      have h7 : args.toList[i]? = some args[i] := by simp [hi]
      rw [h6] at hv
      rw [h7] at hx
      cases hv
      cases hx
      exact hs.get _
    · rw [List.getElem?_append_right (by simp; omega)] at hx
      rw [Array.getElem?_append_right (by simp; omega)] at hv
      simp only [List.length_map, Array.length_toList] at hx
      simp only [Array.size_map] at hv
      exact hvs _ x v hx hv
  have key : ∀ X', (∀ b, X' b → b < w.heap.size) → Stay w w (Owned X0 m s.hp) X' → ((args.toList.map s.get ++ caps).any rf2 = true → ∀ b, ¬ X' b) → Calls P fid (args.map a.eval ++ vs) w fun e w' => ∃ rs, Post rs ∧ Res X' w rs e w' := by
    intro X' h1 h2 h3
    refine hcall w X' _ h1 (by simp [hl]) fun i x v hx hv => ?_
    rw [List.getElem?_map] at hx
    cases hi : (args.toList.map s.get ++ caps)[i]? with
    | none => rw [hi] at hx; cases hx
    | some y =>
      rw [hi] at hx
      cases hx
      exact ta2_R hs h2 (fun hr => h3 (by rw [List.any_eq_true]; exact ⟨y, List.mem_of_getElem? hi, hr⟩)) (hall i y v hi hv)
  cases hrf : (args.toList.map s.get ++ caps).any rf2 with
  | false =>
    refine (key (Owned X0 m s.hp) hxb (Stay.refl _ _) (fun h => by rw [hrf] at h; cases h)).mono ?_
    rintro e w' ⟨rs, h1, h2⟩
    obtain ⟨m', v, h3, h4, h5⟩ := hs.take h2 (.inl fun b => Iff.rfl)
    subst h3
    exact ⟨m', _, (hK rs h1).2, h4.put h5 o.dst⟩
  | true =>
    refine (key (fun _ => False) (fun b h => h.elim) (fun b _ _ => ⟨rfl, fun h => h⟩) (fun _ b h => h)).mono ?_
    rintro e w' ⟨rs, h1, h2⟩
    obtain ⟨m', v, h3, h4, h5⟩ := hs.take h2 (.inr ((hK rs h1).1 hrf))
    subst h3
    exact ⟨m', _, (hK rs h1).2, h4.put h5 o.dst⟩
end rules
end Go.Proofs.Ytbfnhhomlpkcnaa
