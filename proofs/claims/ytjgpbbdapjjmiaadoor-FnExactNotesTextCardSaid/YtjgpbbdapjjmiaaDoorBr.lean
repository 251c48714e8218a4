/-
  From contracts of the abstract machine to contracts over memory.
-/
import Derived.Test.YtjgpbbdapjjmiaaDoorG
import Derived.Test.YtjgpbbdapjjmiaaDoorSmall
namespace Go.Proofs.YtjgpbbdapjjmiaaDoor
open Go.RowKit

theorem FnOK.calls {P : Program} {f : FuncId} {args : List PV} {Post : List RV → Prop} (h : FnOK P f args Post) (w : World) (hGL : GL w) (vals : Array Value) (hl : vals.size = args.length)
    (ha : ∀ (i : Nat) (x : PV) (v : Value), args[i]? = some x → vals[i]? = some v → R (fun _ => none) (fun _ => False) w x v) : Calls P f vals w fun e w' => ∃ rs, Post rs ∧ Res (fun _ => False) w rs e w' :=
  h.2 w (fun _ => False) vals hGL (fun _ h => h.elim) hl ha

/-- values and plain data of one kind of element -/
structure EncOK {α : Type} (enc : α → List Value) (dat : α → List D) (sz : Nat) : Prop where
  len : ∀ x, (enc x).length = sz
  dlen : ∀ x, (dat x).length = sz
  to_ : ∀ x (j : Nat) d u, (dat x)[j]? = some d → (enc x)[j]? = some u → ∀ w X, Rd w X d u
  of_ : ∀ x (j : Nat) d u, (dat x)[j]? = some d → (enc x)[j]? = some u → ∀ w X v, Rd w X d v → v = u
section
variable {α : Type} {enc : α → List Value} {dat : α → List D} {sz : Nat}
theorem EncOK.get (h : EncOK enc dat sz) (x : α) {j : Nat} {d : D} (hd : (dat x)[j]? = some d) : ∃ u, (enc x)[j]? = some u := by
  have hj := (List.getElem?_eq_some_iff.1 hd).1
  rw [h.dlen] at hj
  exact ⟨_, List.getElem?_eq_getElem (by rw [h.len]; exact hj)⟩
theorem rd_of_reads (h : EncOK enc dat sz) {w : World} {A : Option Addr} {c : Nat} {xs : List α} (hr : RdS enc sz w A xs) (hc : xs.length ≤ c) : Rd w (fun _ => False) (.lst sz (xs.map dat)) (.slice A xs.length c) := by
  obtain ⟨b, off, hA, hcell⟩ := hr
  cases hx : xs with
  | nil => exact .nil _ _ _
  | cons x0 xr =>
    rw [← hx]
    have hA' := hA (by rw [hx]; simp)
    subst hA'
    rw [← List.length_map (f := dat)]
    have key : ∀ (k : Nat) e (j : Nat) d, (xs.map dat)[k]? = some e → e[j]? = some d → ∃ u, w.cell? ⟨b, off + (k * sz + j), none⟩ = some u ∧ Rd w (fun _ => False) d u := by
      intro k e j d he hd
      rw [List.getElem?_map] at he
      cases hk : xs[k]? with
      | none => rw [hk] at he; cases he
      | some x =>
        rw [hk] at he
        cases he
        obtain ⟨u, hu⟩ := h.get x hd
        have := hcell k x hk j u hu
        rw [Nat.add_assoc] at this
        exact ⟨u, this, h.to_ x j d u hd hu w _⟩
    refine .lst _ _ _ _ _ (by rw [List.length_map]; exact hc) (fun e he => ?_) (fun k e j d he hd => ⟨fun h => h, ?_⟩) (fun k e j d v he hd hv => ?_)
    · obtain ⟨x, _, rfl⟩ := List.mem_map.1 he; exact h.dlen x
    · obtain ⟨u, h1, _⟩ := key k e j d he hd; exact ⟨u, h1⟩
    · obtain ⟨u, h1, h2⟩ := key k e j d he hd
      rw [hv] at h1
      cases h1
      exact h2
theorem rd_of_own (h : EncOK enc dat sz) {w : World} {E : TypeId} {B : Nat} {A : Option Addr} {n c : Nat} {xs : List α} (ho : OwnS enc sz E w B (.slice A n c) xs) : Rd w (fun _ => False) (.lst sz (xs.map dat)) (.slice A n c) := by
  obtain ⟨A', c', hv, hr⟩ := ho.slice h.len
  have hc := ho.cap
  cases hv
  exact rd_of_reads h hr hc
theorem own_of_rr (h : EncOK enc dat sz) {Y : Nat → Prop} {B : Nat} {w : World} {ty : TypeId} {xs : List α} {v : Value} {g : Nat → Prop} (hr : RR Y B w (.row ty sz (xs.map dat)) v g) : OwnS enc sz ty w B v xs := by
  generalize hes : xs.map dat = es at hr
  generalize hrv : RV.row ty sz es = r at hr
  cases hr with
  | d => cases hrv
  | agg => cases hrv
  | dnil => cases hrv
  | deep => cases hrv
  | nil =>
    cases hrv
    have : xs = [] := by simpa using hes
    subst this
    exact OwnS.nil_
  | row _ _ es' g c arr hB hh hc =>
    cases hrv
    subst hes
    obtain ⟨h1, h2, h3, h4, h5⟩ := hc
    rw [List.length_map] at h2 ⊢
    refine ⟨flat_len h.len xs, .inr ⟨g, c, arr, rfl, hB, hh, h2, h3, h1, ?_⟩⟩
    have hle : xs.length * sz ≤ c * sz := Nat.mul_le_mul_right _ h2
    apply List.ext_getElem?
    intro j
    rw [List.getElem?_take]
    split
    · rename_i hj
      have hjf : j < (xs.flatMap enc).length := by rw [flat_len h.len]; exact hj
      have hf := List.getElem?_eq_getElem hjf
      obtain ⟨k, x, r, e1, hk, hr⟩ := flat_inv h.len xs j _ hf
      have hrlt : r < sz := by rw [← h.len x]; exact (List.getElem?_eq_some_iff.1 hr).1
      have hd := List.getElem?_eq_getElem (show r < (dat x).length by rw [h.dlen]; exact hrlt)
      have hja : j < arr.size := by rw [h1]; omega
      have := h5 k (dat x) r _ arr[j] (by rw [List.getElem?_map, hk]; rfl) hd (by rw [← e1]; simp [hja])
      have := h.of_ x r _ _ hd hr _ _ _ this
      rw [hf, ← this]
      simp [hja]
    · rename_i hj
      rw [List.getElem?_eq_none (by rw [flat_len h.len]; omega)]
/-- slices of slices -/
theorem rdL_of_own (h : EncOK enc dat sz) {w : World} {E EO : TypeId} {B : Nat} {A : Option Addr} {n c : Nat} {xss : List (List α)} (ho : OwnL enc sz E EO w B (.slice A n c) xss) : Rd w (fun _ => False) (.lst 1 (xss.map fun xs => [.lst sz (xs.map dat)])) (.slice A n c) := by
  obtain ⟨vs, h1, h2, _⟩ := ho
  rcases h1.2 with ⟨hv, hn⟩ | ⟨g, cap, cur, hv, hb, hh, hc, hm, hs, ht⟩
  · have : xss = [] := List.eq_nil_of_length_eq_zero hn
    subst this
    cases hv
    exact .nil _ _ _
  · cases hv
    rw [Nat.mul_one] at ht
    have key : ∀ (k : Nat) e (j : Nat) d, (xss.map fun xs => [D.lst sz (xs.map dat)])[k]? = some e → e[j]? = some d → ∃ u, w.cell? ⟨g, 0 + (k * 1 + j), none⟩ = some u ∧ Rd w (fun _ => False) d u := by
      intro k e j d he hd
      rw [List.getElem?_map] at he
      cases hk : xss[k]? with
      | none => rw [hk] at he; cases he
      | some xs =>
        rw [hk] at he
        cases he
        cases j with
        | succ j => simp at hd
        | zero =>
          simp at hd
          subst hd
          obtain ⟨u, hu, ho⟩ := h2 k xs hk
          have hklt : k < xss.length := (List.getElem?_eq_some_iff.1 hk).1
          rw [← ht, List.getElem?_take_of_lt hklt] at hu
          obtain ⟨A', c', rfl, hr⟩ := ho.slice h.len
          refine ⟨_, ?_, rd_of_own h ho⟩
          simp only [World.cell?, hh, Nat.zero_add, Nat.mul_one, Nat.add_zero]
          simpa using hu
    rw [← List.length_map (f := fun xs => [D.lst sz (xs.map dat)])]
    refine .lst _ _ _ _ _ (by rw [List.length_map]; exact hc) (fun e he => ?_) (fun k e j d he hd => ⟨fun h => h, ?_⟩) (fun k e j d v he hd hv => ?_)
    · obtain ⟨x, _, rfl⟩ := List.mem_map.1 he; rfl
    · obtain ⟨u, q1, _⟩ := key k e j d he hd; exact ⟨u, q1⟩
    · obtain ⟨u, q1, q2⟩ := key k e j d he hd
      rw [hv] at q1
      cases q1
      exact q2
end

def datI (x : Int) : List D := [.int .i64 x]
theorem datI_ok : EncOK encI datI 1 := by
  refine ⟨fun _ => rfl, fun _ => rfl, fun x j d u hd hu w X => ?_, fun x j d u hd hu w X v hv => ?_⟩
  · cases j with
    | zero => simp [datI, encI] at hd hu; subst hd hu; exact .int _ _
    | succ j => simp [datI] at hd
  · cases j with
    | zero => simp [datI, encI] at hd hu; subst hd hu; cases hv; rfl
    | succ j => simp [datI] at hd

theorem rr_int {Y : Nat → Prop} {B : Nat} {w : World} {k : IntKind} {n : Int} {v : Value} {g : Nat → Prop} (h : RR Y B w (.d (.int k n)) v g) : v = .int k n := by
  cases h with
  | d _ _ h => cases h; rfl
theorem rr_bool {Y : Nat → Prop} {B : Nat} {w : World} {b : Bool} {v : Value} {g : Nat → Prop} (h : RR Y B w (.d (.bool b)) v g) : v = .bool b := by
  cases h with
  | d _ _ h => cases h; rfl
/-- results, taken apart -/
theorem Res.one {X : Nat → Prop} {w : World} {r : RV} {e : Ending} {w' : World} (h : Res X w [r] e w') : ∃ Y v g, e = .returned v ∧ RR Y w.heap.size w' r v g ∧ Below w.heap.size w w' := by
  obtain ⟨vs, gs, h1, h2, h3, _, h5⟩ := h
  have h1' : vs.size = 1 := h2
  exact ⟨_, vs[0], gs 0, by rw [h1]; simp only [retV, h1', dif_pos], h5 0 r vs[0] rfl (by simp [h1']), h3.toBelow⟩
theorem Res.two {X : Nat → Prop} {w : World} {r0 r1 : RV} {e : Ending} {w' : World} (h : Res X w [r0, r1] e w') : ∃ Y v0 v1 g0 g1, e = .returned (.tuple #[v0, v1]) ∧ RR Y w.heap.size w' r0 v0 g0 ∧ RR Y w.heap.size w' r1 v1 g1 ∧ Below w.heap.size w w' := by
  obtain ⟨vs, gs, h1, h2, h3, _, h5⟩ := h
  have h2' : vs.size = 2 := h2
  have hne : ¬ vs.size = 1 := by omega
  refine ⟨_, vs[0], vs[1], gs 0, gs 1, ?_, h5 0 r0 vs[0] rfl (by simp [h2']), h5 1 r1 vs[1] rfl (by simp [h2']), h3.toBelow⟩
  rw [h1]
  simp only [retV, hne, dif_neg, not_false_eq_true]
  congr 2
  apply Array.ext
  · simp [h2']
  · intro i hi hi2
    have : i = 0 ∨ i = 1 := by simp at hi2; omega
    rcases this with rfl | rfl <;> simp
theorem Res.three {X : Nat → Prop} {w : World} {r0 r1 r2 : RV} {e : Ending} {w' : World} (h : Res X w [r0, r1, r2] e w') : ∃ Y v0 v1 v2 g0 g1 g2, e = .returned (.tuple #[v0, v1, v2]) ∧ RR Y w.heap.size w' r0 v0 g0 ∧ RR Y w.heap.size w' r1 v1 g1 ∧ RR Y w.heap.size w' r2 v2 g2 ∧ Below w.heap.size w w' := by
  obtain ⟨vs, gs, h1, h2, h3, _, h5⟩ := h
  have h2' : vs.size = 3 := h2
  have hne : ¬ vs.size = 1 := by omega
  refine ⟨_, vs[0], vs[1], vs[2], gs 0, gs 1, gs 2, ?_, h5 0 r0 vs[0] rfl (by simp [h2']), h5 1 r1 vs[1] rfl (by simp [h2']), h5 2 r2 vs[2] rfl (by simp [h2']), h3.toBelow⟩
  rw [h1]
  simp only [retV, hne, dif_neg, not_false_eq_true]
  congr 2
  apply Array.ext
  · simp [h2']
  · intro i hi hi2
    have : i = 0 ∨ i = 1 ∨ i = 2 := by simp at hi2; omega
    rcases this with rfl | rfl | rfl <;> simp
/-- two results lie apart -/
def apartB (v v' : Value) : Prop := v.ownBlock = none ∨ v.ownBlock ≠ v'.ownBlock
theorem apartB.symm {v v' : Value} (h : apartB v v') : apartB v' v := by
  rcases h with h | h
  · by_cases e : v'.ownBlock = none
    · exact .inl e
    · exact .inr (by rw [h]; exact e)
  · exact .inr (Ne.symm h)
theorem rr_block {Y : Nat → Prop} {B : Nat} {w : World} {ty : TypeId} {sz : Nat} {es : List (List D)} {v : Value} {g : Nat → Prop} (h : RR Y B w (.row ty sz es) v g) : ∀ b, v.ownBlock = some b → g b := by
  generalize hr : RV.row ty sz es = r at h
  cases h with
  | nil => intro b hb; cases hb
  | row => intro b hb; cases hb; rfl
  | _ => cases hr
def Ret3a (R0 R1 R2 : World → Nat → Value → Prop) (w : World) (e : Ending) (w' : World) : Prop :=
  ∃ v0 v1 v2, e = .returned (.tuple #[v0, v1, v2]) ∧ R0 w' w.heap.size v0 ∧ R1 w' w.heap.size v1 ∧ R2 w' w.heap.size v2 ∧ apartB v0 v1 ∧ Below w.heap.size w w'
theorem Res.three2 {X : Nat → Prop} {w : World} {t0 t1 z0 z1 : Nat} {e0 e1 : List (List D)} {r2 : RV} {e : Ending} {w' : World} (h : Res X w [.row t0 z0 e0, .row t1 z1 e1, r2] e w') : ∃ Y v0 v1 v2 g0 g1 g2, e = .returned (.tuple #[v0, v1, v2]) ∧ RR Y w.heap.size w' (.row t0 z0 e0) v0 g0 ∧ RR Y w.heap.size w' (.row t1 z1 e1) v1 g1 ∧ RR Y w.heap.size w' r2 v2 g2 ∧ apartB v0 v1 ∧ Below w.heap.size w w' := by
  obtain ⟨vs, gs, h1, h2, h3, h4, h5⟩ := h
  have h2' : vs.size = 3 := h2
  have hne : ¬ vs.size = 1 := by omega
  have q0 := h5 0 (.row t0 z0 e0) vs[0] rfl (by simp [h2'])
  have q1 := h5 1 (.row t1 z1 e1) vs[1] rfl (by simp [h2'])
  refine ⟨_, vs[0], vs[1], vs[2], gs 0, gs 1, gs 2, ?_, q0, q1, h5 2 r2 vs[2] rfl (by simp [h2']), ?_, h3.toBelow⟩
  · rw [h1]
    simp only [retV, hne, dif_neg, not_false_eq_true]
    congr 2
    apply Array.ext
    · simp [h2']
    · intro i hi hi2
      have : i = 0 ∨ i = 1 ∨ i = 2 := by simp at hi2; omega
      rcases this with rfl | rfl | rfl <;> simp
  · unfold apartB
    cases hg : vs[0].ownBlock with
    | none => exact .inl rfl
    | some g => exact .inr fun e => absurd (h4 0 1 g (rr_block q0 g hg) (rr_block q1 g e.symm)) (by omega)
theorem OwnS.keptBy {α : Type} {enc : α → List Value} {sz : Nat} {E : TypeId} {w w' : World} {B : Nat} {v u : Value} {xs : List α} (h : OwnS enc sz E w B v xs) (hg : w.grownBy w' u.ownBlock) (ha : apartB v u) : OwnS enc sz E w' B v xs :=
  World.ownsRow.kept h hg ha
theorem args1 {m : Nat → Option Loc} {X : Nat → Prop} {w : World} {x0 : PV} {v0 : Value} (h0 : R m X w x0 v0) : ∀ (i : Nat) (x : PV) (v : Value), [x0][i]? = some x → #[v0][i]? = some v → R m X w x v := by
  intro i x v hx hv
  match i with
  | 0 => simp at hx hv; subst hx hv; exact h0
  | i + 1 => simp at hx
theorem args2 {m : Nat → Option Loc} {X : Nat → Prop} {w : World} {x0 x1 : PV} {v0 v1 : Value} (h0 : R m X w x0 v0) (h1 : R m X w x1 v1) : ∀ (i : Nat) (x : PV) (v : Value), [x0, x1][i]? = some x → #[v0, v1][i]? = some v → R m X w x v := by
  intro i x v hx hv
  match i with
  | 0 => simp at hx hv; subst hx hv; exact h0
  | 1 => simp at hx hv; subst hx hv; exact h1
  | i + 2 => simp at hx
theorem args3 {m : Nat → Option Loc} {X : Nat → Prop} {w : World} {x0 x1 x2 : PV} {v0 v1 v2 : Value} (h0 : R m X w x0 v0) (h1 : R m X w x1 v1) (h2 : R m X w x2 v2) : ∀ (i : Nat) (x : PV) (v : Value), [x0, x1, x2][i]? = some x → #[v0, v1, v2][i]? = some v → R m X w x v := by
  intro i x v hx hv
  match i with
  | 0 => simp at hx hv; subst hx hv; exact h0
  | 1 => simp at hx hv; subst hx hv; exact h1
  | 2 => simp at hx hv; subst hx hv; exact h2
  | i + 3 => simp at hx
theorem args4 {m : Nat → Option Loc} {X : Nat → Prop} {w : World} {x0 x1 x2 x3 : PV} {v0 v1 v2 v3 : Value} (h0 : R m X w x0 v0) (h1 : R m X w x1 v1) (h2 : R m X w x2 v2) (h3 : R m X w x3 v3) : ∀ (i : Nat) (x : PV) (v : Value), [x0, x1, x2, x3][i]? = some x → #[v0, v1, v2, v3][i]? = some v → R m X w x v := by
  intro i x v hx hv
  match i with
  | 0 => simp at hx hv; subst hx hv; exact h0
  | 1 => simp at hx hv; subst hx hv; exact h1
  | 2 => simp at hx hv; subst hx hv; exact h2
  | 3 => simp at hx hv; subst hx hv; exact h3
  | i + 4 => simp at hx
/-- the answer where V holds -/
noncomputable def optP {β : Type} (V : Prop) (F : β) : Option β := if bP V = true then some F else none
theorem optP_pos {β : Type} {V : Prop} {F : β} (h : V) : optP V F = some F := by unfold optP; rw [if_pos (bP_true h)]
theorem optP_neg {β : Type} {V : Prop} {F : β} (h : ¬ V) : optP V F = none := by unfold optP; rw [if_neg]; rw [bP_false h]; simp
end Go.Proofs.YtjgpbbdapjjmiaaDoor
