/-
  From contracts of the abstract machine to contracts over memory.
-/
import Derived.Test.YtphakidbddamfaaGreatZG
import Derived.Test.YtphakidbddamfaaGreatZSmall
import Derived.Test.YtphakidbddamfaaGreatZM11
import Derived.Laws.BytesArg
namespace Go.Proofs.YtphakidbddamfaaGreat
open Go.RowKit

theorem FnOK.calls {P : Program} {f : FuncId} {args : List PV} {Post : List RV → Prop} (h : FnOK P f args Post) (w : World) (vals : Array Value) (hl : vals.size = args.length)
    (ha : ∀ (i : Nat) (x : PV) (v : Value), args[i]? = some x → vals[i]? = some v → R (fun _ => none) (fun _ => False) w x v) : Calls P f vals w fun e w' => ∃ rs, Post rs ∧ Res (fun _ => False) w rs e w' :=
  h.2 w (fun _ => False) vals (fun _ h => h.elim) hl ha

/-- values and plain data of one kind of element -/
structure EncOK {α : Type} (enc : α → List Value) (dat : α → List D) (sz : Nat) : Prop where
  len : ∀ x, (enc x).length = sz
  dlen : ∀ x, (dat x).length = sz
  to_ : ∀ x (j : Nat) d u, (dat x)[j]? = some d → (enc x)[j]? = some u → ∀ w X, Rd w X d u
  of_ : ∀ x (j : Nat) d u, (dat x)[j]? = some d → (enc x)[j]? = some u → ∀ w X v, Rd w X d v → v = u
section
variable {α : Type} {enc : α → List Value} {dat : α → List D} {sz : Nat}
theorem EncOK.get (h : EncOK enc dat sz) (x : α) {j : Nat} {d : D} (hd : (dat x)[j]? = some d) : ∃ u, (enc x)[j]? = some u := by
  have hj := (List.getElem?_eq_some_iff.1 hd).1
  rw [h.dlen] at hj
  exact ⟨_, List.getElem?_eq_getElem (by rw [h.len]; exact hj)⟩
end

def datI (x : Int) : List D := [.int .i64 x]
theorem rr_bool {Y : Nat → Prop} {B : Nat} {w : World} {b : Bool} {v : Value} {g : Nat → Prop} (h : RR Y B w (.d (.bool b)) v g) : v = .bool b := by
  cases h with
  | d _ _ h => cases h; rfl
/-- results, taken apart -/
theorem Res.one {X : Nat → Prop} {w : World} {r : RV} {e : Ending} {w' : World} (h : Res X w [r] e w') : ∃ Y v g, e = .returned v ∧ RR Y w.heap.size w' r v g ∧ Below w.heap.size w w' := by
  obtain ⟨vs, gs, h1, h2, h3, _, h5⟩ := h
  have h1' : vs.size = 1 := h2
  exact ⟨_, vs[0], gs 0, by rw [h1]; simp only [retV, h1', dif_pos], h5 0 r vs[0] rfl (by simp [h1']), h3.toBelow⟩
/-- two results lie apart -/
def apartB (v v' : Value) : Prop := v.ownBlock = none ∨ v.ownBlock ≠ v'.ownBlock
theorem apartB.symm {v v' : Value} (h : apartB v v') : apartB v' v := by
  rcases h with h | h
  · by_cases e : v'.ownBlock = none
    · exact .inl e
    · exact .inr (by rw [h]; exact e)
  · exact .inr (Ne.symm h)
theorem args4 {m : Nat → Option Loc} {X : Nat → Prop} {w : World} {x0 x1 x2 x3 : PV} {v0 v1 v2 v3 : Value} (h0 : R m X w x0 v0) (h1 : R m X w x1 v1) (h2 : R m X w x2 v2) (h3 : R m X w x3 v3) : ∀ (i : Nat) (x : PV) (v : Value), [x0, x1, x2, x3][i]? = some x → #[v0, v1, v2, v3][i]? = some v → R m X w x v := by
  intro i x v hx hv
  match i with
  | 0 => simp at hx hv; subst hx hv; exact h0
  | 1 => simp at hx hv; subst hx hv; exact h1
  | 2 => simp at hx hv; subst hx hv; exact h2
  | 3 => simp at hx hv; subst hx hv; exact h3
  | i + 4 => simp at hx
end Go.Proofs.YtphakidbddamfaaGreat

/-
  Arguments of any shape, opened as plain data; reading facts that a walk carries along. No program is named here.
-/
namespace Go.Proofs.YtphakidbddamfaaGreat
open Go.ChangeShapes Go.WideShapes Go.ChangeAt Go.RowKit Go.Deep

section
variable {H : Type} {enc : TypeId × Value → H} {P : Program} {w : World} {base : Nat} {spare : Nat → Bool} {held : Bool}
/-- the cells read as data -/
def CRd (w : World) (ds : List D) (cs : List Value) : Prop := cs.length = ds.length ∧ ∀ (j : Nat) d u, ds[j]? = some d → cs[j]? = some u → Rd w (fun _ => False) d u
/-- a type's cells, opened -/
def OpenK (enc : TypeId × Value → H) (P : Program) (w : World) (base : Nat) (spare : Nat → Bool) (held : Bool) {α : Type} (dat : α → List D) (ok : α → Prop) (t : TypeId) (sz : Nat) : Prop :=
  (∀ x, (dat x).length = sz) ∧ ∀ fuel cs y, DataW.trod enc P w base spare held fuel t cs = some y → ∃ x : α, ok x ∧ CRd w (dat x) cs
theorem OpenK.int {t : TypeId} (ht : P.underlying t = some (.int .i64)) : OpenK enc P w base spare held datI (fun _ => True) t 1 := by
  refine ⟨fun _ => rfl, fun fuel cs y h => ?_⟩
  obtain ⟨n, rfl, _, _⟩ := DataW.trod_int ht h
  refine ⟨n, trivial, rfl, fun j d u hd hu => ?_⟩
  cases j with
  | zero => simp [datI] at hd hu; subst hd hu; exact .int _ _
  | succ j => simp [datI] at hd
def datB (b : Bool) : List D := [.bool b]
theorem OpenK.bool {t : TypeId} (ht : P.underlying t = some .bool) : OpenK enc P w base spare held datB (fun _ => True) t 1 := by
  refine ⟨fun _ => rfl, fun fuel cs y h => ?_⟩
  obtain ⟨n, rfl, _⟩ := DataW.trod_bool ht h
  refine ⟨n, trivial, rfl, fun j d u hd hu => ?_⟩
  cases j with
  | zero => simp [datB] at hd hu; subst hd hu; exact .bool _
  | succ j => simp [datB] at hd
def datS (s : ByteArray) : List D := [.str s]
theorem OpenK.str {t : TypeId} (ht : P.underlying t = some .string) : OpenK enc P w base spare held datS (fun s => s.size ≤ maxLen) t 1 := by
  refine ⟨fun _ => rfl, fun fuel cs y h => ?_⟩
  obtain ⟨n, rfl, _, hl⟩ := DataW.trod_string ht h
  refine ⟨n, hl, rfl, fun j d u hd hu => ?_⟩
  cases j with
  | zero => simp [datS] at hd hu; subst hd hu; exact .str _
  | succ j => simp [datS] at hd
theorem OpenK.map {α β : Type} {dat : α → List D} {ok : α → Prop} {t : TypeId} {sz : Nat} (h : OpenK enc P w base spare held dat ok t sz) (f : α → β) (dat' : β → List D) (ok' : β → Prop) (hl : ∀ y, (dat' y).length = sz) (hd : ∀ x, dat' (f x) = dat x) (ho : ∀ x, ok x → ok' (f x)) : OpenK enc P w base spare held dat' ok' t sz := by
  refine ⟨hl, fun fuel cs y hy => ?_⟩
  obtain ⟨x, h1, h2⟩ := h.2 fuel cs y hy
  exact ⟨f x, ho x h1, by rw [hd]; exact h2⟩
def datL {α : Type} (sz : Nat) (dat : α → List D) (xs : List α) : List D := [.lst sz (xs.map dat)]
theorem OpenK.slc {α : Type} {dat : α → List D} {ok : α → Prop} {t e : TypeId} {sz : Nat} (h : OpenK enc P w base spare held dat ok e sz) (ht : P.underlying t = some (.slice e)) (hC : P.cellsOf e = sz) (hsz : 0 < sz) :
    OpenK enc P w base spare held (datL sz dat) (fun xs => xs.length ≤ maxLen ∧ ∀ x ∈ xs, ok x) t 1 := by
  refine ⟨fun _ => rfl, fun fuel cs y hy => ?_⟩
  rcases open_slice ht hy with ⟨rfl, _⟩ | ⟨a, len, cap, m, n, D', Pl, rfl, hb, hl, hm, hmm, _, hx⟩
  · refine ⟨[], ⟨by simp, by simp⟩, rfl, fun j d u hd hu => ?_⟩
    cases j with
    | zero => simp [datL] at hd hu; subst hd hu; exact .nil _ _ _
    | succ j => simp [datL] at hd
  · have hlm : len ≤ m := by rw [hmm]; split <;> omega
    obtain ⟨xs, hxl, hxs⟩ := exists_list (p := fun i (x : α) => ok x ∧ ∀ (j : Nat) d, (dat x)[j]? = some d → ∃ u, w.cell? ((a.add (i * sz)).add j) = some u ∧ Rd w (fun _ => False) d u) len fun i hi => by
      obtain ⟨cs', h1, h2⟩ := hx i (by omega)
      obtain ⟨x, h3, h4⟩ := h.2 _ _ _ h2
      rw [hC] at h1
      obtain ⟨hcl, _, hc⟩ := World.cells?_some h1
      refine ⟨x, h3, fun j d hd => ?_⟩
      have hj : j < sz := by rw [← h.1 x]; exact (List.getElem?_eq_some_iff.1 hd).1
      have hjc : j < cs'.length := by rw [h4.1, h.1]; exact hj
      refine ⟨cs'[j], by rw [hc j hj]; exact List.getElem?_eq_getElem hjc, h4.2 j d _ hd (List.getElem?_eq_getElem hjc)⟩
    refine ⟨xs, ⟨by omega, fun x hx => ?_⟩, rfl, fun j d u hd hu => ?_⟩
    · obtain ⟨i, hi⟩ := List.getElem?_of_mem hx
      exact (hxs i x hi).1
    · cases j with
      | succ j => simp [datL] at hd
      | zero =>
        simp [datL] at hd hu
        subst hd hu
        obtain ⟨b, off, spot⟩ := a
        rcases Nat.eq_zero_or_pos len with h0 | h0
        · have : xs = [] := List.eq_nil_of_length_eq_zero (by omega)
          subst this
          subst h0
          exact .nil _ _ _
        · have hsp : spot = none := by
            have hd0 := List.getElem?_eq_getElem (show 0 < (dat xs[0]).length by rw [h.1]; exact hsz)
            obtain ⟨u, hu, _⟩ := (hxs 0 xs[0] (List.getElem?_eq_getElem (by omega))).2 0 _ hd0
            simpa [Addr.add] using World.cell?_spot hu
          subst hsp
          have key : ∀ (k : Nat) e (j : Nat) d, (xs.map dat)[k]? = some e → e[j]? = some d → ∃ u, w.cell? ⟨b, off + (k * sz + j), none⟩ = some u ∧ Rd w (fun _ => False) d u := by
            intro k e j d he hd
            rw [List.getElem?_map] at he
            cases hk : xs[k]? with
            | none => rw [hk] at he; cases he
            | some x =>
              rw [hk] at he
              cases he
              obtain ⟨u, h1, h2⟩ := (hxs k x hk).2 j d hd
              have e2 : ((⟨b, off, none⟩ : Addr).add (k * sz)).add j = ⟨b, off + (k * sz + j), none⟩ := by
                unfold Addr.add
                split <;> split <;> simp_all <;> omega
              rw [e2] at h1
              exact ⟨u, h1, h2⟩
          rw [← hxl, ← List.length_map (f := dat)]
          refine .lst _ _ _ _ _ (by rw [List.length_map]; omega) (fun e he => ?_) (fun k e j d he hd => ⟨fun h => h, ?_⟩) (fun k e j d v he hd hv => ?_)
          · obtain ⟨x, _, rfl⟩ := List.mem_map.1 he; exact h.1 x
          · obtain ⟨u, q1, _⟩ := key k e j d he hd; exact ⟨u, q1⟩
          · obtain ⟨u, q1, q2⟩ := key k e j d he hd
            rw [hv] at q1
            cases q1
            exact q2
/-- the fields of a struct, from one on -/
def OpenFs (enc : TypeId × Value → H) (P : Program) (w : World) (base : Nat) (spare : Nat → Bool) (held : Bool) (o : Nat) (fs : List Field) {α : Type} (dat : α → List D) (ok : α → Prop) (sz : Nat) : Prop :=
  (∀ x, (dat x).length = sz) ∧ ∀ cs : List Value, (∀ f ∈ fs, ∃ n y, DataW.trod enc P w base spare held n f.type ((cs.drop f.offset).take (P.cellsOf f.type)) = some y) → ∃ x : α, ok x ∧ ∀ (j : Nat) d u, (dat x)[j]? = some d → cs[o + j]? = some u → Rd w (fun _ => False) d u
theorem OpenFs.nil (o : Nat) : OpenFs enc P w base spare held o [] (fun _ : Unit => []) (fun _ => True) 0 :=
  ⟨fun _ => rfl, fun cs _ => ⟨(), trivial, fun j d u hd _ => by simp at hd⟩⟩
theorem OpenFs.cons {α β : Type} {dat : α → List D} {dat' : β → List D} {ok : α → Prop} {ok' : β → Prop} {o sz sz' : Nat} {f : Field} {fs : List Field} (h : OpenK enc P w base spare held dat ok f.type sz) (ho : f.offset = o) (hC : P.cellsOf f.type = sz) (h' : OpenFs enc P w base spare held (o + sz) fs dat' ok' sz') :
    OpenFs enc P w base spare held o (f :: fs) (fun p : α × β => dat p.1 ++ dat' p.2) (fun p => ok p.1 ∧ ok' p.2) (sz + sz') := by
  refine ⟨fun x => by rw [List.length_append, h.1, h'.1], fun cs hc => ?_⟩
  obtain ⟨n, y, hy⟩ := hc f (by simp)
  obtain ⟨x, h1, h2⟩ := h.2 _ _ _ hy
  obtain ⟨x', h3, h4⟩ := h'.2 cs fun g hg => hc g (List.mem_cons_of_mem _ hg)
  refine ⟨(x, x'), ⟨h1, h3⟩, fun j d u hd hu => ?_⟩
  by_cases hj : j < sz
  · rw [List.getElem?_append_left (by rw [h.1]; exact hj)] at hd
    refine h2.2 j d u hd ?_
    rw [ho, hC, List.getElem?_take_of_lt hj, List.getElem?_drop]
    exact hu
  · rw [List.getElem?_append_right (by rw [h.1]; omega), h.1] at hd
    exact h4 (j - sz) d u hd (by rw [show o + sz + (j - sz) = o + j by omega]; exact hu)
theorem OpenK.st {α : Type} {dat : α → List D} {ok : α → Prop} {t : TypeId} {fs : Array Field} {sz : Nat} (h : OpenFs enc P w base spare held 0 fs.toList dat ok sz) (ht : P.underlying t = some (.struct fs)) (hC : P.cellsOf t = sz) : OpenK enc P w base spare held dat ok t sz := by
  refine ⟨h.1, fun fuel cs y hy => ?_⟩
  obtain ⟨ys, n, _, _, hlen, hyl, hf⟩ := DataW.trod_struct ht hy
  obtain ⟨x, h1, h2⟩ := h.2 cs fun f hfm => by
    obtain ⟨i, hi⟩ := List.getElem?_of_mem hfm
    have hi' : fs[i]? = some f := by simpa using hi
    have hlt : i < ys.length := by rw [hyl]; exact (Array.getElem?_eq_some_iff.1 hi').1
    exact ⟨n, ys[i], by rw [hf i f hi', List.getElem?_eq_getElem hlt]⟩
  exact ⟨x, h1, by rw [hlen, hC, h.1], fun j d u hd hu => h2 j d u hd (by simpa using hu)⟩
end
end Go.Proofs.YtphakidbddamfaaGreat
namespace Go.Proofs.YtphakidbddamfaaGreat
open Go.ChangeShapes Go.WideShapes Go.ChangeAt Go.RowKit Go.Deep

theorem mwalk {P : Program} {f : FuncId} {args : List PV} (h : FnEq P f args [.d (.bool true)]) (w : World) (vals : Array Value) (hl : vals.size = args.length)
    (ha : ∀ (i : Nat) (x : PV) (v : Value), args[i]? = some x → vals[i]? = some v → R (fun _ => none) (fun _ => False) w x v) : Calls P f vals w fun e w' => e = .returned (.bool true) ∧ Below w.heap.size w w' := by
  refine (FnOK.calls h w vals hl ha).mono ?_
  rintro e w' ⟨rs, rfl, hr⟩
  obtain ⟨Y, v0, g0, rfl, h0, hb⟩ := hr.one
  exact ⟨by rw [rr_bool h0], hb⟩
theorem inI_of_wf {n : Int} (h : (Lit.int .i64 n).wf = true) : inI n := by
  simp only [Lit.wf, Bool.and_eq_true, decide_eq_true_eq] at h
  unfold inI
  exact ⟨h.1, h.2⟩
theorem R_int (w : World) (n : Int) : R (fun _ => none) (fun _ => False) w (.d (.int .i64 n)) (.int .i64 n) := .d _ _ (.int _ _)
theorem R_of_crd {w : World} {ds : List D} {cs : Array Value} (h : CRd w ds cs.toList) : R (fun _ => none) (fun _ => False) w (.agg (ds.map .d)) (.agg cs) := by
  refine .agg _ _ (by simpa using h.1) fun i x v hx hv => ?_
  rw [List.getElem?_map] at hx
  cases hd : ds[i]? with
  | none => rw [hd] at hx; cases hx
  | some d =>
    rw [hd] at hx
    cases hx
    exact .d _ _ (h.2 i d v hd (by simpa using hv))
end Go.Proofs.YtphakidbddamfaaGreat

/-
  Words on lists that the walks use: what is chosen and counted up to a place, the first place, bounds that hold up to a place. No program is named here.
-/
set_option linter.unusedSimpArgs false
set_option linter.unusedVariables false
set_option maxHeartbeats 2000000
set_option maxRecDepth 100000
namespace Go.Proofs.YtphakidbddamfaaGreat

section
variable {α β : Type}
theorem map_snoc {f : α → β} {l : List α} {k : Nat} {x : α} (hx : l[k]? = some x) : (l.take (k + 1)).map f = (l.take k).map f ++ [f x] := by rw [take_snoc hx]; simp
/-- how many are chosen -/
def cn (p : α → Bool) (l : List α) : Nat := l.countP p
theorem cn_yes {p : α → Bool} {l : List α} {k : Nat} {x : α} (hx : l[k]? = some x) (h : p x = true) : cn p (l.take (k + 1)) = cn p (l.take k) + 1 := by
  unfold cn; rw [take_snoc hx, List.countP_append]; simp [h]
theorem cn_no {p : α → Bool} {l : List α} {k : Nat} {x : α} (hx : l[k]? = some x) (h : p x = false) : cn p (l.take (k + 1)) = cn p (l.take k) := by
  unfold cn; rw [take_snoc hx, List.countP_append]; simp [h]
theorem cn_le (p : α → Bool) (l : List α) : cn p l ≤ l.length := List.countP_le_length
theorem cn_take_le (p : α → Bool) (l : List α) (k : Nat) : cn p (l.take k) ≤ k := Nat.le_trans (cn_le _ _) (List.length_take_le _ _)
/-- the first place where p holds, or -1 -/
def fIx (p : α → Bool) : List α → Nat → Int
  | [], _ => -1
  | x :: r, i => if p x = true then (i : Int) else fIx p r (i + 1)
theorem fIx_at {p : α → Bool} : ∀ {l : List α} {k : Nat} {x : α} {i : Nat}, l[k]? = some x → p x = true → (∀ y ∈ l.take k, p y = false) → fIx p l i = ((k + i : Nat) : Int)
  | [], k, x, i, h, _, _ => by simp at h
  | y :: r, 0, x, i, h, hp, _ => by simp at h; subst h; simp [fIx, hp]
  | y :: r, k + 1, x, i, h, hp, hn => by
    have h1 : p y = false := hn y (by simp)
    have h2 := fIx_at (i := i + 1) (l := r) (by simpa using h) hp (fun z hz => hn z (by rw [List.take_succ_cons]; exact List.mem_cons_of_mem _ hz))
    rw [fIx, if_neg (by rw [h1]; simp), h2]
    congr 1; omega
theorem fIx_none {p : α → Bool} : ∀ {l : List α} {i : Nat}, (∀ y ∈ l, p y = false) → fIx p l i = -1
  | [], i, _ => rfl
  | y :: r, i, h => by
    rw [fIx, if_neg (by rw [h y (by simp)]; simp)]
    exact fIx_none fun z hz => h z (List.mem_cons_of_mem _ hz)
theorem fIx_inv {p : α → Bool} : ∀ (l : List α) (i : Nat), (fIx p l i = -1 ∧ ∀ y ∈ l, p y = false) ∨ ∃ k x, fIx p l i = ((k + i : Nat) : Int) ∧ l[k]? = some x ∧ p x = true ∧ ∀ y ∈ l.take k, p y = false
  | [], i => .inl ⟨rfl, fun y h => by simp at h⟩
  | z :: r, i => by
    by_cases hz : p z = true
    · exact .inr ⟨0, z, by simp [fIx, hz], rfl, hz, fun y h => by simp at h⟩
    · have hz' : p z = false := by simpa using hz
      rcases fIx_inv r (i + 1) with ⟨h1, h2⟩ | ⟨k, x, h1, h2, h3, h4⟩
      · exact .inl ⟨by rw [fIx, if_neg hz, h1], fun y hy => by rcases List.mem_cons.1 hy with rfl | hy; exact hz'; exact h2 y hy⟩
      · refine .inr ⟨k + 1, x, by rw [fIx, if_neg hz, h1]; congr 1; omega, by simpa using h2, h3, fun y hy => ?_⟩
        rw [List.take_succ_cons] at hy
        rcases List.mem_cons.1 hy with rfl | hy
        · exact hz'
        · exact h4 y hy
theorem fIx_any (p : α → Bool) (l : List α) : decide (0 ≤ fIx p l 0) = l.any p := by
  rcases fIx_inv (p := p) l 0 with ⟨h1, h2⟩ | ⟨k, x, h1, h2, h3, _⟩
  · rw [h1]
    have : l.any p = false := by rw [List.any_eq_false]; intro x hx; simp [h2 x hx]
    rw [this]; rfl
  · rw [h1]
    have : l.any p = true := List.any_eq_true.2 ⟨x, List.mem_of_getElem? h2, h3⟩
    rw [this]; simp
theorem none_snoc {p : α → Bool} {l : List α} {k : Nat} {x : α} (h : ∀ y ∈ l.take k, p y = false) (hx : l[k]? = some x) (hp : p x = false) : ∀ y ∈ l.take (k + 1), p y = false := by
  intro y hy
  rw [take_snoc hx] at hy
  rcases List.mem_append.1 hy with hy | hy
  · exact h y hy
  · rw [List.mem_singleton] at hy; subst hy; exact hp
theorem none_all {p : α → Bool} {l : List α} {k : Nat} (h : ∀ y ∈ l.take k, p y = false) (hk : l.length ≤ k) : ∀ y ∈ l, p y = false := by rwa [List.take_of_length_le hk] at h
/-- A holds at all places below k -/
def Upto (A : Nat → α → Prop) (l : List α) (k : Nat) : Prop := ∀ j x, j < k → l[j]? = some x → A j x
theorem Upto.zero (A : Nat → α → Prop) (l : List α) : Upto A l 0 := fun _ _ h => absurd h (by omega)
theorem Upto.succ {A : Nat → α → Prop} {l : List α} {k : Nat} {x : α} (h : Upto A l k) (hx : l[k]? = some x) (hf : A k x) : Upto A l (k + 1) := by
  intro j y hj hy
  by_cases e : j = k
  · subst e
    rw [hx] at hy
    cases hy
    exact hf
  · exact h j y (by omega) hy
def All (A : Nat → α → Prop) (l : List α) : Prop := ∀ j x, l[j]? = some x → A j x
theorem All.not_at {A : Nat → α → Prop} {l : List α} {k : Nat} {x : α} (hx : l[k]? = some x) (hf : ¬ A k x) : ¬ All A l := fun h => hf (h k x hx)
theorem Upto.all {A : Nat → α → Prop} {l : List α} {k : Nat} (h : Upto A l k) (hk : l.length ≤ k) : All A l := fun j x hx => h j x (Nat.lt_of_lt_of_le (List.getElem?_eq_some_iff.1 hx).1 hk) hx
end
/-- captured variables that are plain data -/
structure CapOK (caps : List PV) : Prop where
  t1 : ∀ hp, caps.map (ta1 hp) = caps
  t2 : ∀ hp, caps.map (ta2 hp) = caps
  ren : ∀ σ, renL σ caps = caps
  bd : ∀ nx, bdL nx caps = true
theorem eptrCap (ds : List D) : CapOK [.eptr ds] := ⟨fun _ => rfl, fun _ => rfl, fun _ => rfl, fun _ => rfl⟩
theorem noCap : CapOK [] := ⟨fun _ => rfl, fun _ => rfl, fun _ => rfl, fun _ => rfl⟩
theorem of_bP {p : Prop} (h : bP p = true) : p := bP_iff.1 h
theorem not_bP {p : Prop} (h : bP p = false) : ¬ p := fun h' => Bool.noConfusion ((bP_true h').symm.trans h)
end Go.Proofs.YtphakidbddamfaaGreat
namespace Go.Proofs.YtphakidbddamfaaGreat
open Go.RowKit

theorem within_ok (n lo hi : Int) : FnEq Tryz.prog 111 [.d (.int .i64 n), .d (.int .i64 lo), .d (.int .i64 hi)] [.d (.bool (decide (lo ≤ n) && decide (n ≤ hi)))] := by
  refine fn_ok G_ok Tryz.func111 rfl rfl ?_; simp only [Tryz.ntmps111, List.length_cons, List.length_nil, Nat.reduceAdd, Nat.reduceSub, enm]
  repeat' (first | ((with_reducible first | (refine hK _ ?_; clear hK K) | refine stq fun K' hK' => ?_ | refine stc ?_); try simp only [go_sem]) | (with_reducible first | refine stp ?_ | (refine hK' _ ?_; clear hK' K') | refine kN kl111 fun K hK => ?_ | refine kO fun K hK => ?_) | (refine xS rfl fun K' hK' => ?_; simp only [go_sem]) | (with_reducible refine pK_mk ?_ ?_ <;> (intro hc; (try simp only [go_sem]); (try simp at hc); try (exfalso; omega))) | with_reducible refine And.intro (by first | omega | (unfold inI; omega)) ?_)
  · refine retQ_ret rfl rfl (by simp [rowsOf, lk]) ?_; simp [hc]
  · refine retQ_ret rfl rfl (by simp [rowsOf, lk]) ?_; simp; omega
theorem l1In_ok (n lo hi : Int) : FnEq Tryz.prog 112 [.d (.int .i64 n), .d (.int .i64 lo), .d (.int .i64 hi)] [.d (.bool (decide (lo ≤ n) && decide (n ≤ hi)))] := by
  refine fn_ok G_ok Tryz.func112 rfl rfl ?_; simp only [Tryz.ntmps112, List.length_cons, List.length_nil, Nat.reduceAdd, Nat.reduceSub, enm]
  repeat' (first | ((with_reducible first | (refine hK _ ?_; clear hK K) | refine stq fun K' hK' => ?_ | refine stc ?_); try simp only [go_sem]) | (with_reducible first | refine stp ?_ | (refine hK' _ ?_; clear hK' K') | refine kN kl112 fun K hK => ?_ | refine kO fun K hK => ?_) | (refine xS rfl fun K' hK' => ?_; simp only [go_sem]) | (with_reducible refine pK_mk ?_ ?_ <;> (intro hc; (try simp only [go_sem]); (try simp at hc); try (exfalso; omega))) | with_reducible refine And.intro (by first | omega | (unfold inI; omega)) ?_)
  · refine retQ_ret rfl rfl (by simp [rowsOf, lk]) ?_; simp [hc]
  · refine retQ_ret rfl rfl (by simp [rowsOf, lk]) ?_; simp; omega
end Go.Proofs.YtphakidbddamfaaGreat

/-
  Items: their words; when they are valid. No program is named here.
-/
namespace Go.Proofs.YtphakidbddamfaaGreat
open Go.RowKit

structure ItemD where
  names : List ByteArray
  marks : List Int
  late : Bool
def ItemD.dat (x : ItemD) : List D := [.lst 1 (x.names.map datS), .lst 1 (x.marks.map datI), .bool x.late]
theorem ItemD.ext3 {x y : ItemD} (h1 : x.names = y.names) (h2 : x.marks = y.marks) (h3 : x.late = y.late) : x = y := by cases x; cases y; cases h1; cases h2; cases h3; rfl
def chB (u : UInt8) : Bool := (decide (65 ≤ (u.toNat : Int)) && decide ((u.toNat : Int) ≤ 90)) || (decide (48 ≤ (u.toNat : Int)) && decide ((u.toNat : Int) ≤ 57))
def NameOk (s : ByteArray) : Prop := (1 ≤ s.size ∧ s.size ≤ 5) ∧ ∀ (i : Nat) (u : UInt8), s[i]? = some u → chB u = true
def MkOk (_ : Nat) (m : Int) : Prop := 0 ≤ m ∧ m ≤ 3
def ItOk (x : ItemD) : Prop := All (fun _ s => NameOk s) x.names ∧ 1 ≤ x.names.length ∧ x.names.length ≤ 3 ∧ x.marks.length = x.names.length ∧ All MkOk x.marks
def ItsOk (l : List ItemD) : Prop := l.length ≤ 14 ∧ All (fun _ x => ItOk x) l
theorem ItsOk.at_ {l : List ItemD} (h : ItsOk l) {k : Nat} {x : ItemD} (hx : l[k]? = some x) : ItOk x := h.2 k x hx
/-- how much memory: strings, items -/
def cntS (l : List ByteArray) : Nat := (l.map ByteArray.size).sum
theorem cntS_succ {l : List ByteArray} {k : Nat} {x : ByteArray} (hx : l[k]? = some x) : cntS (l.take (k + 1)) = cntS (l.take k) + x.size := by unfold cntS; rw [take_snoc hx]; simp
theorem cntS_take (l : List ByteArray) (k : Nat) : cntS (l.take k) ≤ cntS l := by
  have : l = l.take k ++ l.drop k := (List.take_append_drop k l).symm
  unfold cntS
  conv => rhs; rw [this]
  rw [List.map_append, List.sum_append]
  omega
def cntI1 (x : ItemD) : Nat := x.names.length + cntS x.names + x.marks.length
def cntI (l : List ItemD) : Nat := (l.map cntI1).sum
theorem cntI_succ {l : List ItemD} {k : Nat} {x : ItemD} (hx : l[k]? = some x) : cntI (l.take (k + 1)) = cntI (l.take k) + cntI1 x := by unfold cntI; rw [take_snoc hx]; simp
theorem cntI_take (l : List ItemD) (k : Nat) : cntI (l.take k) ≤ cntI l := by
  have : l = l.take k ++ l.drop k := (List.take_append_drop k l).symm
  unfold cntI
  conv => rhs; rw [this]
  rw [List.map_append, List.sum_append]
  omega
theorem le_sum_nat {l : List Nat} {a : Nat} (h : a ∈ l) : a ≤ l.sum := by
  induction l with
  | nil => cases h
  | cons b l ih => rw [List.sum_cons]; rcases List.mem_cons.1 h with rfl | h; · omega
                   · have := ih h; omega
theorem cntI_mem {l : List ItemD} {x : ItemD} (h : x ∈ l) : cntI1 x ≤ cntI l := by
  unfold cntI
  exact le_sum_nat (List.mem_map.2 ⟨x, h, rfl⟩)
theorem cntS_mem {l : List ByteArray} {x : ByteArray} (h : x ∈ l) : x.size ≤ cntS l := by
  unfold cntS
  exact le_sum_nat (List.mem_map.2 ⟨x, h, rfl⟩)
/-- an item's parts fit into memory -/
def ItFit (m : Nat) (x : ItemD) : Prop := x.names.length ≤ m ∧ (∀ s ∈ x.names, s.size ≤ m) ∧ x.marks.length ≤ m
theorem ItFit.mono {m m' : Nat} (h : m ≤ m') {x : ItemD} (hx : ItFit m x) : ItFit m' x := ⟨Nat.le_trans hx.1 h, fun s hs => Nat.le_trans (hx.2.1 s hs) h, Nat.le_trans hx.2.2 h⟩
theorem itFit_of {m : Nat} {x : ItemD} (h : cntI1 x ≤ m) : ItFit m x := by
  unfold cntI1 at h
  exact ⟨by omega, fun s hs => by have := cntS_mem hs; omega, by omega⟩
end Go.Proofs.YtphakidbddamfaaGreat

/-
  The abstract machine: bytes made a string. No program is named here.
-/
set_option linter.unusedSimpArgs false
set_option linter.unusedVariables false
set_option maxHeartbeats 2000000
set_option maxRecDepth 100000
namespace Go.Proofs.YtphakidbddamfaaGreat
open Go.RowKit

theorem SrcOK.bytes {w : World} {X : Nat → Prop} {xs : List Int} {v : Value} (h : SrcOK w X 1 (xs.map fun n : Int => [D.int .u8 n]) v) : (∃ A c, xs = [] ∧ v = .slice A 0 c) ∨ ∃ b off c, v = .slice (some ⟨b, off, none⟩) xs.length c ∧ ∀ i, i < xs.length → w.cell? ⟨b, off + i, none⟩ = some (.int .u8 (xs.getD i 0)) := by
  obtain ⟨_, ⟨h1, A, c, h2⟩ | ⟨b, off, c, h1, _, h2⟩⟩ := h
  · exact .inl ⟨A, c, by simpa using h1, h2⟩
  · refine .inr ⟨b, off, c, by rw [h1, List.length_map], fun i hi => ?_⟩
    have hx := List.getElem?_eq_getElem hi
    obtain ⟨u, h3, h4⟩ := h2 i [.int .u8 xs[i]] 0 (.int .u8 xs[i]) (by rw [List.getElem?_map, hx]; rfl) rfl
    cases h4
    rw [List.getD_eq_getElem?_getD, hx]
    simpa using h3
section
variable {P : Program} {o : Oper} {s : AS} {KP : PV → Prop}
theorem pq_toStr {src dst e : TypeId} {x : Operand} {bytes : Nat} {z : List D} {xs : List Int} (ho : o.op = .convert src dst x) (hs : tiB P src (.slc e 1 bytes z) = true) (he : P.underlying e = some (.int .u8)) (hd : tiB P dst .str = true) (hx : srcL s.hp (s.get x) = some (1, xs.map fun n : Int => [D.int .u8 n])) (hK : KP (.d (.str (strOfNums xs)))) : PQ P o s KP := by
  refine ⟨_, fun X0 w0 m a wb hsim => ?_, hK⟩
  have hu := (tiB_slc hs).1
  have hud := (tiB_str hd).1
  refine ⟨.string (strOfNums xs), fun w' hb => ?_, fun w' hb => .d _ _ (.str _)⟩
  have hrun : (execOp a.eval o).run P w' = .ok (.value (.string (strOfNums xs))) w' := by
    rcases (hsim.src hx (hsim.get x)).bytes with ⟨A, c, h1, h2⟩ | ⟨b, off, c, h1, h2⟩
    · subst h1
      cases A with
      | none => simp [execOp, ho, h2, run_convert_bytes_nil w' src e hu he 0 c dst hud]; rfl
      | some A0 =>
        have hl : (loadCells A0 0).run P w' = .ok (([] : List Int).map (Value.int .u8)).toArray w' := by simpa using run_loadCells_list (P := P) w' A0 [] (fun j v hj => by simp at hj)
        simp [execOp, ho, h2, run_convert_bytes_string w' src dst e _ 0 c hu he hud, run_bytesToString w' A0 0 c [] hl]; rfl
    · simp [execOp, ho, h1, run_convert_bytes_arg w' src e hu he b off xs.length c xs rfl (fun i hi => (hb.cell (p := ⟨b, off + i, none⟩) (cell_lt' (h2 i hi))).trans (h2 i hi)) dst hud]
  unfold Oper.quietAt
  rw [hrun]
  exact ⟨rfl, rfl⟩
end
section
variable {P : Program} {o : Oper} {s : AS} {KP : PV → Prop}
end
/-- a number's digits; none of 0 -/
def digB (n : Nat) : ByteArray := if n = 0 then ByteArray.empty else digB (n / 10) ++ strOfNums [48 + ((n % 10 : Nat) : Int)]
decreasing_by omega
theorem digB_zero : digB 0 = ByteArray.empty := by rw [digB, if_pos rfl]
theorem digB_pos {n : Nat} (h : 0 < n) : digB n = digB (n / 10) ++ strOfNums [48 + ((n % 10 : Nat) : Int)] := by rw [digB, if_neg (by omega)]
end Go.Proofs.YtphakidbddamfaaGreat

/-
  Numbers that are all in a range: the program's function and the reference's, in the abstract machine.
-/
set_option linter.unusedSimpArgs false
set_option linter.unusedVariables false
set_option maxHeartbeats 2000000
set_option maxRecDepth 100000
namespace Go.Proofs.YtphakidbddamfaaGreat
open Go.RowKit

def InR (lo hi : Int) (_ : Nat) (x : Int) : Prop := lo ≤ x ∧ x ≤ hi
def AllIn (lo hi : Int) (xs : List Int) : Prop := All (InR lo hi) xs
theorem inR_b (lo hi x : Int) (k : Nat) : (decide (lo ≤ x) && decide (x ≤ hi)) = bP (InR lo hi k x) := by
  rw [Bool.eq_iff_iff, bP_iff]; simp [InR]
theorem allWithin_ok (xs : List Int) (lo hi : Int) (hn : xs.length ≤ 9223372036854775807) : FnEq Tryz.prog 170 [.d (.lst 1 (xs.map datI)), .d (.int .i64 lo), .d (.int .i64 hi)] [.d (.bool (bP (AllIn lo hi xs)))] := by
  refine fn_ok G_ok Tryz.func170 rfl rfl ?_; simp only [Tryz.ntmps170, List.length_cons, List.length_nil, Nat.reduceAdd, Nat.reduceSub, enm]
  repeat' (first | ((with_reducible first | (refine hK _ ?_; clear hK K) | refine stq fun K' hK' => ?_ | refine stc ?_); try simp only [go_sem]) | (with_reducible first | refine stp ?_ | (refine hK' _ ?_; clear hK' K') | refine kN kl170 fun K hK => ?_ | refine kO fun K hK => ?_) | refine iB ?_ | (with_reducible refine pK_mk ?_ ?_ <;> (intro hc; (try simp only [go_sem]); (try simp at hc); try (exfalso; omega))) | with_reducible refine And.intro (by first | omega | (unfold inI; omega)) ?_)
  refine pw_loop_over [6, 8, 11, 12, 13, 14, 15, 16, 17, 18, 19, 20] (fun k : Nat => [(11, .d (.int .i64 (k : Int)))]) (fun k : Nat => []) 0 (fun k : Nat => k ≤ xs.length ∧ Upto (InR lo hi) xs k) (fun k : Nat => xs.length - k) 0 ⟨Nat.zero_le _, Upto.zero _ _⟩ (fits_mk [] (by simp [renL_d, bdL_d, sg, over, wipe, wl, memN, ins, rm, lk, fitFr, fit1, ren, renL, bd, bdL, app, fitHp, hget, renB, bdB] <;> omega)) ?_
  rintro k ⟨hk, hJ⟩
  simp only [over, wipe, wl, memN, ins, rm, if_true, if_false, Nat.reduceEqDiff, Bool.false_eq_true, reduceCtorEq]
  by_cases hlt : k < xs.length
  · have hx := List.getElem?_eq_getElem hlt
    generalize xs[k] = x at hx
    have hb := inR_b lo hi x k
    by_cases hI : InR lo hi k x
    · rw [bP_true hI] at hb
      have hJ' := hJ.succ hx hI
      repeat' (first | ((with_reducible first | (refine hK _ ?_; clear hK K) | refine stq fun K' hK' => ?_ | refine stc ?_); try simp only [go_sem, List.getElem?_map, hx, Option.map_some, datI, hb]) | (with_reducible first | refine stp ?_ | (refine hK' _ ?_; clear hK' K') | refine kN kl170 fun K hK => ?_ | refine kO fun K hK => ?_) | ((with_reducible apply CallK.eq); (· with_reducible first | exact within_ok _ _ _); (· simp [RV.flat, D.sc, datI]); try simp only [go_sem, List.getElem?_map, hx, Option.map_some, datI, hb]) | refine iB ?_ | (with_reducible refine pK_mk ?_ ?_ <;> (intro hc; (try simp only [go_sem, List.getElem?_map, hx, Option.map_some, datI, hb]); (try simp at hc); try (exfalso; omega))) | with_reducible refine And.intro (by first | omega | (unfold inI; omega)) ?_)
      all_goals exact ⟨k + 1, ⟨by omega, hJ'⟩, by omega, (fits_mk [] (by simp [renL_d, bdL_d, sg, over, wipe, wl, memN, ins, rm, lk, fitFr, fit1, ren, renL, bd, bdL, app, fitHp, hget, renB, bdB] <;> omega))⟩
    · rw [bP_false hI] at hb
      repeat' (first | ((with_reducible first | (refine hK _ ?_; clear hK K) | refine stq fun K' hK' => ?_ | refine stc ?_); try simp only [go_sem, List.getElem?_map, hx, Option.map_some, datI, hb]) | (with_reducible first | refine stp ?_ | (refine hK' _ ?_; clear hK' K') | refine kN kl170 fun K hK => ?_ | refine kO fun K hK => ?_) | ((with_reducible apply CallK.eq); (· with_reducible first | exact within_ok _ _ _); (· simp [RV.flat, D.sc, datI]); try simp only [go_sem, List.getElem?_map, hx, Option.map_some, datI, hb]) | refine iB ?_ | (with_reducible refine pK_mk ?_ ?_ <;> (intro hc; (try simp only [go_sem, List.getElem?_map, hx, Option.map_some, datI, hb]); (try simp at hc); try (exfalso; omega))) | with_reducible refine And.intro (by first | omega | (unfold inI; omega)) ?_)
      all_goals (refine retQ_ret rfl rfl (by simp [rowsOf, lk]) ?_; rw [bP_false (show ¬ AllIn lo hi xs from All.not_at hx hI)])
  · repeat' (first | ((with_reducible first | (refine hK _ ?_; clear hK K) | refine stq fun K' hK' => ?_ | refine stc ?_); try simp only [go_sem]) | (with_reducible first | refine stp ?_ | (refine hK' _ ?_; clear hK' K') | refine kN kl170 fun K hK => ?_ | refine kO fun K hK => ?_) | refine iB ?_ | (with_reducible refine pK_mk ?_ ?_ <;> (intro hc; (try simp only [go_sem]); (try simp at hc); try (exfalso; omega))) | with_reducible refine And.intro (by first | omega | (unfold inI; omega)) ?_)
    all_goals (refine retQ_ret rfl rfl (by simp [rowsOf, lk]) ?_; rw [bP_true (show AllIn lo hi xs from hJ.all (by omega))])
theorem l1All_ok (xs : List Int) (lo hi : Int) (hn : xs.length ≤ 9223372036854775807) : FnEq Tryz.prog 172 [.d (.lst 1 (xs.map datI)), .d (.int .i64 lo), .d (.int .i64 hi)] [.d (.bool (bP (AllIn lo hi xs)))] := by
  refine fn_ok G_ok Tryz.func172 rfl rfl ?_; simp only [Tryz.ntmps172, List.length_cons, List.length_nil, Nat.reduceAdd, Nat.reduceSub, enm]
  repeat' (first | ((with_reducible first | (refine hK _ ?_; clear hK K) | refine stq fun K' hK' => ?_ | refine stc ?_); try simp only [go_sem]) | (with_reducible first | refine stp ?_ | (refine hK' _ ?_; clear hK' K') | refine kN kl172 fun K hK => ?_ | refine kO fun K hK => ?_) | refine iB ?_ | (with_reducible refine pK_mk ?_ ?_ <;> (intro hc; (try simp only [go_sem]); (try simp at hc); try (exfalso; omega))) | with_reducible refine And.intro (by first | omega | (unfold inI; omega)) ?_)
  refine pw_loop_over [6, 8, 11, 12, 13, 14, 15, 16, 17, 18, 19, 20] (fun k : Nat => [(11, .d (.int .i64 (k : Int)))]) (fun k : Nat => []) 0 (fun k : Nat => k ≤ xs.length ∧ Upto (InR lo hi) xs k) (fun k : Nat => xs.length - k) 0 ⟨Nat.zero_le _, Upto.zero _ _⟩ (fits_mk [] (by simp [renL_d, bdL_d, sg, over, wipe, wl, memN, ins, rm, lk, fitFr, fit1, ren, renL, bd, bdL, app, fitHp, hget, renB, bdB] <;> omega)) ?_
  rintro k ⟨hk, hJ⟩
  simp only [over, wipe, wl, memN, ins, rm, if_true, if_false, Nat.reduceEqDiff, Bool.false_eq_true, reduceCtorEq]
  by_cases hlt : k < xs.length
  · have hx := List.getElem?_eq_getElem hlt
    generalize xs[k] = x at hx
    have hb := inR_b lo hi x k
    by_cases hI : InR lo hi k x
    · rw [bP_true hI] at hb
      have hJ' := hJ.succ hx hI
      repeat' (first | ((with_reducible first | (refine hK _ ?_; clear hK K) | refine stq fun K' hK' => ?_ | refine stc ?_); try simp only [go_sem, List.getElem?_map, hx, Option.map_some, datI, hb]) | (with_reducible first | refine stp ?_ | (refine hK' _ ?_; clear hK' K') | refine kN kl172 fun K hK => ?_ | refine kO fun K hK => ?_) | ((with_reducible apply CallK.eq); (· with_reducible first | exact l1In_ok _ _ _); (· simp [RV.flat, D.sc, datI]); try simp only [go_sem, List.getElem?_map, hx, Option.map_some, datI, hb]) | refine iB ?_ | (with_reducible refine pK_mk ?_ ?_ <;> (intro hc; (try simp only [go_sem, List.getElem?_map, hx, Option.map_some, datI, hb]); (try simp at hc); try (exfalso; omega))) | with_reducible refine And.intro (by first | omega | (unfold inI; omega)) ?_)
      all_goals exact ⟨k + 1, ⟨by omega, hJ'⟩, by omega, (fits_mk [] (by simp [renL_d, bdL_d, sg, over, wipe, wl, memN, ins, rm, lk, fitFr, fit1, ren, renL, bd, bdL, app, fitHp, hget, renB, bdB] <;> omega))⟩
    · rw [bP_false hI] at hb
      repeat' (first | ((with_reducible first | (refine hK _ ?_; clear hK K) | refine stq fun K' hK' => ?_ | refine stc ?_); try simp only [go_sem, List.getElem?_map, hx, Option.map_some, datI, hb]) | (with_reducible first | refine stp ?_ | (refine hK' _ ?_; clear hK' K') | refine kN kl172 fun K hK => ?_ | refine kO fun K hK => ?_) | ((with_reducible apply CallK.eq); (· with_reducible first | exact l1In_ok _ _ _); (· simp [RV.flat, D.sc, datI]); try simp only [go_sem, List.getElem?_map, hx, Option.map_some, datI, hb]) | refine iB ?_ | (with_reducible refine pK_mk ?_ ?_ <;> (intro hc; (try simp only [go_sem, List.getElem?_map, hx, Option.map_some, datI, hb]); (try simp at hc); try (exfalso; omega))) | with_reducible refine And.intro (by first | omega | (unfold inI; omega)) ?_)
      all_goals (refine retQ_ret rfl rfl (by simp [rowsOf, lk]) ?_; rw [bP_false (show ¬ AllIn lo hi xs from All.not_at hx hI)])
  · repeat' (first | ((with_reducible first | (refine hK _ ?_; clear hK K) | refine stq fun K' hK' => ?_ | refine stc ?_); try simp only [go_sem]) | (with_reducible first | refine stp ?_ | (refine hK' _ ?_; clear hK' K') | refine kN kl172 fun K hK => ?_ | refine kO fun K hK => ?_) | refine iB ?_ | (with_reducible refine pK_mk ?_ ?_ <;> (intro hc; (try simp only [go_sem]); (try simp at hc); try (exfalso; omega))) | with_reducible refine And.intro (by first | omega | (unfold inI; omega)) ?_)
    all_goals (refine retQ_ret rfl rfl (by simp [rowsOf, lk]) ?_; rw [bP_true (show AllIn lo hi xs from hJ.all (by omega))])
end Go.Proofs.YtphakidbddamfaaGreat
