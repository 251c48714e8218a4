/-
  Arguments of any shape, opened as plain data; reading facts that a walk carries along. No program is named here.
-/
import Derived.Test.YtjgpbbdapjjmiaaDoorSmall
import Derived.Test.YtjgpbbdapjjmiaaDoorBr
namespace Go.Proofs.YtjgpbbdapjjmiaaDoor
open Go.ChangeShapes Go.WideShapes Go.ChangeAt Go.RowKit Go.Deep

section
variable {H : Type} {enc : TypeId × Value → H} {P : Program} {w : World} {base : Nat} {spare : Nat → Bool} {held : Bool}
/-- the cells read as data -/
def CRd (w : World) (ds : List D) (cs : List Value) : Prop := cs.length = ds.length ∧ ∀ (j : Nat) d u, ds[j]? = some d → cs[j]? = some u → Rd w (fun _ => False) d u
/-- a type's cells, opened -/
def OpenK (enc : TypeId × Value → H) (P : Program) (w : World) (base : Nat) (spare : Nat → Bool) (held : Bool) {α : Type} (dat : α → List D) (ok : α → Prop) (t : TypeId) (sz : Nat) : Prop :=
  (∀ x, (dat x).length = sz) ∧ ∀ fuel cs y, DataW.trod enc P w base spare held fuel t cs = some y → ∃ x : α, ok x ∧ CRd w (dat x) cs
theorem OpenK.int {t : TypeId} (ht : P.underlying t = some (.int .i64)) : OpenK enc P w base spare held datI (fun _ => True) t 1 := by
  refine ⟨fun _ => rfl, fun fuel cs y h => ?_⟩
  obtain ⟨n, rfl, _, _⟩ := DataW.trod_int ht h
  refine ⟨n, trivial, rfl, fun j d u hd hu => ?_⟩
  cases j with
  | zero => simp [datI] at hd hu; subst hd hu; exact .int _ _
  | succ j => simp [datI] at hd
def datB (b : Bool) : List D := [.bool b]
theorem OpenK.bool {t : TypeId} (ht : P.underlying t = some .bool) : OpenK enc P w base spare held datB (fun _ => True) t 1 := by
  refine ⟨fun _ => rfl, fun fuel cs y h => ?_⟩
  obtain ⟨n, rfl, _⟩ := DataW.trod_bool ht h
  refine ⟨n, trivial, rfl, fun j d u hd hu => ?_⟩
  cases j with
  | zero => simp [datB] at hd hu; subst hd hu; exact .bool _
  | succ j => simp [datB] at hd
def datS (s : ByteArray) : List D := [.str s]
theorem OpenK.str {t : TypeId} (ht : P.underlying t = some .string) : OpenK enc P w base spare held datS (fun s => s.size ≤ maxLen) t 1 := by
  refine ⟨fun _ => rfl, fun fuel cs y h => ?_⟩
  obtain ⟨n, rfl, _, hl⟩ := DataW.trod_string ht h
  refine ⟨n, hl, rfl, fun j d u hd hu => ?_⟩
  cases j with
  | zero => simp [datS] at hd hu; subst hd hu; exact .str _
  | succ j => simp [datS] at hd
theorem OpenK.map {α β : Type} {dat : α → List D} {ok : α → Prop} {t : TypeId} {sz : Nat} (h : OpenK enc P w base spare held dat ok t sz) (f : α → β) (dat' : β → List D) (ok' : β → Prop) (hl : ∀ y, (dat' y).length = sz) (hd : ∀ x, dat' (f x) = dat x) (ho : ∀ x, ok x → ok' (f x)) : OpenK enc P w base spare held dat' ok' t sz := by
  refine ⟨hl, fun fuel cs y hy => ?_⟩
  obtain ⟨x, h1, h2⟩ := h.2 fuel cs y hy
  exact ⟨f x, ho x h1, by rw [hd]; exact h2⟩
def datL {α : Type} (sz : Nat) (dat : α → List D) (xs : List α) : List D := [.lst sz (xs.map dat)]
theorem OpenK.slc {α : Type} {dat : α → List D} {ok : α → Prop} {t e : TypeId} {sz : Nat} (h : OpenK enc P w base spare held dat ok e sz) (ht : P.underlying t = some (.slice e)) (hC : P.cellsOf e = sz) (hsz : 0 < sz) :
    OpenK enc P w base spare held (datL sz dat) (fun xs => xs.length ≤ maxLen ∧ ∀ x ∈ xs, ok x) t 1 := by
  refine ⟨fun _ => rfl, fun fuel cs y hy => ?_⟩
  rcases open_slice ht hy with ⟨rfl, _⟩ | ⟨a, len, cap, m, n, D', Pl, rfl, hb, hl, hm, hmm, _, hx⟩
  · refine ⟨[], ⟨by simp, by simp⟩, rfl, fun j d u hd hu => ?_⟩
    cases j with
    | zero => simp [datL] at hd hu; subst hd hu; exact .nil _ _ _
    | succ j => simp [datL] at hd
  · have hlm : len ≤ m := by rw [hmm]; split <;> omega
    obtain ⟨xs, hxl, hxs⟩ := exists_list (p := fun i (x : α) => ok x ∧ ∀ (j : Nat) d, (dat x)[j]? = some d → ∃ u, w.cell? ((a.add (i * sz)).add j) = some u ∧ Rd w (fun _ => False) d u) len fun i hi => by
      obtain ⟨cs', h1, h2⟩ := hx i (by omega)
      obtain ⟨x, h3, h4⟩ := h.2 _ _ _ h2
      rw [hC] at h1
      obtain ⟨hcl, _, hc⟩ := World.cells?_some h1
      refine ⟨x, h3, fun j d hd => ?_⟩
      have hj : j < sz := by rw [← h.1 x]; exact (List.getElem?_eq_some_iff.1 hd).1
      have hjc : j < cs'.length := by rw [h4.1, h.1]; exact hj
      refine ⟨cs'[j], by rw [hc j hj]; exact List.getElem?_eq_getElem hjc, h4.2 j d _ hd (List.getElem?_eq_getElem hjc)⟩
    refine ⟨xs, ⟨by omega, fun x hx => ?_⟩, rfl, fun j d u hd hu => ?_⟩
    · obtain ⟨i, hi⟩ := List.getElem?_of_mem hx
      exact (hxs i x hi).1
    · cases j with
      | succ j => simp [datL] at hd
      | zero =>
        simp [datL] at hd hu
        subst hd hu
        obtain ⟨b, off, spot⟩ := a
        rcases Nat.eq_zero_or_pos len with h0 | h0
        · have : xs = [] := List.eq_nil_of_length_eq_zero (by omega)
          subst this
          subst h0
          exact .nil _ _ _
        · have hsp : spot = none := by
            have hd0 := List.getElem?_eq_getElem (show 0 < (dat xs[0]).length by rw [h.1]; exact hsz)
            obtain ⟨u, hu, _⟩ := (hxs 0 xs[0] (List.getElem?_eq_getElem (by omega))).2 0 _ hd0
            simpa [Addr.add] using World.cell?_spot hu
          subst hsp
          have key : ∀ (k : Nat) e (j : Nat) d, (xs.map dat)[k]? = some e → e[j]? = some d → ∃ u, w.cell? ⟨b, off + (k * sz + j), none⟩ = some u ∧ Rd w (fun _ => False) d u := by
            intro k e j d he hd
            rw [List.getElem?_map] at he
            cases hk : xs[k]? with
            | none => rw [hk] at he; cases he
            | some x =>
              rw [hk] at he
              cases he
              obtain ⟨u, h1, h2⟩ := (hxs k x hk).2 j d hd
              have e2 : ((⟨b, off, none⟩ : Addr).add (k * sz)).add j = ⟨b, off + (k * sz + j), none⟩ := by
                unfold Addr.add
                split <;> split <;> simp_all <;> omega
              rw [e2] at h1
              exact ⟨u, h1, h2⟩
          rw [← hxl, ← List.length_map (f := dat)]
          refine .lst _ _ _ _ _ (by rw [List.length_map]; omega) (fun e he => ?_) (fun k e j d he hd => ⟨fun h => h, ?_⟩) (fun k e j d v he hd hv => ?_)
          · obtain ⟨x, _, rfl⟩ := List.mem_map.1 he; exact h.1 x
          · obtain ⟨u, q1, _⟩ := key k e j d he hd; exact ⟨u, q1⟩
          · obtain ⟨u, q1, q2⟩ := key k e j d he hd
            rw [hv] at q1
            cases q1
            exact q2
/-- the fields of a struct, from one on -/
def OpenFs (enc : TypeId × Value → H) (P : Program) (w : World) (base : Nat) (spare : Nat → Bool) (held : Bool) (o : Nat) (fs : List Field) {α : Type} (dat : α → List D) (ok : α → Prop) (sz : Nat) : Prop :=
  (∀ x, (dat x).length = sz) ∧ ∀ cs : List Value, (∀ f ∈ fs, ∃ n y, DataW.trod enc P w base spare held n f.type ((cs.drop f.offset).take (P.cellsOf f.type)) = some y) → ∃ x : α, ok x ∧ ∀ (j : Nat) d u, (dat x)[j]? = some d → cs[o + j]? = some u → Rd w (fun _ => False) d u
theorem OpenFs.nil (o : Nat) : OpenFs enc P w base spare held o [] (fun _ : Unit => []) (fun _ => True) 0 :=
  ⟨fun _ => rfl, fun cs _ => ⟨(), trivial, fun j d u hd _ => by simp at hd⟩⟩
theorem OpenFs.cons {α β : Type} {dat : α → List D} {dat' : β → List D} {ok : α → Prop} {ok' : β → Prop} {o sz sz' : Nat} {f : Field} {fs : List Field} (h : OpenK enc P w base spare held dat ok f.type sz) (ho : f.offset = o) (hC : P.cellsOf f.type = sz) (h' : OpenFs enc P w base spare held (o + sz) fs dat' ok' sz') :
    OpenFs enc P w base spare held o (f :: fs) (fun p : α × β => dat p.1 ++ dat' p.2) (fun p => ok p.1 ∧ ok' p.2) (sz + sz') := by
  refine ⟨fun x => by rw [List.length_append, h.1, h'.1], fun cs hc => ?_⟩
  obtain ⟨n, y, hy⟩ := hc f (by simp)
  obtain ⟨x, h1, h2⟩ := h.2 _ _ _ hy
  obtain ⟨x', h3, h4⟩ := h'.2 cs fun g hg => hc g (List.mem_cons_of_mem _ hg)
  refine ⟨(x, x'), ⟨h1, h3⟩, fun j d u hd hu => ?_⟩
  by_cases hj : j < sz
  · rw [List.getElem?_append_left (by rw [h.1]; exact hj)] at hd
    refine h2.2 j d u hd ?_
    rw [ho, hC, List.getElem?_take_of_lt hj, List.getElem?_drop]
    exact hu
  · rw [List.getElem?_append_right (by rw [h.1]; omega), h.1] at hd
    exact h4 (j - sz) d u hd (by rw [show o + sz + (j - sz) = o + j by omega]; exact hu)
theorem OpenK.st {α : Type} {dat : α → List D} {ok : α → Prop} {t : TypeId} {fs : Array Field} {sz : Nat} (h : OpenFs enc P w base spare held 0 fs.toList dat ok sz) (ht : P.underlying t = some (.struct fs)) (hC : P.cellsOf t = sz) : OpenK enc P w base spare held dat ok t sz := by
  refine ⟨h.1, fun fuel cs y hy => ?_⟩
  obtain ⟨ys, n, _, _, hlen, hyl, hf⟩ := DataW.trod_struct ht hy
  obtain ⟨x, h1, h2⟩ := h.2 cs fun f hfm => by
    obtain ⟨i, hi⟩ := List.getElem?_of_mem hfm
    have hi' : fs[i]? = some f := by simpa using hi
    have hlt : i < ys.length := by rw [hyl]; exact (Array.getElem?_eq_some_iff.1 hi').1
    exact ⟨n, ys[i], by rw [hf i f hi', List.getElem?_eq_getElem hlt]⟩
  exact ⟨x, h1, by rw [hlen, hC, h.1], fun j d u hd hu => h2 j d u hd (by simpa using hu)⟩
end
end Go.Proofs.YtjgpbbdapjjmiaaDoor
namespace Go.Proofs.YtjgpbbdapjjmiaaDoor
open Go.ChangeShapes Go.WideShapes Go.ChangeAt Go.RowKit Go.Deep

theorem mwalk {P : Program} {f : FuncId} {args : List PV} (h : FnEq P f args [.d (.bool true)]) (w : World) (hGL : GL w) (vals : Array Value) (hl : vals.size = args.length)
    (ha : ∀ (i : Nat) (x : PV) (v : Value), args[i]? = some x → vals[i]? = some v → R (fun _ => none) (fun _ => False) w x v) : Calls P f vals w fun e w' => e = .returned (.bool true) ∧ Below w.heap.size w w' := by
  refine (FnOK.calls h w hGL vals hl ha).mono ?_
  rintro e w' ⟨rs, rfl, hr⟩
  obtain ⟨Y, v0, g0, rfl, h0, hb⟩ := hr.one
  exact ⟨by rw [rr_bool h0], hb⟩
theorem inI_of_wf {n : Int} (h : (Lit.int .i64 n).wf = true) : inI n := by
  simp only [Lit.wf, Bool.and_eq_true, decide_eq_true_eq] at h
  unfold inI
  exact ⟨h.1, h.2⟩
theorem R_int (w : World) (n : Int) : R (fun _ => none) (fun _ => False) w (.d (.int .i64 n)) (.int .i64 n) := .d _ _ (.int _ _)
theorem R_bool (w : World) (b : Bool) : R (fun _ => none) (fun _ => False) w (.d (.bool b)) (.bool b) := .d _ _ (.bool _)
theorem R_str (w : World) (s : ByteArray) : R (fun _ => none) (fun _ => False) w (.d (.str s)) (.string s) := .d _ _ (.str _)
theorem R_of_crd1 {w : World} {d : D} {v : Value} {vs : List Value} (hv : vs = [v]) (h : CRd w [d] vs) : R (fun _ => none) (fun _ => False) w (.d d) v := by
  subst hv
  exact .d _ _ (h.2 0 d v rfl rfl)
theorem R_of_crd {w : World} {ds : List D} {cs : Array Value} (h : CRd w ds cs.toList) : R (fun _ => none) (fun _ => False) w (.agg (ds.map .d)) (.agg cs) := by
  refine .agg _ _ (by simpa using h.1) fun i x v hx hv => ?_
  rw [List.getElem?_map] at hx
  cases hd : ds[i]? with
  | none => rw [hd] at hx; cases hx
  | some d =>
    rw [hd] at hx
    cases hx
    exact .d _ _ (h.2 i d v hd (by simpa using hv))
theorem args5 {m : Nat → Option Loc} {X : Nat → Prop} {w : World} {x0 x1 x2 x3 x4 : PV} {v0 v1 v2 v3 v4 : Value} (h0 : R m X w x0 v0) (h1 : R m X w x1 v1) (h2 : R m X w x2 v2) (h3 : R m X w x3 v3) (h4 : R m X w x4 v4) : ∀ (i : Nat) (x : PV) (v : Value), [x0, x1, x2, x3, x4][i]? = some x → #[v0, v1, v2, v3, v4][i]? = some v → R m X w x v := by
  intro i x v hx hv
  match i with
  | 0 => simp at hx hv; subst hx hv; exact h0
  | 1 => simp at hx hv; subst hx hv; exact h1
  | 2 => simp at hx hv; subst hx hv; exact h2
  | 3 => simp at hx hv; subst hx hv; exact h3
  | 4 => simp at hx hv; subst hx hv; exact h4
  | i + 5 => simp at hx
end Go.Proofs.YtjgpbbdapjjmiaaDoor
