/-
  Arguments of any shape, opened as plain data; reading facts that a walk carries along. No program is named here.
-/
import Derived.Test.YthocihmhljmgdaaGreatDoorZNoteW
import Derived.Test.YthocihmhljmgdaaGreatDoorSls
import Derived.Test.YthocihmhljmgdaaGreatDoorZGl
import Derived.Shelf.Strings.SplitCore
import Derived.Shelf.Strings.Count
import Derived.Shelf.Strings.Search3
import Derived.Lib.IndexBytes
namespace Go.Proofs.YthocihmhljmgdaaGreatDoor
open Go.ChangeShapes Go.WideShapes Go.ChangeAt Go.RowKit Go.Deep

section
variable {H : Type} {enc : TypeId × Value → H} {P : Program} {w : World} {base : Nat} {spare : Nat → Bool} {held : Bool}
/-- the cells read as data -/
def CRd (w : World) (ds : List D) (cs : List Value) : Prop := cs.length = ds.length ∧ ∀ (j : Nat) d u, ds[j]? = some d → cs[j]? = some u → Rd w (fun _ => False) d u
/-- a type's cells, opened -/
def OpenK (enc : TypeId × Value → H) (P : Program) (w : World) (base : Nat) (spare : Nat → Bool) (held : Bool) {α : Type} (dat : α → List D) (ok : α → Prop) (t : TypeId) (sz : Nat) : Prop :=
  (∀ x, (dat x).length = sz) ∧ ∀ fuel cs y, DataW.trod enc P w base spare held fuel t cs = some y → ∃ x : α, ok x ∧ CRd w (dat x) cs
theorem OpenK.int {t : TypeId} (ht : P.underlying t = some (.int .i64)) : OpenK enc P w base spare held datI (fun _ => True) t 1 := by
  refine ⟨fun _ => rfl, fun fuel cs y h => ?_⟩
  obtain ⟨n, rfl, _, _⟩ := DataW.trod_int ht h
  refine ⟨n, trivial, rfl, fun j d u hd hu => ?_⟩
  cases j with
  | zero => simp [datI] at hd hu; subst hd hu; exact .int _ _
  | succ j => simp [datI] at hd
def datB (b : Bool) : List D := [.bool b]
theorem OpenK.bool {t : TypeId} (ht : P.underlying t = some .bool) : OpenK enc P w base spare held datB (fun _ => True) t 1 := by
  refine ⟨fun _ => rfl, fun fuel cs y h => ?_⟩
  obtain ⟨n, rfl, _⟩ := DataW.trod_bool ht h
  refine ⟨n, trivial, rfl, fun j d u hd hu => ?_⟩
  cases j with
  | zero => simp [datB] at hd hu; subst hd hu; exact .bool _
  | succ j => simp [datB] at hd
def datS (s : ByteArray) : List D := [.str s]
theorem OpenK.str {t : TypeId} (ht : P.underlying t = some .string) : OpenK enc P w base spare held datS (fun s => s.size ≤ maxLen) t 1 := by
  refine ⟨fun _ => rfl, fun fuel cs y h => ?_⟩
  obtain ⟨n, rfl, _, hl⟩ := DataW.trod_string ht h
  refine ⟨n, hl, rfl, fun j d u hd hu => ?_⟩
  cases j with
  | zero => simp [datS] at hd hu; subst hd hu; exact .str _
  | succ j => simp [datS] at hd
theorem OpenK.map {α β : Type} {dat : α → List D} {ok : α → Prop} {t : TypeId} {sz : Nat} (h : OpenK enc P w base spare held dat ok t sz) (f : α → β) (dat' : β → List D) (ok' : β → Prop) (hl : ∀ y, (dat' y).length = sz) (hd : ∀ x, dat' (f x) = dat x) (ho : ∀ x, ok x → ok' (f x)) : OpenK enc P w base spare held dat' ok' t sz := by
  refine ⟨hl, fun fuel cs y hy => ?_⟩
  obtain ⟨x, h1, h2⟩ := h.2 fuel cs y hy
  exact ⟨f x, ho x h1, by rw [hd]; exact h2⟩
def datL {α : Type} (sz : Nat) (dat : α → List D) (xs : List α) : List D := [.lst sz (xs.map dat)]
theorem OpenK.slc {α : Type} {dat : α → List D} {ok : α → Prop} {t e : TypeId} {sz : Nat} (h : OpenK enc P w base spare held dat ok e sz) (ht : P.underlying t = some (.slice e)) (hC : P.cellsOf e = sz) (hsz : 0 < sz) :
    OpenK enc P w base spare held (datL sz dat) (fun xs => xs.length ≤ maxLen ∧ ∀ x ∈ xs, ok x) t 1 := by
  refine ⟨fun _ => rfl, fun fuel cs y hy => ?_⟩
  rcases open_slice ht hy with ⟨rfl, _⟩ | ⟨a, len, cap, m, n, D', Pl, rfl, hb, hl, hm, hmm, _, hx⟩
  · refine ⟨[], ⟨by simp, by simp⟩, rfl, fun j d u hd hu => ?_⟩
    cases j with
    | zero => simp [datL] at hd hu; subst hd hu; exact .nil _ _ _
    | succ j => simp [datL] at hd
  · have hlm : len ≤ m := by rw [hmm]; split <;> omega
    obtain ⟨xs, hxl, hxs⟩ := exists_list (p := fun i (x : α) => ok x ∧ ∀ (j : Nat) d, (dat x)[j]? = some d → ∃ u, w.cell? ((a.add (i * sz)).add j) = some u ∧ Rd w (fun _ => False) d u) len fun i hi => by
      obtain ⟨cs', h1, h2⟩ := hx i (by omega)
      obtain ⟨x, h3, h4⟩ := h.2 _ _ _ h2
      rw [hC] at h1
      obtain ⟨hcl, _, hc⟩ := World.cells?_some h1
      refine ⟨x, h3, fun j d hd => ?_⟩
      have hj : j < sz := by rw [← h.1 x]; exact (List.getElem?_eq_some_iff.1 hd).1
      have hjc : j < cs'.length := by rw [h4.1, h.1]; exact hj
      refine ⟨cs'[j], by rw [hc j hj]; exact List.getElem?_eq_getElem hjc, h4.2 j d _ hd (List.getElem?_eq_getElem hjc)⟩
    refine ⟨xs, ⟨by omega, fun x hx => ?_⟩, rfl, fun j d u hd hu => ?_⟩
    · obtain ⟨i, hi⟩ := List.getElem?_of_mem hx
      exact (hxs i x hi).1
    · cases j with
      | succ j => simp [datL] at hd
      | zero =>
        simp [datL] at hd hu
        subst hd hu
        obtain ⟨b, off, spot⟩ := a
        rcases Nat.eq_zero_or_pos len with h0 | h0
        · have : xs = [] := List.eq_nil_of_length_eq_zero (by omega)
          subst this
          subst h0
          exact .nil _ _ _
        · have hsp : spot = none := by
            have hd0 := List.getElem?_eq_getElem (show 0 < (dat xs[0]).length by rw [h.1]; exact hsz)
            obtain ⟨u, hu, _⟩ := (hxs 0 xs[0] (List.getElem?_eq_getElem (by omega))).2 0 _ hd0
            simpa [Addr.add] using World.cell?_spot hu
          subst hsp
          have key : ∀ (k : Nat) e (j : Nat) d, (xs.map dat)[k]? = some e → e[j]? = some d → ∃ u, w.cell? ⟨b, off + (k * sz + j), none⟩ = some u ∧ Rd w (fun _ => False) d u := by
            intro k e j d he hd
            rw [List.getElem?_map] at he
            cases hk : xs[k]? with
            | none => rw [hk] at he; cases he
            | some x =>
              rw [hk] at he
              cases he
              obtain ⟨u, h1, h2⟩ := (hxs k x hk).2 j d hd
              have e2 : ((⟨b, off, none⟩ : Addr).add (k * sz)).add j = ⟨b, off + (k * sz + j), none⟩ := by
                unfold Addr.add
                split <;> split <;> simp_all <;> omega
              rw [e2] at h1
              exact ⟨u, h1, h2⟩
          rw [← hxl, ← List.length_map (f := dat)]
          refine .lst _ _ _ _ _ (by rw [List.length_map]; omega) (fun e he => ?_) (fun k e j d he hd => ⟨fun h => h, ?_⟩) (fun k e j d v he hd hv => ?_)
          · obtain ⟨x, _, rfl⟩ := List.mem_map.1 he; exact h.1 x
          · obtain ⟨u, q1, _⟩ := key k e j d he hd; exact ⟨u, q1⟩
          · obtain ⟨u, q1, q2⟩ := key k e j d he hd
            rw [hv] at q1
            cases q1
            exact q2
/-- the fields of a struct, from one on -/
def OpenFs (enc : TypeId × Value → H) (P : Program) (w : World) (base : Nat) (spare : Nat → Bool) (held : Bool) (o : Nat) (fs : List Field) {α : Type} (dat : α → List D) (ok : α → Prop) (sz : Nat) : Prop :=
  (∀ x, (dat x).length = sz) ∧ ∀ cs : List Value, (∀ f ∈ fs, ∃ n y, DataW.trod enc P w base spare held n f.type ((cs.drop f.offset).take (P.cellsOf f.type)) = some y) → ∃ x : α, ok x ∧ ∀ (j : Nat) d u, (dat x)[j]? = some d → cs[o + j]? = some u → Rd w (fun _ => False) d u
theorem OpenFs.nil (o : Nat) : OpenFs enc P w base spare held o [] (fun _ : Unit => []) (fun _ => True) 0 :=
  ⟨fun _ => rfl, fun cs _ => ⟨(), trivial, fun j d u hd _ => by simp at hd⟩⟩
theorem OpenFs.cons {α β : Type} {dat : α → List D} {dat' : β → List D} {ok : α → Prop} {ok' : β → Prop} {o sz sz' : Nat} {f : Field} {fs : List Field} (h : OpenK enc P w base spare held dat ok f.type sz) (ho : f.offset = o) (hC : P.cellsOf f.type = sz) (h' : OpenFs enc P w base spare held (o + sz) fs dat' ok' sz') :
    OpenFs enc P w base spare held o (f :: fs) (fun p : α × β => dat p.1 ++ dat' p.2) (fun p => ok p.1 ∧ ok' p.2) (sz + sz') := by
  refine ⟨fun x => by rw [List.length_append, h.1, h'.1], fun cs hc => ?_⟩
  obtain ⟨n, y, hy⟩ := hc f (by simp)
  obtain ⟨x, h1, h2⟩ := h.2 _ _ _ hy
  obtain ⟨x', h3, h4⟩ := h'.2 cs fun g hg => hc g (List.mem_cons_of_mem _ hg)
  refine ⟨(x, x'), ⟨h1, h3⟩, fun j d u hd hu => ?_⟩
  by_cases hj : j < sz
  · rw [List.getElem?_append_left (by rw [h.1]; exact hj)] at hd
    refine h2.2 j d u hd ?_
    rw [ho, hC, List.getElem?_take_of_lt hj, List.getElem?_drop]
    exact hu
  · rw [List.getElem?_append_right (by rw [h.1]; omega), h.1] at hd
    exact h4 (j - sz) d u hd (by rw [show o + sz + (j - sz) = o + j by omega]; exact hu)
theorem OpenK.st {α : Type} {dat : α → List D} {ok : α → Prop} {t : TypeId} {fs : Array Field} {sz : Nat} (h : OpenFs enc P w base spare held 0 fs.toList dat ok sz) (ht : P.underlying t = some (.struct fs)) (hC : P.cellsOf t = sz) : OpenK enc P w base spare held dat ok t sz := by
  refine ⟨h.1, fun fuel cs y hy => ?_⟩
  obtain ⟨ys, n, _, _, hlen, hyl, hf⟩ := DataW.trod_struct ht hy
  obtain ⟨x, h1, h2⟩ := h.2 cs fun f hfm => by
    obtain ⟨i, hi⟩ := List.getElem?_of_mem hfm
    have hi' : fs[i]? = some f := by simpa using hi
    have hlt : i < ys.length := by rw [hyl]; exact (Array.getElem?_eq_some_iff.1 hi').1
    exact ⟨n, ys[i], by rw [hf i f hi', List.getElem?_eq_getElem hlt]⟩
  exact ⟨x, h1, by rw [hlen, hC, h.1], fun j d u hd hu => h2 j d u hd (by simpa using hu)⟩
end
end Go.Proofs.YthocihmhljmgdaaGreatDoor
namespace Go.Proofs.YthocihmhljmgdaaGreatDoor
open Go.ChangeShapes Go.WideShapes Go.ChangeAt Go.RowKit Go.Deep

theorem mwalk {P : Program} {f : FuncId} {args : List PV} (h : FnEq P f args [.d (.bool true)]) (w : World) (hGL : GL w) (vals : Array Value) (hl : vals.size = args.length)
    (ha : ∀ (i : Nat) (x : PV) (v : Value), args[i]? = some x → vals[i]? = some v → R (fun _ => none) (fun _ => False) w x v) : Calls P f vals w fun e w' => e = .returned (.bool true) ∧ Below w.heap.size w w' := by
  refine (FnOK.calls h w hGL vals hl ha).mono ?_
  rintro e w' ⟨rs, rfl, hr⟩
  obtain ⟨Y, v0, g0, rfl, h0, hb⟩ := hr.one
  exact ⟨by rw [rr_bool h0], hb⟩
theorem R_of_crd1 {w : World} {d : D} {v : Value} {vs : List Value} (hv : vs = [v]) (h : CRd w [d] vs) : R (fun _ => none) (fun _ => False) w (.d d) v := by
  subst hv
  exact .d _ _ (h.2 0 d v rfl rfl)
end Go.Proofs.YthocihmhljmgdaaGreatDoor

/-
  The library's cutting of a text at one byte, in the abstract machine.
-/
set_option linter.unusedSimpArgs false
set_option linter.unusedVariables false
set_option maxHeartbeats 2000000
set_option maxRecDepth 100000
namespace Go.Proofs.YthocihmhljmgdaaGreatDoor
open Go.RowKit


theorem hi9 : (Tryz.prog.info? 9).map (fun i => (i.zero, i.size, i.bytes)) = some (some (.string ByteArray.empty), 1, 16) := by kernel_rfl
theorem genSplit_ok (c : UInt8) (s : ByteArray) (hs : s.size < 4294967281) : FnEq Tryz.prog 102 [.d (.str s), .d (.str ⟨#[c]⟩), .d (.int .i64 0), .d (.int .i64 (-1))] [.row 9 1 ((splB c s).map datS)] := by
  refine ⟨⟨_, Tryz.func102, rfl, rfl⟩, fun w X vals _ hX hl hr => ?_⟩
  have hl4 : vals.size = 4 := hl
  obtain ⟨v0, v1, v2, v3, rfl⟩ : ∃ v0 v1 v2 v3, vals = #[v0, v1, v2, v3] := by
    obtain ⟨l⟩ := vals
    match l, hl4 with
    | [a, b, d, e], _ => exact ⟨a, b, d, e, rfl⟩
  have h0 := hr 0 _ _ rfl rfl
  have h1 := hr 1 _ _ rfl rfl
  have h2 := hr 2 _ _ rfl rfl
  have h3 := hr 3 _ _ rfl rfl
  obtain rfl : v0 = .string s := h0.str
  obtain rfl : v1 = .string ⟨#[c]⟩ := h1.str
  obtain rfl : v2 = .int .i64 0 := h2.int
  obtain rfl : v3 = .int .i64 (-1) := h3.int
  have hcnt : Lib.countB s ⟨#[c]⟩ + 1 = (splB c s).length := by
    rw [← splB_lib]
    exact (Lib.splitB_all ⟨#[c]⟩ (Nat.le_refl 1) 0 _ s rfl).symm
  have hle := splB_le c s
  have key := Any.strings_genSplit_core (P := Tryz.prog) { Tryz.splitLays with } hi9 s ⟨#[c]⟩ 0 (-1) (Lib.countB s ⟨#[c]⟩ + 1) w hs (Nat.le_refl 1) (Nat.zero_le _)
    (fun x k _ => by
      have := Any.strings_Index_one (P := Tryz.prog) { Tryz.splitLays with } x c (w.alloc (.cells k (Tryz.splitLays_ren.t 9)))
      rw [← Lib.index_one] at this
      exact this)
    (by
      have := Any.strings_Count_one (P := Tryz.prog) { Tryz.splitLays with } s c w
      have e : Lib.countByte s.data.toList c = Lib.countB s ⟨#[c]⟩ := (Lib.count_one c _).symm
      rw [e] at this
      exact this)
    (by decide) (by decide) (by rw [if_pos (by decide)]; omega)
  rw [Nat.add_sub_cancel, splB_lib, hcnt, Lib.cellsOf_full] at key
  refine Calls.mono key fun e w' ⟨he, hw⟩ => ?_
  subst hw
  refine ⟨_, rfl, #[.slice (some ⟨w.heap.size, 0, none⟩) (splB c s).length (splB c s).length], fun i b => match i with | 0 => b = w.heap.size | _ => False, he, rfl, (Bel.refl _ _).alloc (Nat.le_refl _) _, ?_, fun i r u h5 h6 => ?_⟩
  · intro i j x hi hj
    match i, j, hi, hj with
    | 0, 0, _, _ => rfl
  · match i with
    | 0 =>
      simp only [List.getElem?_cons_zero, Option.some.injEq] at h5
      subst h5
      have h7 : u = .slice (some ⟨w.heap.size, 0, none⟩) (splB c s).length (splB c s).length := by simpa using h6.symm
      subst h7
      have hrow := RR.row (Y := fun b => X b ∨ ∃ j, (match j with | 0 => b = w.heap.size | _ => False : Prop)) (B := w.heap.size) (w := w.alloc (.cells ((splB c s).map Value.string).toArray 9)) 9 1 ((splB c s).map datS) w.heap.size (splB c s).length ((splB c s).map Value.string).toArray (Nat.le_refl _)
        (heap_alloc_new w _) ⟨by simp, by simp, by unfold maxLen; omega, fun e he => by obtain ⟨x, _, rfl⟩ := List.mem_map.1 he; rfl, fun k e j d v hk hj hv => by
          rw [List.getElem?_map] at hk
          cases hx : (splB c s)[k]? with
          | none => rw [hx] at hk; cases hk
          | some x =>
            rw [hx] at hk
            cases hk
            have hj0 : j = 0 := by
              have := (List.getElem?_eq_some_iff.1 hj).1
              simpa [datS] using this
            subst hj0
            simp only [datS, List.getElem?_cons_zero, Option.some.injEq] at hj
            subst hj
            rw [Nat.mul_one, Nat.add_zero, List.getElem?_toArray, List.getElem?_map, hx] at hv
            cases hv
            exact .str _⟩
      rw [List.length_map] at hrow
      exact hrow
    | i + 1 => simp at h5
theorem split_ok (c : UInt8) (s : ByteArray) (hs : s.size < 4294967281) : FnEq Tryz.prog 53 [.d (.str s), .d (.str ⟨#[c]⟩)] [.row 9 1 ((splB c s).map datS)] := by
  refine fn_ok G_ok Tryz.func53 rfl rfl ?_; simp only [Tryz.ntmps53, List.length_cons, List.length_nil, Nat.reduceAdd, Nat.reduceSub, enm]
  repeat' (first | ((with_reducible first | (refine hK _ ?_; clear hK K) | refine stq fun K' hK' => ?_ | refine stc ?_); try simp only [go_sem]) | (with_reducible first | refine stp ?_ | (refine hK' _ ?_; clear hK' K') | refine kN kl53 fun K hK => ?_ | refine kO fun K hK => ?_) | ((with_reducible apply CallK.eq); (· with_reducible first | exact genSplit_ok c s hs); (· simp [RV.flat, D.sc, datI]); try simp only [go_sem]) | (with_reducible refine pK_mk ?_ ?_ <;> (intro hc; (try simp only [go_sem]); (try simp at hc); try (exfalso; omega))) | with_reducible refine And.intro (by first | omega | (unfold inI; omega)) ?_)
  refine retQ_ret rfl (by simp only [retL, ret1, hget, lk, List.length_map, List.length_nil, List.length_append, List.length_take, if_true, if_false, Nat.reduceEqDiff, Nat.reduceBEq, Bool.false_eq_true, Option.some.injEq]; rfl) (by simp [rowsOf, lk]) ?_; rfl
end Go.Proofs.YthocihmhljmgdaaGreatDoor
