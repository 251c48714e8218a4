/-
  The small functions on numbers.
-/
import Derived.Test.YtjgpbbdapjjmiaaDoorProg
import Derived.Test.YtjgpbbdapjjmiaaDoorBase
import Derived.ProofKit
import Derived.OpenShut
import Derived.ShutString
import Derived.ChangeOld
import Derived.Deep.Slices
import Derived.Deep.Fields
namespace Go.Proofs.YtjgpbbdapjjmiaaDoor
open Go.RowKit

set_option maxHeartbeats 400000 in
theorem within_any (n lo hi : Int) (w : World) :
    Calls Tryd.prog 40 #[.int .i64 n, .int .i64 lo, .int .i64 hi] w fun e w' => e = .returned (.bool (decide (lo ≤ n) && decide (n ≤ hi))) ∧ w = w' := by
  go_enter Tryd.func40, Tryd.ntmps40
  go_wp2
  all_goals go_ret
  · rename_i h
    exact ⟨by simp [h], rfl⟩
  · rename_i h
    have h' : ¬ lo ≤ n := by omega
    exact ⟨by simp [h'], rfl⟩

set_option maxHeartbeats 400000 in
theorem l1In_any (n lo hi : Int) (w : World) :
    Calls Tryd.prog 35 #[.int .i64 n, .int .i64 lo, .int .i64 hi] w fun e w' => e = .returned (.bool (decide (lo ≤ n) && decide (n ≤ hi))) ∧ w = w' := by
  go_enter Tryd.func35, Tryd.ntmps35
  go_wp2
  all_goals go_ret
  · rename_i h
    exact ⟨by simp [h], rfl⟩
  · rename_i h
    have h' : ¬ lo ≤ n := by omega
    exact ⟨by simp [h'], rfl⟩

theorem within_yes {n lo hi : Int} (h1 : lo ≤ n) (h2 : n ≤ hi) (w : World) : Calls Tryd.prog 40 #[.int .i64 n, .int .i64 lo, .int .i64 hi] w fun e w' => e = .returned (.bool true) ∧ w = w' := by
  have h := within_any n lo hi w
  simpa [h1, h2] using h
theorem within_no {n lo hi : Int} (h : ¬ (lo ≤ n ∧ n ≤ hi)) (w : World) : Calls Tryd.prog 40 #[.int .i64 n, .int .i64 lo, .int .i64 hi] w fun e w' => e = .returned (.bool false) ∧ w = w' := by
  have h0 := within_any n lo hi w
  have e : (decide (lo ≤ n) && decide (n ≤ hi)) = false := by simpa using h
  rwa [e] at h0
theorem l1In_yes {n lo hi : Int} (h1 : lo ≤ n) (h2 : n ≤ hi) (w : World) : Calls Tryd.prog 35 #[.int .i64 n, .int .i64 lo, .int .i64 hi] w fun e w' => e = .returned (.bool true) ∧ w = w' := by
  have h := l1In_any n lo hi w
  simpa [h1, h2] using h
theorem l1In_no {n lo hi : Int} (h : ¬ (lo ≤ n ∧ n ≤ hi)) (w : World) : Calls Tryd.prog 35 #[.int .i64 n, .int .i64 lo, .int .i64 hi] w fun e w' => e = .returned (.bool false) ∧ w = w' := by
  have h0 := l1In_any n lo hi w
  have e : (decide (lo ≤ n) && decide (n ≤ hi)) = false := by simpa using h
  rwa [e] at h0

end Go.Proofs.YtjgpbbdapjjmiaaDoor
namespace Go.Proofs.YtjgpbbdapjjmiaaDoor
open Go.RowKit

/-- a slice of slices that reads as a list of lists -/
def RdL {α : Type} (enc : α → List Value) (sz : Nat) (w : World) (A : Option Addr) (xss : List (List α)) : Prop :=
  ∃ b off, (0 < xss.length → A = some ⟨b, off, none⟩) ∧ ∀ (k : Nat) (xs : List α), xss[k]? = some xs → ∃ A' c, w.cell? ⟨b, off + k, none⟩ = some (.slice A' xs.length c) ∧ RdS enc sz w A' xs
section
variable {α : Type} {enc : α → List Value} {sz : Nat} {w w' : World} {A : Option Addr} {xss : List (List α)}
theorem RdL.ext (h : RdL enc sz w A xss) (hb : Below w.heap.size w w') : RdL enc sz w' A xss := by
  obtain ⟨b, off, hA, hc⟩ := h
  exact ⟨b, off, hA, fun k xs hx => by
    obtain ⟨A', c, h1, h2⟩ := hc k xs hx
    exact ⟨A', c, cell_kept h1 hb, h2.ext hb⟩⟩
theorem RdL.nil_ : RdL enc sz w A [] := ⟨0, 0, by simp, by simp⟩
theorem RdL.at_ (h : RdL enc sz w A xss) {k : Nat} (hk : k < xss.length) :
    ∃ b off xs A' c, A = some ⟨b, off, none⟩ ∧ Hid (xss[k]? = some xs) ∧ w.cell? ⟨b, off + k, none⟩ = some (.slice A' xs.length c) ∧ RdS enc sz w A' xs := by
  obtain ⟨b, off, hA, hc⟩ := h
  obtain ⟨A', c, h1, h2⟩ := hc k _ (List.getElem?_eq_getElem hk)
  exact ⟨b, off, xss[k], A', c, hA (by omega), List.getElem?_eq_getElem hk, h1, h2⟩
end

/-- all lengths -/
def lenSum {α : Type} : List (List α) → Nat
  | [] => 0
  | x :: r => x.length + lenSum r
theorem lenSum_append {α : Type} : ∀ a b : List (List α), lenSum (a ++ b) = lenSum a + lenSum b
  | [], b => by simp [lenSum]
  | x :: r, b => by simp [lenSum, lenSum_append r b, Nat.add_assoc]
theorem lenSum_snoc {α : Type} {xss : List (List α)} {k : Nat} {xs : List α} (h : xss[k]? = some xs) : lenSum (xss.take (k + 1)) = lenSum (xss.take k) + xs.length := by
  rw [take_snoc h, lenSum_append]; simp [lenSum]
theorem lenSum_mem {α : Type} {xs : List α} : ∀ {xss : List (List α)}, xs ∈ xss → xs.length ≤ lenSum xss
  | y :: r, h => by
    rcases List.mem_cons.1 h with rfl | h
    · simp [lenSum]
    · have := lenSum_mem h
      simp only [lenSum]
      omega
theorem lenSum_take {α : Type} (xss : List (List α)) (k : Nat) : lenSum (xss.take k) ≤ lenSum xss := by
  have h : lenSum (xss.take k ++ xss.drop k) = lenSum (xss.take k) + lenSum (xss.drop k) := lenSum_append _ _
  rw [List.take_append_drop] at h
  omega

def Sep (vs : List Value) : Prop := vs.Pairwise fun a b => ∀ g, a.ownBlock = some g → b.ownBlock ≠ some g
theorem Sep.ne {vs : List Value} (h : Sep vs) {i j : Nat} {a b : Value} (ha : vs[i]? = some a) (hb : vs[j]? = some b) (hij : i ≠ j) : a.ownBlock = none ∨ a.ownBlock ≠ b.ownBlock := by
  obtain ⟨hi, rfl⟩ := List.getElem?_eq_some_iff.1 ha
  obtain ⟨hj, rfl⟩ := List.getElem?_eq_some_iff.1 hb
  rcases Nat.lt_or_gt_of_ne hij with hlt | hlt
  · have := List.pairwise_iff_getElem.1 h i j hi hj hlt
    cases e : (vs[i]).ownBlock with
    | none => exact .inl rfl
    | some g => exact .inr (this g e).symm
  · have := List.pairwise_iff_getElem.1 h j i hj hi hlt
    cases e : (vs[i]).ownBlock with
    | none => exact .inl rfl
    | some g => exact .inr (fun e2 => this g e2.symm e)
theorem Sep.snoc {vs : List Value} {u : Value} {B : Nat} (h : Sep vs) (hold : ∀ a ∈ vs, ∀ g, a.ownBlock = some g → g < B) (hnew : ∀ g, u.ownBlock = some g → B ≤ g) : Sep (vs ++ [u]) := by
  refine List.pairwise_append.2 ⟨h, by simp, fun a ha b hb g hg => ?_⟩
  have : b = u := by simpa using hb
  subst this
  intro e
  have h1 := hold a ha g hg
  have h2 := hnew g e
  omega

/-- a store into a row of another type -/
theorem OwnS.other {α : Type} {enc : α → List Value} {sz : Nat} {E EO : TypeId} {w : World} {B g i : Nat} {v u : Value} {xs : List α} {cs : List Value} (h : OwnS enc sz E w B v xs) (hr : Row w g EO cs) (hne : E ≠ EO) : OwnS enc sz E (w.setCell ⟨g, i, none⟩ u) B v xs := by
  rcases h.2 with hv | ⟨g', cap, cur, hv, hb, hh, hc, hm, hs, ht⟩
  · exact ⟨h.1, .inl hv⟩
  · have hgg : g' ≠ g := by
      rintro rfl
      unfold Row at hr
      rw [hh] at hr
      injection hr with hr
      injection hr with _ hE
      exact hne hE
    exact ⟨h.1, .inr ⟨g', cap, cur, hv, hb, (Below.heap_setCell w ⟨g, i, none⟩ u g' hgg).trans hh, hc, hm, hs, ht⟩⟩
theorem OwnS.kept {α : Type} {enc : α → List Value} {sz : Nat} {E : TypeId} {w w' : World} {B : Nat} {v : Value} {xs : List α} {row : Option Nat} (h : OwnS enc sz E w B v xs) (hg : w.grownBy w' row) (hne : v.ownBlock = none ∨ v.ownBlock ≠ row) : OwnS enc sz E w' B v xs := World.ownsRow.kept h hg hne

/-- a row of slices that the call made, each the call's own and apart from the others -/
def OwnL {α : Type} (enc : α → List Value) (sz : Nat) (E EO : TypeId) (w : World) (B : Nat) (v : Value) (xss : List (List α)) : Prop :=
  ∃ vs : List Value, w.ownsRow B EO 1 v xss.length vs ∧ (∀ (k : Nat) (xs : List α), xss[k]? = some xs → ∃ u, vs[k]? = some u ∧ OwnS enc sz E w B u xs) ∧ Sep vs
section
variable {α : Type} {enc : α → List Value} {sz : Nat} {E EO : TypeId} {w w' : World} {B : Nat} {v : Value} {xss : List (List α)}
theorem OwnL.ext (h : OwnL enc sz E EO w B v xss) (hb : Below w.heap.size w w') : OwnL enc sz E EO w' B v xss := by
  obtain ⟨vs, h1, h2, h3⟩ := h
  exact ⟨vs, World.ownsRow.kept (row := none) h1 ⟨hb.os, hb.tape, hb.output, hb.size, fun k hk _ => hb.block k hk⟩ (by cases hv : v.ownBlock <;> simp), fun k xs hx => by
    obtain ⟨u, e, h⟩ := h2 k xs hx
    exact ⟨u, e, h.ext hb⟩, h3⟩
theorem OwnL.slice (henc : ∀ x, (enc x).length = sz) (h : OwnL enc sz E EO w B v xss) : ∃ A c, v = .slice A xss.length c ∧ RdL enc sz w A xss := by
  obtain ⟨vs, h1, h2, _⟩ := h
  rcases h1.2 with ⟨rfl, hn⟩ | ⟨g, cap, cur, rfl, hb, hh, hc, hm, hs, ht⟩
  · have : xss = [] := List.eq_nil_of_length_eq_zero hn
    subst this
    exact ⟨none, 0, rfl, RdL.nil_⟩
  · refine ⟨_, cap, rfl, g, 0, fun _ => rfl, fun k xs hx => ?_⟩
    obtain ⟨u, hu, ho⟩ := h2 k xs hx
    obtain ⟨A', c, rfl, hr⟩ := ho.slice henc
    refine ⟨A', c, ?_, hr⟩
    have hk : k < xss.length := (List.getElem?_eq_some_iff.1 hx).1
    rw [Nat.mul_one] at ht
    rw [← ht, List.getElem?_take_of_lt hk] at hu
    simp only [World.cell?, hh, Nat.zero_add]
    simpa using hu
theorem OwnL.low {B' : Nat} (h : OwnL enc sz E EO w B v xss) (hB : B' ≤ B) : OwnL enc sz E EO w B' v xss := by
  obtain ⟨vs, h1, h2, h3⟩ := h
  exact ⟨vs, World.ownsRow.mono h1 hB, fun k xs hx => by
    obtain ⟨u, e, h⟩ := h2 k xs hx
    exact ⟨u, e, h.low hB⟩, h3⟩
end
def RetL {α : Type} (enc : α → List Value) (sz : Nat) (E EO : TypeId) (xss : List (List α)) (w : World) (e : Ending) (w' : World) : Prop :=
  ∃ v, e = .returned v ∧ OwnL enc sz E EO w' w.heap.size v xss ∧ Below w.heap.size w w'

/-- a row of slices that is being filled -/
def MadeL {α : Type} (enc : α → List Value) (sz : Nat) (E EO : TypeId) (B g : Nat) (xss : List (List α)) (k : Nat) (w : World) : Prop :=
  ∃ cs, Row w g EO cs ∧ cs.length = xss.length ∧ (∀ (j : Nat) (xs : List α), j < k → xss[j]? = some xs → ∃ u, cs[j]? = some u ∧ OwnS enc sz E w B u xs) ∧ Sep (cs.take k)
section
variable {α : Type} {enc : α → List Value} {sz : Nat} {E EO : TypeId} {w w' : World} {B g : Nat} {xss : List (List α)} {k : Nat}
theorem MadeL.start {cs : List Value} (h : Row w g EO cs) (hl : cs.length = xss.length) : MadeL enc sz E EO B g xss 0 w := ⟨cs, h, hl, fun _ _ h => absurd h (by omega), by simp [Sep]⟩
theorem MadeL.row (h : MadeL enc sz E EO B g xss k w) : ∃ cs, Row w g EO cs ∧ Hid (cs.length = xss.length) :=
  let ⟨cs, h1, h2, _⟩ := h
  ⟨cs, h1, h2⟩
theorem MadeL.next (h : MadeL enc sz E EO B g xss k w) (hb : Below w.heap.size w w') {u : Value} {xs : List α} (hx : xss[k]? = some xs) (ho : OwnS enc sz E w' w.heap.size u xs) (hB : B ≤ w.heap.size) (hne : E ≠ EO) :
    MadeL enc sz E EO B g xss (k + 1) (w'.setCell ⟨g, k, none⟩ u) := by
  obtain ⟨cs, h1, h2, h3, h4⟩ := h
  have hk : k < xss.length := (List.getElem?_eq_some_iff.1 hx).1
  have hr' := h1.ext hb
  refine ⟨cs.set k u, hr'.set_ k u, by simpa using h2, fun j ys hj hy => ?_, ?_⟩
  · by_cases e : j = k
    · subst e
      rw [hx] at hy
      cases hy
      exact ⟨u, by rw [List.getElem?_set_self (by omega)], (ho.low hB).other hr' hne⟩
    · obtain ⟨u', e1, o1⟩ := h3 j ys (by omega) hy
      exact ⟨u', by rw [List.getElem?_set_ne (by omega)]; exact e1, (o1.ext hb).other hr' hne⟩
  · have e : (cs.set k u).take (k + 1) = cs.take k ++ [u] := by
      rw [List.take_succ_eq_append_getElem (by simp; omega), List.take_set_of_le (by omega)]
      simp
    rw [e]
    refine h4.snoc (B := w.heap.size) (fun a ha gg hg => ?_) (fun gg hg => (ho.blocks gg hg).1)
    obtain ⟨j, hj⟩ := List.getElem?_of_mem ha
    have hjk : j < k := by
      have := (List.getElem?_eq_some_iff.1 hj).1
      simp at this
      omega
    rw [List.getElem?_take_of_lt hjk] at hj
    obtain ⟨u', e1, o1⟩ := h3 j xss[j] hjk (List.getElem?_eq_getElem (by omega))
    rw [hj] at e1
    cases e1
    exact (o1.blocks gg hg).2
theorem MadeL.done (h : MadeL enc sz E EO B g xss xss.length w) (hB : B ≤ g) (hn : xss.length ≤ maxLen) : OwnL enc sz E EO w B (.slice (some ⟨g, 0, none⟩) xss.length xss.length) xss := by
  obtain ⟨cs, h1, h2, h3, h4⟩ := h
  exact ⟨cs, h1.own hB (by omega) hn, fun k xs hx => h3 k xs (List.getElem?_eq_some_iff.1 hx).1 hx, by rwa [List.take_of_length_le (by omega)] at h4⟩
end

/-- a row of slices, each of which is being overwritten: what is kept -/
def MarkL {α : Type} (enc : α → List Value) (sz : Nat) (E EO : TypeId) (w0 : World) (B hi g : Nat) (vs : List Value) (xss : List (List α)) (w : World) : Prop :=
  Marked B hi w0 w ∧ (∃ cur, w.heap[g]? = some (.cells cur EO (0, 0)) ∧ vs.length ≤ cur.size ∧ cur.toList.take vs.length = vs) ∧ (∀ (k : Nat) (xs : List α), xss[k]? = some xs → ∃ u xs', vs[k]? = some u ∧ xs'.length = xs.length ∧ OwnS enc sz E w B u xs') ∧ Sep vs ∧
    ∀ a ∈ vs, ∀ g', a.ownBlock = some g' → g' < hi
section
variable {α : Type} {enc : α → List Value} {sz : Nat} {E EO : TypeId} {w0 w w' : World} {B hi g : Nat} {vs : List Value} {xss : List (List α)}
theorem OwnL.mark {w1 : World} {A : Option Addr} {n c : Nat} (h : OwnL enc sz E EO w1 B (.slice A n c) xss) (hb : Below w1.heap.size w1 w) (hn : 0 < n) : ∃ g vs, A = some ⟨g, 0, none⟩ ∧ n = xss.length ∧ MarkL enc sz E EO w B w1.heap.size g vs xss w := by
  obtain ⟨vs, h1, h2, h3⟩ := h
  rcases h1.2 with ⟨hv, _⟩ | ⟨g, cap, cur, hv, hbg, hh, hc, hm, hs, ht⟩
  · cases hv; omega
  · have hl := h1.1
    rw [Nat.mul_one] at hl ht
    cases hv
    have hgl : g < w1.heap.size := Row.lt (cs := cur.toList) hh
    refine ⟨g, vs, rfl, rfl, Marked.refl _ _ _, ⟨cur, (hb.block g hgl).trans hh, by rw [hl]; omega, by rw [hl]; exact ht⟩, fun k xs hx => ?_, h3, fun a ha g' hg' => ?_⟩
    · obtain ⟨u, e, o⟩ := h2 k xs hx
      exact ⟨u, xs, e, rfl, o.ext hb⟩
    · obtain ⟨k, hk⟩ := List.getElem?_of_mem ha
      have hkl : k < xss.length := by rw [← hl]; exact (List.getElem?_eq_some_iff.1 hk).1
      obtain ⟨u, e, o⟩ := h2 k xss[k] (List.getElem?_eq_getElem hkl)
      rw [hk] at e
      cases e
      exact (o.blocks g' hg').2
theorem MarkL.at_ (h : MarkL enc sz E EO w0 B hi g vs xss w) {k : Nat} (hk : k < xss.length) : ∃ xs u xs', Hid (xss[k]? = some xs) ∧ Hid (vs[k]? = some u) ∧ Hid (xs'.length = xs.length) ∧ w.cell? ⟨g, k, none⟩ = some u ∧ OwnS enc sz E w B u xs' := by
  obtain ⟨_, ⟨cur, hh, hc, ht⟩, h3, _⟩ := h
  obtain ⟨u, xs', hu, hl, ho⟩ := h3 k xss[k] (List.getElem?_eq_getElem hk)
  refine ⟨xss[k], u, xs', List.getElem?_eq_getElem hk, hu, hl, ?_, ho⟩
  have hkv : k < vs.length := (List.getElem?_eq_some_iff.1 hu).1
  rw [← ht, List.getElem?_take_of_lt hkv] at hu
  simp only [World.cell?, hh]
  simpa using hu
theorem MarkL.next (h : MarkL enc sz E EO w0 B hi g vs xss w) (hne : E ≠ EO) {k : Nat} {u : Value} {xs zs : List α} (hu : vs[k]? = some u) (hx : xss[k]? = some xs) (hl : zs.length = xs.length) (ho : OwnS enc sz E w B u zs) {ys : List α} (hy : ys.length = zs.length) (ho' : OwnS enc sz E w' B u ys) (hg : w.grownBy w' u.ownBlock) : MarkL enc sz E EO w0 B hi g vs xss w' := by
  obtain ⟨h1, ⟨cur, hh, hc, ht⟩, h3, h4, h5⟩ := h
  refine ⟨h1.trans (Marked.of_grown hg fun g' e => ⟨(ho.blocks g' e).1, h5 u (List.mem_of_getElem? hu) g' e⟩), ⟨cur, ?_, hc, ht⟩, fun j zs' hz => ?_, h4, h5⟩
  · have hgl : g < w.heap.size := Row.lt (cs := cur.toList) hh
    refine (hg.block g hgl fun e => ?_).trans hh
    rcases ho.2 with ⟨hv, _⟩ | ⟨g', cap, cur', hv, _, hh', _⟩
    · rw [hv] at e; simp [Value.ownBlock] at e
    · rw [hv] at e
      have : g = g' := by simpa [Value.ownBlock] using e
      subst this
      rw [hh] at hh'
      injection hh' with hh'
      injection hh' with _ hE
      exact hne hE.symm
  · obtain ⟨u', xs', e1, l1, o1⟩ := h3 j zs' hz
    by_cases e : j = k
    · subst e
      rw [hx] at hz
      cases hz
      exact ⟨u, ys, hu, by omega, ho'⟩
    · exact ⟨u', xs', e1, l1, o1.kept hg (h4.ne e1 hu e)⟩
end
end Go.Proofs.YtjgpbbdapjjmiaaDoor
namespace Go.Proofs.YtjgpbbdapjjmiaaDoor
open Go.RowKit

def encI (x : Int) : List Value := [.int .i64 x]
theorem encI_len (x : Int) : (encI x).length = 1 := rfl
theorem encI_one (x : Int) : ∀ u ∈ encI x, u.oneCell' = true := by simp [encI, Value.oneCell']

theorem RdS.int {w : World} {A : Option Addr} {xs : List Int} (h : RdS encI 1 w A xs) {k : Nat} (hk : k < xs.length) :
    ∃ b off x, A = some ⟨b, off, none⟩ ∧ Hid (xs[k]? = some x) ∧ w.cell? ⟨b, off + k, none⟩ = some (.int .i64 x) := by
  obtain ⟨b, off, x, hA, hx, hc⟩ := h.elem hk
  exact ⟨b, off, x, hA, hx, by simpa using hc 0 _ rfl⟩

theorem int_info : (Tryd.prog.info? 3).map (fun i => (i.zero, i.size, i.bytes)) = some (some (.int .i64 0), 1, 8) := by kernel_rfl

set_option maxHeartbeats 400000 in
theorem l1Has_any (A : Option Addr) (c : Nat) (xs : List Int) (n : Int) (hn : xs.length ≤ 16777216) (w : World) (hr : RdS encI 1 w A xs) :
    Calls Tryd.prog 36 #[.slice A xs.length c, .int .i64 n] w (RetB (n ∈ xs) w) := by
  go_enter Tryd.func36, Tryd.ntmps36
  go_wp2
  go_loop [9] (fun i => ∃ k : Nat, k ≤ xs.length ∧ i = .int .i64 k ∧ n ∉ xs.take k) (fun i => xs.length - (intOf i).toNat)
  case atStart => exact ⟨0, by omega, rfl, by simp⟩
  case round =>
    obtain ⟨k, hk, rfl, ht⟩ := hrel
    have HT := Lib.hid ht
    clear ht
    by_cases hlt : k < xs.length
    · obtain ⟨b, off, x, rfl, hx, c0⟩ := hr.int hlt
      go_wp2
      · go_ret
        have h : (x == n) = true := by assumption
        exact RetB.mkT (by have e : x = n := by simpa using h
                           subst e
                           exact List.mem_of_getElem? hx.out) (Below.refl _ _)
      · have h : (x == n) = false := by assumption
        go_round
        case rel => exact ⟨k + 1, by omega, vint (by omega), by rw [take_snoc hx.out]; have e : ¬ x = n := (by simpa using h); intro hm; rcases List.mem_append.1 hm with h1 | h1; exact HT.out h1; simp at h1; exact e h1.symm⟩
        case measure => simp [intOf]; omega
    · go_wp2
      go_ret
      exact RetB.mkF (by have h := HT.out; rwa [List.take_of_length_le (by omega)] at h) (Below.refl _ _)

set_option maxHeartbeats 1000000 in
theorem eqIntS_any (A A' : Option Addr) (c c' : Nat) (xs ys : List Int) (hn : xs.length ≤ 16777216) (w : World) (hr : RdS encI 1 w A xs) (hr' : RdS encI 1 w A' ys) :
    Calls Tryd.prog 8 #[.slice A xs.length c, .slice A' ys.length c'] w (RetB (xs = ys) w) := by
  by_cases hl : xs.length = ys.length
  · have hd : ((xs.length : Int) != (ys.length : Int)) = false := by simp [hl]
    have HL := Lib.hid hl
    clear hl
    go_enter Tryd.func8, Tryd.ntmps8
    go_wp2
    go_loopw [5] (fun i wr => ∃ k : Nat, k ≤ xs.length ∧ i = .int .i64 k ∧ xs.take k = ys.take k ∧ Below w.heap.size w wr) (fun i _ => xs.length - (intOf i).toNat)
    case atStart => exact ⟨0, by omega, rfl, by simp, (by repeat (first | exact Below.refl _ _ | assumption | refine Below.drew ?_ | refine below_drewN ?_ _ | refine Below.alloc ?_ (by simp <;> omega) _ | refine Below.setCell ?_ (by simp <;> omega) _))⟩
    case round =>
      obtain ⟨k, hk, rfl, ht, hb⟩ := hrel
      have HT := Lib.hid ht
      clear ht hd
      by_cases hlt : k < xs.length
      · have hlt' : k < ys.length := by have := HL.out; omega
        obtain ⟨b, off, x, rfl, hx, c0⟩ := (hr.ext hb).int hlt
        obtain ⟨b', off', y, rfl, hy, d0⟩ := (hr'.ext hb).int hlt'
        have q0 := fun i : Later wr => i.cell c0
        have p0 := fun i : Later wr => i.cell d0
        have ne := Later.ne wr
        clear hr hr'
        go_wp2
        refine wp_region_later (by kernel_rfl) (by kernel_rfl) ?_
        repeat (go_big_quiet_step (fail))
        refine wpQuiet_nil ?_
        rintro _ ⟨i1, rfl⟩
        have hb1 := i1.below
        generalize i1.w = w1 at hb1 ⊢
        clear q0 p0 ne
        go_wp2
        · go_ret
          have h : (x != y) = true := by assumption
          exact RetB.mkF (fun e => by have h1 := hx.out; have h2 := hy.out; rw [e] at h1; rw [h1] at h2; simp at h2; simp [h2] at h) (below_then hb hb.size hb1)
        · have h : (x != y) = false := by assumption
          go_roundw
          case rel => exact ⟨k + 1, by omega, vint (by omega), by rw [take_snoc hx.out, take_snoc hy.out, HT.out]; simp at h; rw [h], below_then hb hb.size hb1⟩
          case measure => simp [intOf]; omega
      · go_wp2
        go_ret
        exact RetB.mkT (by have h := HT.out; have h2 := HL.out; rwa [List.take_of_length_le (by omega), List.take_of_length_le (by omega)] at h) hb
  · have hd : ((xs.length : Int) != (ys.length : Int)) = true := by rw [bne_iff_ne]; omega
    have HL := Lib.hid hl
    clear hl
    go_enter Tryd.func8, Tryd.ntmps8
    go_wp2
    go_ret
    exact RetB.mkF (fun h => HL.out (by rw [h])) (Below.refl _ _)

def marksI (k : Int) (n : Nat) : List Int := (List.range n).map fun (i : Nat) => k + (i : Int)
theorem marksI_len (k : Int) (n : Nat) : (marksI k n).length = n := by simp [marksI]
theorem marksI_get {k : Int} {n i : Nat} (h : i < n) : (marksI k n)[i]? = some (k + (i : Int)) := by simp [marksI, h]

set_option maxHeartbeats 1000000 in
theorem markIntS_any (A : Option Addr) (n c B : Nat) (xs : List Int) (hn : n ≤ 16777216) (k : Int) (h0 : 0 ≤ k) (h1 : k ≤ 1099511627776) (w : World) (ho : OwnS encI 1 3 w B (.slice A n c) xs) :
    Calls Tryd.prog 9 #[.slice A n c, .int .i64 k] w fun e w' => e = .returned (.int .i64 (k + n)) ∧ OwnS encI 1 3 w' B (.slice A n c) (marksI k n) ∧ w.grownBy w' (Value.slice A n c).ownBlock := by
  rcases Nat.eq_zero_or_pos n with hz | hz
  · subst hz
    go_enter Tryd.func9, Tryd.ntmps9
    go_wp2
    go_loop [1, 5] (fun q i => q = .int .i64 k ∧ i = .int .i64 0) (fun _ _ => 0)
    case atStart => exact ⟨rfl, rfl⟩
    case round =>
      obtain ⟨rfl, rfl⟩ := hrel
      go_wp2
      go_ret
      exact ⟨ret_int (by omega), ho.zero, World.grownBy.refl _ _⟩
  · obtain ⟨g, N, rfl, rfl, hB, -, hnN, hN, hm0⟩ := ho.made hz (marksI k n) (enc' := encI)
    clear ho
    have hN' := hN
    unfold maxLen at hN'
    go_enter Tryd.func9, Tryd.ntmps9
    go_wp2
    go_loopw [1, 5] (fun q i wr => ∃ j : Nat, j ≤ n ∧ i = .int .i64 j ∧ q = .int .i64 (k + j) ∧ Made3 g 3 1 encI (marksI k n) c j wr ∧ w.grownBy wr (some g)) (fun _ i _ => n - (intOf i).toNat)
    case atStart => exact ⟨0, by omega, rfl, by simp, hm0, World.grownBy.refl _ _⟩
    case round =>
    obtain ⟨j, hj, rfl, rfl, hm, hgr⟩ := hrel
    clear hm0
    by_cases hlt : j < n
    · obtain ⟨cs, hrow, hl⟩ := hm.row
      obtain ⟨u0, d0⟩ := hrow.cellAt (i := j) (by have := hl.out; omega)
      have f0 := hrow.frozen j
      have hm2 := hm.next encI_len (marksI_get hlt) (by rw [marksI_len]; exact hnN)
      have hg2 := only_put (encI (k + (j : Int))) j hgr
      simp only [encI, putW, Nat.mul_one] at hm2 hg2
      go_wp2
      go_roundw
      case rel => exact ⟨j + 1, by omega, vint (by omega), vint (by omega), hm2, hg2⟩
      case measure => simp [intOf]; omega
    · have hk' : n = j := by omega
      have HK := Lib.hid hk'
      clear hk'
      go_wp2
      go_ret
      exact ⟨ret_int (by have := HK.out; omega), by have e := HK.out; rw [← e] at hm; have h2 := Made3.done (B := B) encI_len (by rw [marksI_len]; exact hm) hB (by rw [marksI_len]; exact hnN) hN; rwa [marksI_len] at h2, hgr⟩

set_option maxHeartbeats 1000000 in
theorem heldIntS_any (A : Option Addr) (n c : Nat) (hn : n ≤ 16777216) (k : Int) (h0 : 0 ≤ k) (h1 : k ≤ 1099511627776) (w : World) (hr : RdS encI 1 w A (marksI k n)) :
    Calls Tryd.prog 10 #[.slice A n c, .int .i64 k] w fun e w' => e = .returned (.int .i64 (k + n)) ∧ w = w' := by
  go_enter Tryd.func10, Tryd.ntmps10
  go_wp2
  go_loop [1, 5] (fun q i => ∃ j : Nat, j ≤ n ∧ i = .int .i64 j ∧ q = .int .i64 (k + j)) (fun _ i => n - (intOf i).toNat)
  case atStart => exact ⟨0, by omega, rfl, by simp⟩
  case round =>
    obtain ⟨j, hj, rfl, rfl⟩ := hrel
    by_cases hlt : j < n
    · obtain ⟨b, off, x, rfl, hx, c0⟩ := hr.int (k := j) (by rw [marksI_len]; exact hlt)
      obtain rfl : k + (j : Int) = x := by have h := hx.out; rw [marksI_get hlt] at h; exact Option.some.inj h
      clear hx
      go_wp2
      go_round
      case rel => exact ⟨j + 1, by omega, vint (by omega), vint (by omega)⟩
      case measure => simp [intOf]; omega
    · have hk' : n = j := by omega
      have HK := Lib.hid hk'
      clear hk'
      go_wp2
      go_ret
      exact ⟨ret_int (by have := HK.out; omega), rfl⟩

end Go.Proofs.YtjgpbbdapjjmiaaDoor
namespace Go.Proofs.YtjgpbbdapjjmiaaDoor
open Go.ChangeShapes Go.WideShapes Go.ChangeAt Go.RowKit Go.Deep

theorem exists_list {α : Type} {p : Nat → α → Prop} : ∀ n : Nat, (∀ i, i < n → ∃ x, p i x) → ∃ xs : List α, xs.length = n ∧ ∀ i x, xs[i]? = some x → p i x
  | 0, _ => ⟨[], rfl, fun i x h => by simp at h⟩
  | n + 1, h => by
    obtain ⟨xs, hl, hx⟩ := exists_list n fun i hi => h i (by omega)
    obtain ⟨x, hp⟩ := h n (by omega)
    refine ⟨xs ++ [x], by simp [hl], fun i y hi => ?_⟩
    rcases Nat.lt_or_ge i xs.length with hlt | hge
    · rw [List.getElem?_append_left hlt] at hi
      exact hx i y hi
    · rw [List.getElem?_append_right hge] at hi
      have e : i = n := by
        rcases Nat.lt_or_ge (i - xs.length) 1 with h1 | h1
        · omega
        · rw [List.getElem?_eq_none (by simpa using h1)] at hi; cases hi
      subst e
      rw [hl, Nat.sub_self] at hi
      have : x = y := by simpa using hi
      subst this
      exact hp

section
variable {H : Type} {enc : TypeId × Value → H} {P : Program} {w : World} {base : Nat} {spare : Nat → Bool} {held : Bool}
theorem open_rdS {α : Type} {en : α → List Value} {sz : Nat} {t e : TypeId} {fuel : Nat} {v : Value} {x : DataW H × List MemPlace} (ht : P.underlying t = some (.slice e)) (hC : P.cellsOf e = sz) (hlen : ∀ x, (en x).length = sz) (hsz : 0 < sz)
    (hel : ∀ n cs y, DataW.trod enc P w base spare held n e cs = some y → ∃ x : α, cs = en x)
    (h : DataW.trod enc P w base spare held fuel t [v] = some x) : ∃ (A : Option Addr) (c : Nat) (xs : List α), v = .slice A xs.length c ∧ RdS en sz w A xs ∧ xs.length ≤ maxLen := by
  rcases open_slice ht h with ⟨hv, _⟩ | ⟨a, len, cap, m, n, D, Pl, hv, hb, hl, hm, hmm, _, hx⟩
  · have e1 : v = .slice none 0 0 := by simpa using hv
    exact ⟨none, 0, [], by simpa using e1, RdS.nil_, by simp [maxLen]⟩
  · have e1 : v = .slice (some a) len cap := by simpa using hv
    have hlm : len ≤ m := by rw [hmm]; split <;> omega
    obtain ⟨xs, hxl, hxs⟩ := exists_list (p := fun i (x : α) => ∀ j u, (en x)[j]? = some u → w.cell? ((a.add (i * sz)).add j) = some u) len fun i hi => by
      obtain ⟨cs', h1, h2⟩ := hx i (by omega)
      obtain ⟨x, rfl⟩ := hel _ _ _ h2
      rw [hC] at h1
      obtain ⟨_, _, hc⟩ := World.cells?_some h1
      refine ⟨x, fun j u hu => ?_⟩
      rw [hc j (by rw [← hlen x]; exact (List.getElem?_eq_some_iff.1 hu).1)]
      exact hu
    refine ⟨some a, cap, xs, by rw [hxl]; exact e1, ?_, by omega⟩
    obtain ⟨b, off, spot⟩ := a
    rcases Nat.eq_zero_or_pos len with h0 | h0
    · have : xs = [] := List.eq_nil_of_length_eq_zero (by omega)
      subst this
      exact RdS.nil_
    · have hsp : spot = none := by
        have hx0 := hxs 0 xs[0] (List.getElem?_eq_getElem (by omega)) 0 ((en xs[0])[0]'(by rw [hlen]; exact hsz)) (List.getElem?_eq_getElem _)
        simpa [Addr.add] using World.cell?_spot hx0
      subst hsp
      refine ⟨b, off, fun _ => rfl, fun k x hk j u hu => ?_⟩
      have h3 := hxs k x hk j u hu
      have e2 : ((⟨b, off, none⟩ : Addr).add (k * sz)).add j = ⟨b, off + k * sz + j, none⟩ := by
        unfold Addr.add
        split <;> split <;> simp_all
      rwa [e2] at h3

theorem open_rdL {α : Type} {en : α → List Value} {sz : Nat} {t e : TypeId} {fuel : Nat} {v : Value} {x : DataW H × List MemPlace} (ht : P.underlying t = some (.slice e)) (hC : P.cellsOf e = 1)
    (hel : ∀ n u y, DataW.trod enc P w base spare held n e [u] = some y → ∃ (A : Option Addr) (c : Nat) (xs : List α), u = .slice A xs.length c ∧ RdS en sz w A xs ∧ xs.length ≤ maxLen)
    (h : DataW.trod enc P w base spare held fuel t [v] = some x) : ∃ (A : Option Addr) (c : Nat) (xss : List (List α)), v = .slice A xss.length c ∧ RdL en sz w A xss ∧ xss.length ≤ maxLen ∧ ∀ xs ∈ xss, xs.length ≤ maxLen := by
  rcases open_slice1 ht hC h with ⟨hv, _⟩ | ⟨a, len, cap, m, n, V, D, Pl, hv, hb, hl, hm, hmm, _, hx⟩
  · have e1 : v = .slice none 0 0 := by simpa using hv
    exact ⟨none, 0, [], by simpa using e1, RdL.nil_, by simp [maxLen], by simp⟩
  · have e1 : v = .slice (some a) len cap := by simpa using hv
    have hlm : len ≤ m := by rw [hmm]; split <;> omega
    obtain ⟨xss, hxl, hxs⟩ := exists_list (p := fun i (xs : List α) => xs.length ≤ maxLen ∧ ∃ A' c, w.cell? (a.add i) = some (.slice A' xs.length c) ∧ RdS en sz w A' xs) len fun i hi => by
      obtain ⟨h1, h2⟩ := hx i (by omega)
      obtain ⟨A', c, xs, hV, hr, hml⟩ := hel _ _ _ h2
      rw [hV] at h1
      exact ⟨xs, hml, A', c, h1, hr⟩
    refine ⟨some a, cap, xss, by rw [hxl]; exact e1, ?_, by omega, fun xs hx => ?_⟩
    · obtain ⟨b, off, spot⟩ := a
      rcases Nat.eq_zero_or_pos len with h0 | h0
      · have : xss = [] := List.eq_nil_of_length_eq_zero (by omega)
        subst this
        exact RdL.nil_
      · have hsp : spot = none := by
          obtain ⟨_, A', c, h1, _⟩ := hxs 0 xss[0] (List.getElem?_eq_getElem (by omega))
          simpa [Addr.add] using World.cell?_spot h1
        subst hsp
        refine ⟨b, off, fun _ => rfl, fun k xs hk => ?_⟩
        obtain ⟨_, A', c, h1, h2⟩ := hxs k xs hk
        have e2 : (⟨b, off, none⟩ : Addr).add k = ⟨b, off + k, none⟩ := by
          unfold Addr.add
          split <;> simp_all
        rw [e2] at h1
        exact ⟨A', c, h1, h2⟩
    · obtain ⟨i, hi⟩ := List.getElem?_of_mem hx
      exact (hxs i xs hi).1

theorem field_one {fs : Array Field} {t : TypeId} {n : Nat} {cs : List Value} {y : DataW H × List MemPlace} (hs : P.underlying t = some (.struct fs)) (hone : oneCellFields P fs = true) (hC : P.cellsOf t = fs.size)
    (h : DataW.trod enc P w base spare held n t cs = some y) : cs.length = fs.size ∧ ∀ (j : Nat) (f : Field), fs[j]? = some f → ∃ (u : Value) (m : Nat) (z : DataW H × List MemPlace), cs[j]? = some u ∧ DataW.trod enc P w base spare held m f.type [u] = some z := by
  obtain ⟨ys, n', hn', hy, hlen, hyl, hf⟩ := DataW.trod_struct hs h
  rw [hC] at hlen
  refine ⟨hlen, fun j f hj => ?_⟩
  obtain ⟨ho, hk⟩ := hone_of hone j f hj
  have hjl : j < fs.size := (Array.getElem?_eq_some_iff.1 hj).1
  have h1 := hf j f hj
  rw [ho, hk] at h1
  have e1 : (cs.drop j).take 1 = [cs[j]'(by omega)] := by
    rw [List.drop_eq_getElem_cons (by omega)]
    rfl
  rw [e1, List.getElem?_eq_getElem (by omega : j < ys.length)] at h1
  exact ⟨_, _, _, List.getElem?_eq_getElem (by omega), h1⟩
end

theorem cells_slice (A : Option Addr) (n c : Nat) : (Value.slice A n c).cells.toList = [.slice A n c] := rfl
theorem below_lt {H : Type} {enc : TypeId × Value → H} {P : Program} {w : World} {t : TypeId} {v : Value} {d : DataW H} {p : List MemPlace} (h : DataW.Trod enc P w 0 (fun _ => true) true t v d p) : ∀ x ∈ p, x.block < w.heap.size := by
  obtain ⟨m, hm⟩ := h
  exact DataW.trod_lt m _ _ _ hm
end Go.Proofs.YtjgpbbdapjjmiaaDoor
