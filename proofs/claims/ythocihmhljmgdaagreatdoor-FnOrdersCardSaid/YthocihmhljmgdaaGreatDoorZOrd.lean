/-
  The small functions on numbers.
-/
import Derived.Test.YthocihmhljmgdaaGreatDoorProg
import Derived.Test.YthocihmhljmgdaaGreatDoorZBase
import Derived.ProofKit
import Derived.OpenShut
import Derived.ShutString
import Derived.ChangeOld
import Derived.Deep.Slices
import Derived.Deep.Fields
import Derived.Test.YthocihmhljmgdaaGreatDoorZG
namespace Go.Proofs.YthocihmhljmgdaaGreatDoor
open Go.RowKit

end Go.Proofs.YthocihmhljmgdaaGreatDoor
namespace Go.Proofs.YthocihmhljmgdaaGreatDoor
open Go.RowKit

/-- a slice of slices that reads as a list of lists -/
def RdL {α : Type} (enc : α → List Value) (sz : Nat) (w : World) (A : Option Addr) (xss : List (List α)) : Prop :=
  ∃ b off, (0 < xss.length → A = some ⟨b, off, none⟩) ∧ ∀ (k : Nat) (xs : List α), xss[k]? = some xs → ∃ A' c, w.cell? ⟨b, off + k, none⟩ = some (.slice A' xs.length c) ∧ RdS enc sz w A' xs
section
variable {α : Type} {enc : α → List Value} {sz : Nat} {w w' : World} {A : Option Addr} {xss : List (List α)}
theorem RdL.ext (h : RdL enc sz w A xss) (hb : Below w.heap.size w w') : RdL enc sz w' A xss := by
  obtain ⟨b, off, hA, hc⟩ := h
  exact ⟨b, off, hA, fun k xs hx => by
    obtain ⟨A', c, h1, h2⟩ := hc k xs hx
    exact ⟨A', c, cell_kept h1 hb, h2.ext hb⟩⟩
theorem RdL.nil_ : RdL enc sz w A [] := ⟨0, 0, by simp, by simp⟩
end

def Sep (vs : List Value) : Prop := vs.Pairwise fun a b => ∀ g, a.ownBlock = some g → b.ownBlock ≠ some g
theorem Sep.snoc {vs : List Value} {u : Value} {B : Nat} (h : Sep vs) (hold : ∀ a ∈ vs, ∀ g, a.ownBlock = some g → g < B) (hnew : ∀ g, u.ownBlock = some g → B ≤ g) : Sep (vs ++ [u]) := by
  refine List.pairwise_append.2 ⟨h, by simp, fun a ha b hb g hg => ?_⟩
  have : b = u := by simpa using hb
  subst this
  intro e
  have h1 := hold a ha g hg
  have h2 := hnew g e
  omega

theorem OwnS.kept {α : Type} {enc : α → List Value} {sz : Nat} {E : TypeId} {w w' : World} {B : Nat} {v : Value} {xs : List α} {row : Option Nat} (h : OwnS enc sz E w B v xs) (hg : w.grownBy w' row) (hne : v.ownBlock = none ∨ v.ownBlock ≠ row) : OwnS enc sz E w' B v xs := World.ownsRow.kept h hg hne

/-- a row of slices that the call made, each the call's own and apart from the others -/
def OwnL {α : Type} (enc : α → List Value) (sz : Nat) (E EO : TypeId) (w : World) (B : Nat) (v : Value) (xss : List (List α)) : Prop :=
  ∃ vs : List Value, w.ownsRow B EO 1 v xss.length vs ∧ (∀ (k : Nat) (xs : List α), xss[k]? = some xs → ∃ u, vs[k]? = some u ∧ OwnS enc sz E w B u xs) ∧ Sep vs
section
variable {α : Type} {enc : α → List Value} {sz : Nat} {E EO : TypeId} {w w' : World} {B : Nat} {v : Value} {xss : List (List α)}
theorem OwnL.ext (h : OwnL enc sz E EO w B v xss) (hb : Below w.heap.size w w') : OwnL enc sz E EO w' B v xss := by
  obtain ⟨vs, h1, h2, h3⟩ := h
  exact ⟨vs, World.ownsRow.kept (row := none) h1 ⟨hb.os, hb.tape, hb.output, hb.size, fun k hk _ => hb.block k hk⟩ (by cases hv : v.ownBlock <;> simp), fun k xs hx => by
    obtain ⟨u, e, h⟩ := h2 k xs hx
    exact ⟨u, e, h.ext hb⟩, h3⟩
theorem OwnL.slice (henc : ∀ x, (enc x).length = sz) (h : OwnL enc sz E EO w B v xss) : ∃ A c, v = .slice A xss.length c ∧ RdL enc sz w A xss := by
  obtain ⟨vs, h1, h2, _⟩ := h
  rcases h1.2 with ⟨rfl, hn⟩ | ⟨g, cap, cur, rfl, hb, hh, hc, hm, hs, ht⟩
  · have : xss = [] := List.eq_nil_of_length_eq_zero hn
    subst this
    exact ⟨none, 0, rfl, RdL.nil_⟩
  · refine ⟨_, cap, rfl, g, 0, fun _ => rfl, fun k xs hx => ?_⟩
    obtain ⟨u, hu, ho⟩ := h2 k xs hx
    obtain ⟨A', c, rfl, hr⟩ := ho.slice henc
    refine ⟨A', c, ?_, hr⟩
    have hk : k < xss.length := (List.getElem?_eq_some_iff.1 hx).1
    rw [Nat.mul_one] at ht
    rw [← ht, List.getElem?_take_of_lt hk] at hu
    simp only [World.cell?, hh, Nat.zero_add]
    simpa using hu
end
/-- a row of slices that is being filled -/
def MadeL {α : Type} (enc : α → List Value) (sz : Nat) (E EO : TypeId) (B g : Nat) (xss : List (List α)) (k : Nat) (w : World) : Prop :=
  ∃ cs, Row w g EO cs ∧ cs.length = xss.length ∧ (∀ (j : Nat) (xs : List α), j < k → xss[j]? = some xs → ∃ u, cs[j]? = some u ∧ OwnS enc sz E w B u xs) ∧ Sep (cs.take k)
section
variable {α : Type} {enc : α → List Value} {sz : Nat} {E EO : TypeId} {w w' : World} {B g : Nat} {xss : List (List α)} {k : Nat}
theorem MadeL.row (h : MadeL enc sz E EO B g xss k w) : ∃ cs, Row w g EO cs ∧ Hid (cs.length = xss.length) :=
  let ⟨cs, h1, h2, _⟩ := h
  ⟨cs, h1, h2⟩
theorem MadeL.done (h : MadeL enc sz E EO B g xss xss.length w) (hB : B ≤ g) (hn : xss.length ≤ maxLen) : OwnL enc sz E EO w B (.slice (some ⟨g, 0, none⟩) xss.length xss.length) xss := by
  obtain ⟨cs, h1, h2, h3, h4⟩ := h
  exact ⟨cs, h1.own hB (by omega) hn, fun k xs hx => h3 k xs (List.getElem?_eq_some_iff.1 hx).1 hx, by rwa [List.take_of_length_le (by omega)] at h4⟩
end

section
variable {α : Type} {enc : α → List Value} {sz : Nat} {E EO : TypeId} {w0 w w' : World} {B hi g : Nat} {vs : List Value} {xss : List (List α)}
end
end Go.Proofs.YthocihmhljmgdaaGreatDoor
namespace Go.Proofs.YthocihmhljmgdaaGreatDoor
open Go.RowKit

def encI (x : Int) : List Value := [.int .i64 x]
theorem RdS.int {w : World} {A : Option Addr} {xs : List Int} (h : RdS encI 1 w A xs) {k : Nat} (hk : k < xs.length) :
    ∃ b off x, A = some ⟨b, off, none⟩ ∧ Hid (xs[k]? = some x) ∧ w.cell? ⟨b, off + k, none⟩ = some (.int .i64 x) := by
  obtain ⟨b, off, x, hA, hx, hc⟩ := h.elem hk
  exact ⟨b, off, x, hA, hx, by simpa using hc 0 _ rfl⟩

end Go.Proofs.YthocihmhljmgdaaGreatDoor
namespace Go.Proofs.YthocihmhljmgdaaGreatDoor
open Go.ChangeShapes Go.WideShapes Go.ChangeAt Go.RowKit Go.Deep

theorem exists_list {α : Type} {p : Nat → α → Prop} : ∀ n : Nat, (∀ i, i < n → ∃ x, p i x) → ∃ xs : List α, xs.length = n ∧ ∀ i x, xs[i]? = some x → p i x
  | 0, _ => ⟨[], rfl, fun i x h => by simp at h⟩
  | n + 1, h => by
    obtain ⟨xs, hl, hx⟩ := exists_list n fun i hi => h i (by omega)
    obtain ⟨x, hp⟩ := h n (by omega)
    refine ⟨xs ++ [x], by simp [hl], fun i y hi => ?_⟩
    rcases Nat.lt_or_ge i xs.length with hlt | hge
    · rw [List.getElem?_append_left hlt] at hi
      exact hx i y hi
    · rw [List.getElem?_append_right hge] at hi
      have e : i = n := by
        rcases Nat.lt_or_ge (i - xs.length) 1 with h1 | h1
        · omega
        · rw [List.getElem?_eq_none (by simpa using h1)] at hi; cases hi
      subst e
      rw [hl, Nat.sub_self] at hi
      have : x = y := by simpa using hi
      subst this
      exact hp

section
variable {H : Type} {enc : TypeId × Value → H} {P : Program} {w : World} {base : Nat} {spare : Nat → Bool} {held : Bool}
end

theorem below_lt {H : Type} {enc : TypeId × Value → H} {P : Program} {w : World} {t : TypeId} {v : Value} {d : DataW H} {p : List MemPlace} (h : DataW.Trod enc P w 0 (fun _ => true) true t v d p) : ∀ x ∈ p, x.block < w.heap.size := by
  obtain ⟨m, hm⟩ := h
  exact DataW.trod_lt m _ _ _ hm
end Go.Proofs.YthocihmhljmgdaaGreatDoor

/-
  From contracts of the abstract machine to contracts over memory.
-/
namespace Go.Proofs.YthocihmhljmgdaaGreatDoor
open Go.RowKit

theorem FnOK.calls {P : Program} {f : FuncId} {args : List PV} {Post : List RV → Prop} (h : FnOK P f args Post) (w : World) (hGL : GL w) (vals : Array Value) (hl : vals.size = args.length)
    (ha : ∀ (i : Nat) (x : PV) (v : Value), args[i]? = some x → vals[i]? = some v → R (fun _ => none) (fun _ => False) w x v) : Calls P f vals w fun e w' => ∃ rs, Post rs ∧ Res (fun _ => False) w rs e w' :=
  h.2 w (fun _ => False) vals hGL (fun _ h => h.elim) hl ha

/-- values and plain data of one kind of element -/
structure EncOK {α : Type} (enc : α → List Value) (dat : α → List D) (sz : Nat) : Prop where
  len : ∀ x, (enc x).length = sz
  dlen : ∀ x, (dat x).length = sz
  to_ : ∀ x (j : Nat) d u, (dat x)[j]? = some d → (enc x)[j]? = some u → ∀ w X, Rd w X d u
  of_ : ∀ x (j : Nat) d u, (dat x)[j]? = some d → (enc x)[j]? = some u → ∀ w X v, Rd w X d v → v = u
section
variable {α : Type} {enc : α → List Value} {dat : α → List D} {sz : Nat}
theorem EncOK.get (h : EncOK enc dat sz) (x : α) {j : Nat} {d : D} (hd : (dat x)[j]? = some d) : ∃ u, (enc x)[j]? = some u := by
  have hj := (List.getElem?_eq_some_iff.1 hd).1
  rw [h.dlen] at hj
  exact ⟨_, List.getElem?_eq_getElem (by rw [h.len]; exact hj)⟩
end

def datI (x : Int) : List D := [.int .i64 x]
theorem rr_bool {Y : Nat → Prop} {B : Nat} {w : World} {b : Bool} {v : Value} {g : Nat → Prop} (h : RR Y B w (.d (.bool b)) v g) : v = .bool b := by
  cases h with
  | d _ _ h => cases h; rfl
/-- results, taken apart -/
theorem Res.one {X : Nat → Prop} {w : World} {r : RV} {e : Ending} {w' : World} (h : Res X w [r] e w') : ∃ Y v g, e = .returned v ∧ RR Y w.heap.size w' r v g ∧ Below w.heap.size w w' := by
  obtain ⟨vs, gs, h1, h2, h3, _, h5⟩ := h
  have h1' : vs.size = 1 := h2
  exact ⟨_, vs[0], gs 0, by rw [h1]; simp only [retV, h1', dif_pos], h5 0 r vs[0] rfl (by simp [h1']), h3.toBelow⟩
/-- two results lie apart -/
def apartB (v v' : Value) : Prop := v.ownBlock = none ∨ v.ownBlock ≠ v'.ownBlock
theorem apartB.symm {v v' : Value} (h : apartB v v') : apartB v' v := by
  rcases h with h | h
  · by_cases e : v'.ownBlock = none
    · exact .inl e
    · exact .inr (by rw [h]; exact e)
  · exact .inr (Ne.symm h)
theorem args2 {m : Nat → Option Loc} {X : Nat → Prop} {w : World} {x0 x1 : PV} {v0 v1 : Value} (h0 : R m X w x0 v0) (h1 : R m X w x1 v1) : ∀ (i : Nat) (x : PV) (v : Value), [x0, x1][i]? = some x → #[v0, v1][i]? = some v → R m X w x v := by
  intro i x v hx hv
  match i with
  | 0 => simp at hx hv; subst hx hv; exact h0
  | 1 => simp at hx hv; subst hx hv; exact h1
  | i + 2 => simp at hx
/-- the answer where V holds -/
noncomputable def optP {β : Type} (V : Prop) (F : β) : Option β := if bP V = true then some F else none
theorem optP_pos {β : Type} {V : Prop} {F : β} (h : V) : optP V F = some F := by unfold optP; rw [if_pos (bP_true h)]
theorem optP_neg {β : Type} {V : Prop} {F : β} (h : ¬ V) : optP V F = none := by unfold optP; rw [if_neg]; rw [bP_false h]; simp
end Go.Proofs.YthocihmhljmgdaaGreatDoor

/-
  Words on lists that the walks use: what is chosen and counted up to a place, the first place, bounds that hold up to a place. No program is named here.
-/
set_option linter.unusedSimpArgs false
set_option linter.unusedVariables false
set_option maxHeartbeats 2000000
set_option maxRecDepth 100000
namespace Go.Proofs.YthocihmhljmgdaaGreatDoor

section
variable {α β : Type}
/-- those of a list that are chosen, as f has them -/
def fm (p : α → Bool) (f : α → β) (l : List α) : List β := (l.filter p).map f
theorem fm_yes {p : α → Bool} {f : α → β} {l : List α} {k : Nat} {x : α} (hx : l[k]? = some x) (h : p x = true) : fm p f (l.take (k + 1)) = fm p f (l.take k) ++ [f x] := by
  unfold fm; rw [take_snoc hx, List.filter_append]; simp [h]
theorem fm_no {p : α → Bool} {f : α → β} {l : List α} {k : Nat} {x : α} (hx : l[k]? = some x) (h : p x = false) : fm p f (l.take (k + 1)) = fm p f (l.take k) := by
  unfold fm; rw [take_snoc hx, List.filter_append]; simp [h]
theorem fm_len (p : α → Bool) (f : α → β) (l : List α) : (fm p f l).length ≤ l.length := by unfold fm; rw [List.length_map]; exact List.length_filter_le _ _
theorem fm_take_len (p : α → Bool) (f : α → β) (l : List α) (k : Nat) : (fm p f (l.take k)).length ≤ k := Nat.le_trans (fm_len _ _ _) (List.length_take_le _ _)
theorem fm_mem {p : α → Bool} {f : α → β} {l : List α} {y : β} : y ∈ fm p f l ↔ ∃ x ∈ l, p x = true ∧ f x = y := by
  unfold fm; simp [and_assoc]
theorem map_snoc {f : α → β} {l : List α} {k : Nat} {x : α} (hx : l[k]? = some x) : (l.take (k + 1)).map f = (l.take k).map f ++ [f x] := by rw [take_snoc hx]; simp
/-- A holds at all places below k -/
def Upto (A : Nat → α → Prop) (l : List α) (k : Nat) : Prop := ∀ j x, j < k → l[j]? = some x → A j x
theorem Upto.zero (A : Nat → α → Prop) (l : List α) : Upto A l 0 := fun _ _ h => absurd h (by omega)
theorem Upto.succ {A : Nat → α → Prop} {l : List α} {k : Nat} {x : α} (h : Upto A l k) (hx : l[k]? = some x) (hf : A k x) : Upto A l (k + 1) := by
  intro j y hj hy
  by_cases e : j = k
  · subst e
    rw [hx] at hy
    cases hy
    exact hf
  · exact h j y (by omega) hy
def All (A : Nat → α → Prop) (l : List α) : Prop := ∀ j x, l[j]? = some x → A j x
theorem All.not_at {A : Nat → α → Prop} {l : List α} {k : Nat} {x : α} (hx : l[k]? = some x) (hf : ¬ A k x) : ¬ All A l := fun h => hf (h k x hx)
theorem Upto.all {A : Nat → α → Prop} {l : List α} {k : Nat} (h : Upto A l k) (hk : l.length ≤ k) : All A l := fun j x hx => h j x (Nat.lt_of_lt_of_le (List.getElem?_eq_some_iff.1 hx).1 hk) hx
end
/-- captured variables that are plain data -/
structure CapOK (caps : List PV) : Prop where
  t1 : ∀ hp, caps.map (ta1 hp) = caps
  t2 : ∀ hp, caps.map (ta2 hp) = caps
  ren : ∀ σ, renL σ caps = caps
  bd : ∀ nx, bdL nx caps = true
end Go.Proofs.YthocihmhljmgdaaGreatDoor
namespace Go.Proofs.YthocihmhljmgdaaGreatDoor
open Go.RowKit

theorem within_ok (n lo hi : Int) : FnEq Tryz.prog 47 [.d (.int .i64 n), .d (.int .i64 lo), .d (.int .i64 hi)] [.d (.bool (decide (lo ≤ n) && decide (n ≤ hi)))] := by
  refine fn_ok G_ok Tryz.func47 rfl rfl ?_; simp only [Tryz.ntmps47, List.length_cons, List.length_nil, Nat.reduceAdd, Nat.reduceSub, enm]
  repeat' (first | ((with_reducible first | (refine hK _ ?_; clear hK K) | refine stq fun K' hK' => ?_ | refine stc ?_); try simp only [go_sem]) | (with_reducible first | refine stp ?_ | (refine hK' _ ?_; clear hK' K') | refine kN kl47 fun K hK => ?_ | refine kO fun K hK => ?_) | (refine xS rfl fun K' hK' => ?_; simp only [go_sem]) | (with_reducible refine pK_mk ?_ ?_ <;> (intro hc; (try simp only [go_sem]); (try simp at hc); try (exfalso; omega))) | with_reducible refine And.intro (by first | omega | (unfold inI; omega)) ?_)
  · refine retQ_ret rfl rfl (by simp [rowsOf, lk]) ?_; simp [hc]
  · refine retQ_ret rfl rfl (by simp [rowsOf, lk]) ?_; simp; omega
theorem l1In_ok (n lo hi : Int) : FnEq Tryz.prog 96 [.d (.int .i64 n), .d (.int .i64 lo), .d (.int .i64 hi)] [.d (.bool (decide (lo ≤ n) && decide (n ≤ hi)))] := by
  refine fn_ok G_ok Tryz.func96 rfl rfl ?_; simp only [Tryz.ntmps96, List.length_cons, List.length_nil, Nat.reduceAdd, Nat.reduceSub, enm]
  repeat' (first | ((with_reducible first | (refine hK _ ?_; clear hK K) | refine stq fun K' hK' => ?_ | refine stc ?_); try simp only [go_sem]) | (with_reducible first | refine stp ?_ | (refine hK' _ ?_; clear hK' K') | refine kN kl96 fun K hK => ?_ | refine kO fun K hK => ?_) | (refine xS rfl fun K' hK' => ?_; simp only [go_sem]) | (with_reducible refine pK_mk ?_ ?_ <;> (intro hc; (try simp only [go_sem]); (try simp at hc); try (exfalso; omega))) | with_reducible refine And.intro (by first | omega | (unfold inI; omega)) ?_)
  · refine retQ_ret rfl rfl (by simp [rowsOf, lk]) ?_; simp [hc]
  · refine retQ_ret rfl rfl (by simp [rowsOf, lk]) ?_; simp; omega
theorem l1Has_ok (xs : List Int) (n : Int) (hn : xs.length ≤ 16777216) : FnEq Tryz.prog 97 [.d (.lst 1 (xs.map datI)), .d (.int .i64 n)] [.d (.bool (bP (n ∈ xs)))] := by
  refine fn_ok G_ok Tryz.func97 rfl rfl ?_; simp only [Tryz.ntmps97, List.length_cons, List.length_nil, Nat.reduceAdd, Nat.reduceSub, enm]
  repeat' (first | ((with_reducible first | (refine hK _ ?_; clear hK K) | refine stq fun K' hK' => ?_ | refine stc ?_); try simp only [go_sem]) | (with_reducible first | refine stp ?_ | (refine hK' _ ?_; clear hK' K') | refine kN kl97 fun K hK => ?_ | refine kO fun K hK => ?_) | refine iB ?_ | (with_reducible refine pK_mk ?_ ?_ <;> (intro hc; (try simp only [go_sem]); (try simp at hc); try (exfalso; omega))) | with_reducible refine And.intro (by first | omega | (unfold inI; omega)) ?_)
  refine pw_loop_over [4, 6, 9, 10, 11, 12, 13, 14, 15, 16] (fun k : Nat => [(9, .d (.int .i64 (k : Int)))]) (fun k : Nat => []) 0 (fun k : Nat => k ≤ xs.length ∧ n ∉ xs.take k) (fun k : Nat => xs.length - k) 0 ⟨Nat.zero_le _, by simp⟩ (fits_mk [] (by simp [renL_d, bdL_d, sg, over, wipe, wl, memN, ins, rm, lk, fitFr, fit1, ren, renL, bd, bdL, app, fitHp, hget, renB, bdB] <;> omega)) ?_
  rintro k ⟨hk, hJ⟩
  simp only [over, wipe, wl, memN, ins, rm, if_true, if_false, Nat.reduceEqDiff, Bool.false_eq_true, reduceCtorEq]
  by_cases hlt : k < xs.length
  · have hx := List.getElem?_eq_getElem hlt
    generalize xs[k] = x at hx
    repeat' (first | ((with_reducible first | (refine hK _ ?_; clear hK K) | refine stq fun K' hK' => ?_ | refine stc ?_); try simp only [go_sem, List.getElem?_map, hx, Option.map_some, datI]) | (with_reducible first | refine stp ?_ | (refine hK' _ ?_; clear hK' K') | refine kN kl97 fun K hK => ?_ | refine kO fun K hK => ?_) | refine iB ?_ | (with_reducible refine pK_mk ?_ ?_ <;> (intro hc; (try simp only [go_sem, List.getElem?_map, hx, Option.map_some, datI]); (try simp at hc); try (exfalso; omega))) | with_reducible refine And.intro (by first | omega | (unfold inI; omega)) ?_)
    · refine retQ_ret rfl rfl (by simp [rowsOf, lk]) ?_; rw [bP_true (hc ▸ List.mem_of_getElem? hx)]
    · exact ⟨k + 1, ⟨by omega, by rw [take_snoc hx]; simp [hJ, Ne.symm hc]⟩, by omega, (fits_mk [] (by simp [renL_d, bdL_d, sg, over, wipe, wl, memN, ins, rm, lk, fitFr, fit1, ren, renL, bd, bdL, app, fitHp, hget, renB, bdB] <;> omega))⟩
  · repeat' (first | ((with_reducible first | (refine hK _ ?_; clear hK K) | refine stq fun K' hK' => ?_ | refine stc ?_); try simp only [go_sem]) | (with_reducible first | refine stp ?_ | (refine hK' _ ?_; clear hK' K') | refine kN kl97 fun K hK => ?_ | refine kO fun K hK => ?_) | refine iB ?_ | (with_reducible refine pK_mk ?_ ?_ <;> (intro hc; (try simp only [go_sem]); (try simp at hc); try (exfalso; omega))) | with_reducible refine And.intro (by first | omega | (unfold inI; omega)) ?_)
    refine retQ_ret rfl rfl (by simp [rowsOf, lk]) ?_; rw [bP_false]; rwa [List.take_of_length_le (by omega)] at hJ
end Go.Proofs.YthocihmhljmgdaaGreatDoor

/-
  Orders of skaters: which are valid, who is in one, who is in one and not in another; the program's functions and the reference's, in the abstract machine.
-/
set_option linter.unusedSimpArgs false
set_option linter.unusedVariables false
set_option maxHeartbeats 2000000
set_option maxRecDepth 100000
namespace Go.Proofs.YthocihmhljmgdaaGreatDoor
open Go.RowKit

def OrdAt (l : List Int) (k : Nat) (x : Int) : Prop := 1 ≤ x ∧ x ≤ 999 ∧ x ∉ l.take k
def OrdUpto (l : List Int) (k : Nat) : Prop := ∀ j x, j < k → l[j]? = some x → OrdAt l j x
def OrdOk (l : List Int) : Prop := l.length ≤ 40 ∧ OrdUpto l l.length
theorem OrdUpto.zero (l : List Int) : OrdUpto l 0 := fun _ _ h => absurd h (by omega)
theorem OrdUpto.succ {l : List Int} {k : Nat} {x : Int} (h : OrdUpto l k) (hx : l[k]? = some x) (hf : OrdAt l k x) : OrdUpto l (k + 1) := by
  intro j y hj hy
  by_cases e : j = k
  · subst e
    rw [hx] at hy
    cases hy
    exact hf
  · exact h j y (by omega) hy
theorem OrdOk.not_at {l : List Int} {k : Nat} {x : Int} (hx : l[k]? = some x) (hf : ¬ OrdAt l k x) : ¬ OrdOk l :=
  fun h => hf (h.2 k x (List.getElem?_eq_some_iff.1 hx).1 hx)
theorem ord_end {l : List Int} {k : Nat} (h : OrdUpto l k) (hk : l.length ≤ k) (hk' : k ≤ l.length) : (decide ((l.length : Int) ≤ 40)) = bP (OrdOk l) := by
  by_cases h1 : l.length ≤ 40
  · rw [bP_true ⟨h1, by rwa [show k = l.length by omega] at h⟩]; simp; omega
  · rw [bP_false fun h' => h1 h'.1]; simp; omega
theorem idxOf_at {n : Int} : ∀ {xs : List Int} {k : Nat}, xs[k]? = some n → n ∉ xs.take k → xs.idxOf n = k
  | [], k, h, _ => by simp at h
  | x :: xs, 0, h, _ => by simp at h; simp [h]
  | x :: xs, k + 1, h, hn => by
    simp only [List.getElem?_cons_succ] at h
    simp only [List.take_succ_cons, List.mem_cons, not_or] at hn
    rw [List.idxOf_cons, Bool.cond_eq_ite, if_neg (by simpa using Ne.symm hn.1), idxOf_at h hn.2]
/-- the first place of a number, or -1 -/
noncomputable def ixOf (xs : List Int) (n : Int) : Int := if bP (n ∈ xs) = true then (xs.idxOf n : Int) else -1
theorem isSkater_ok (n : Int) : FnEq Tryz.prog 45 [.d (.int .i64 n)] [.d (.bool (decide (1 ≤ n) && decide (n ≤ 999)))] := by
  refine fn_ok G_ok Tryz.func45 rfl rfl ?_; simp only [Tryz.ntmps45, List.length_cons, List.length_nil, Nat.reduceAdd, Nat.reduceSub, enm]
  repeat' (first | ((with_reducible first | (refine hK _ ?_; clear hK K) | refine stq fun K' hK' => ?_ | refine stc ?_); try simp only [go_sem]) | (with_reducible first | refine stp ?_ | (refine hK' _ ?_; clear hK' K') | refine kN kl45 fun K hK => ?_ | refine kO fun K hK => ?_) | ((with_reducible apply CallK.eq); (· with_reducible first | exact within_ok _ _ _); (· simp [RV.flat, D.sc, datI]); try simp only [go_sem]) | (with_reducible refine pK_mk ?_ ?_ <;> (intro hc; (try simp only [go_sem]); (try simp at hc); try (exfalso; omega))) | with_reducible refine And.intro (by first | omega | (unfold inI; omega)) ?_)
  refine retQ_ret rfl rfl (by simp [rowsOf, lk]) ?_; rfl
theorem index_ok (xs : List Int) (n : Int) (hn : xs.length ≤ 16777216) : FnEq Tryz.prog 136 [.d (.lst 1 (xs.map datI)), .d (.int .i64 n)] [.d (.int .i64 (ixOf xs n))] := by
  refine fn_ok G_ok Tryz.func136 rfl rfl ?_; simp only [Tryz.ntmps136, List.length_cons, List.length_nil, Nat.reduceAdd, Nat.reduceSub, enm]
  repeat' (first | ((with_reducible first | (refine hK _ ?_; clear hK K) | refine stq fun K' hK' => ?_ | refine stc ?_); try simp only [go_sem]) | (with_reducible first | refine stp ?_ | (refine hK' _ ?_; clear hK' K') | refine kN kl136 fun K hK => ?_ | refine kO fun K hK => ?_) | refine iB ?_ | (with_reducible refine pK_mk ?_ ?_ <;> (intro hc; (try simp only [go_sem]); (try simp at hc); try (exfalso; omega))) | with_reducible refine And.intro (by first | omega | (unfold inI; omega)) ?_)
  refine pw_loop_over [4, 5, 8, 9, 10, 11, 12, 13, 14, 15, 16, 17, 18] (fun k : Nat => [(8, .d (.int .i64 (k : Int)))]) (fun k : Nat => []) 0 (fun k : Nat => k ≤ xs.length ∧ n ∉ xs.take k) (fun k : Nat => xs.length - k) 0 ⟨Nat.zero_le _, by simp⟩ (fits_mk [] (by simp [renL_d, bdL_d, sg, over, wipe, wl, memN, ins, rm, lk, fitFr, fit1, ren, renL, bd, bdL, app, fitHp, hget, renB, bdB] <;> omega)) ?_
  rintro k ⟨hk, hJ⟩
  simp only [over, wipe, wl, memN, ins, rm, if_true, if_false, Nat.reduceEqDiff, Bool.false_eq_true, reduceCtorEq]
  by_cases hlt : k < xs.length
  · have hx := List.getElem?_eq_getElem hlt
    generalize xs[k] = x at hx
    repeat' (first | ((with_reducible first | (refine hK _ ?_; clear hK K) | refine stq fun K' hK' => ?_ | refine stc ?_); try simp only [go_sem, List.getElem?_map, hx, Option.map_some, datI]) | (with_reducible first | refine stp ?_ | (refine hK' _ ?_; clear hK' K') | refine kN kl136 fun K hK => ?_ | refine kO fun K hK => ?_) | refine iB ?_ | (with_reducible refine pK_mk ?_ ?_ <;> (intro hc; (try simp only [go_sem, List.getElem?_map, hx, Option.map_some, datI]); (try simp at hc); try (exfalso; omega))) | with_reducible refine And.intro (by first | omega | (unfold inI; omega)) ?_)
    · refine retQ_ret rfl rfl (by simp [rowsOf, lk]) ?_; subst hc; rw [show ixOf xs n = (k : Int) by unfold ixOf; rw [if_pos (bP_true (List.mem_of_getElem? hx)), idxOf_at hx hJ]]
    · exact ⟨k + 1, ⟨by omega, by rw [take_snoc hx]; simp [hJ, hc]⟩, by omega, (fits_mk [] (by simp [renL_d, bdL_d, sg, over, wipe, wl, memN, ins, rm, lk, fitFr, fit1, ren, renL, bd, bdL, app, fitHp, hget, renB, bdB] <;> omega))⟩
  · rw [List.take_of_length_le (by omega)] at hJ
    repeat' (first | ((with_reducible first | (refine hK _ ?_; clear hK K) | refine stq fun K' hK' => ?_ | refine stc ?_); try simp only [go_sem]) | (with_reducible first | refine stp ?_ | (refine hK' _ ?_; clear hK' K') | refine kN kl136 fun K hK => ?_ | refine kO fun K hK => ?_) | refine iB ?_ | (with_reducible refine pK_mk ?_ ?_ <;> (intro hc; (try simp only [go_sem]); (try simp at hc); try (exfalso; omega))) | with_reducible refine And.intro (by first | omega | (unfold inI; omega)) ?_)
    refine retQ_ret rfl rfl (by simp [rowsOf, lk]) ?_; rw [show ixOf xs n = -1 by unfold ixOf; rw [if_neg (by rw [bP_false hJ]; simp)]]
theorem contains_ok (xs : List Int) (n : Int) (hn : xs.length ≤ 16777216) : FnEq Tryz.prog 112 [.d (.lst 1 (xs.map datI)), .d (.int .i64 n)] [.d (.bool (bP (n ∈ xs)))] := by
  refine fn_ok G_ok Tryz.func112 rfl rfl ?_; simp only [Tryz.ntmps112, List.length_cons, List.length_nil, Nat.reduceAdd, Nat.reduceSub, enm]
  repeat' (first | ((with_reducible first | (refine hK _ ?_; clear hK K) | refine stq fun K' hK' => ?_ | refine stc ?_); try simp only [go_sem]) | (with_reducible first | refine stp ?_ | (refine hK' _ ?_; clear hK' K') | refine kN kl112 fun K hK => ?_ | refine kO fun K hK => ?_) | ((with_reducible apply CallK.eq); (· with_reducible first | exact index_ok _ _ hn); (· simp [RV.flat, D.sc, datI]); try simp only [go_sem]) | (with_reducible refine pK_mk ?_ ?_ <;> (intro hc; (try simp only [go_sem]); (try simp at hc); try (exfalso; omega))) | with_reducible refine And.intro (by first | omega | (unfold inI; omega)) ?_)
  refine retQ_ret rfl rfl (by simp [rowsOf, lk]) ?_
  rw [show (decide (0 ≤ ixOf xs n)) = bP (n ∈ xs) by
    unfold ixOf
    cases h : bP (n ∈ xs) <;> simp]
theorem soOrder_ok (l : List Int) (hn : l.length ≤ 1048576) : FnEq Tryz.prog 81 [.d (.lst 1 (l.map datI))] [.d (.bool (bP (OrdOk l)))] := by
  refine fn_ok G_ok Tryz.func81 rfl rfl ?_; simp only [Tryz.ntmps81, List.length_cons, List.length_nil, Nat.reduceAdd, Nat.reduceSub, enm]
  repeat' (first | ((with_reducible first | (refine hK _ ?_; clear hK K) | refine stq fun K' hK' => ?_ | refine stc ?_); try simp only [go_sem]) | (with_reducible first | refine stp ?_ | (refine hK' _ ?_; clear hK' K') | refine kN kl81 fun K hK => ?_ | refine kO fun K hK => ?_) | (refine xS rfl fun K' hK' => ?_; simp only [go_sem]) | refine iB ?_ | (with_reducible refine pK_mk ?_ ?_ <;> (intro hc; (try simp only [go_sem]); (try simp at hc); try (exfalso; omega))) | with_reducible refine And.intro (by first | omega | (unfold inI; omega)) ?_)
  refine pw_loop_over [2, 3, 4, 7, 8, 9, 10, 11, 12, 13, 14, 15, 16, 17, 18, 19, 20, 21, 22] (fun k : Nat => [(7, .d (.int .i64 (k : Int)))]) (fun k : Nat => []) 0 (fun k : Nat => k ≤ l.length ∧ OrdUpto l k) (fun k : Nat => l.length - k) 0 ⟨Nat.zero_le _, OrdUpto.zero l⟩ (fits_mk [] (by simp [renL_d, bdL_d, sg, over, wipe, wl, memN, ins, rm, lk, fitFr, fit1, ren, renL, bd, bdL, app, fitHp, hget, renB, bdB] <;> omega)) ?_
  rintro k ⟨hk, hJ⟩
  simp only [over, wipe, wl, memN, ins, rm, if_true, if_false, Nat.reduceEqDiff, Bool.false_eq_true, reduceCtorEq]
  by_cases hlt : k < l.length
  · have hx := List.getElem?_eq_getElem hlt
    generalize l[k] = x at hx
    repeat' (first | ((with_reducible first | (refine hK _ ?_; clear hK K) | refine stq fun K' hK' => ?_ | refine stc ?_); try simp only [go_sem, List.getElem?_map, hx, Option.map_some, datI, ← List.map_take]) | (with_reducible first | refine stp ?_ | (refine hK' _ ?_; clear hK' K') | refine kN kl81 fun K hK => ?_ | refine kO fun K hK => ?_) | (refine xS rfl fun K' hK' => ?_; simp only [go_sem, List.getElem?_map, hx, Option.map_some, datI, ← List.map_take]) | ((with_reducible apply CallK.eq); (· with_reducible first | exact l1In_ok _ _ _ | exact l1Has_ok (l.take k) _ (by simp; omega)); (· simp [RV.flat, D.sc, datI]); try simp only [go_sem, List.getElem?_map, hx, Option.map_some, datI, ← List.map_take]) | refine iB ?_ | (with_reducible refine pK_mk ?_ ?_ <;> (intro hc; (try simp only [go_sem, List.getElem?_map, hx, Option.map_some, datI, ← List.map_take]); (try simp at hc); try (exfalso; omega))) | with_reducible refine And.intro (by first | omega | (unfold inI; omega)) ?_)
    · refine retQ_ret rfl rfl (by simp [rowsOf, lk]) ?_; rw [bP_false (OrdOk.not_at hx fun h => h.2.2 (bP_iff.1 hc))]
    · exact ⟨k + 1, ⟨by omega, hJ.succ hx ⟨by omega, by omega, fun h => Bool.noConfusion ((bP_true h).symm.trans hc)⟩⟩, by omega, (fits_mk [] (by simp [renL_d, bdL_d, sg, over, wipe, wl, memN, ins, rm, lk, fitFr, fit1, ren, renL, bd, bdL, app, fitHp, hget, renB, bdB] <;> omega))⟩
    · refine retQ_ret rfl rfl (by simp [rowsOf, lk]) ?_; rw [bP_false (OrdOk.not_at hx fun h => by have := h.1; have := h.2.1; omega)]
  · repeat' (first | ((with_reducible first | (refine hK _ ?_; clear hK K) | refine stq fun K' hK' => ?_ | refine stc ?_); try simp only [go_sem]) | (with_reducible first | refine stp ?_ | (refine hK' _ ?_; clear hK' K') | refine kN kl81 fun K hK => ?_ | refine kO fun K hK => ?_) | (refine xS rfl fun K' hK' => ?_; simp only [go_sem]) | refine iB ?_ | (with_reducible refine pK_mk ?_ ?_ <;> (intro hc; (try simp only [go_sem]); (try simp at hc); try (exfalso; omega))) | with_reducible refine And.intro (by first | omega | (unfold inI; omega)) ?_)
    refine retQ_ret rfl rfl (by simp [rowsOf, lk]) ?_; rw [ord_end hJ (by omega) hk]
theorem isOrder_ok (l : List Int) (hn : l.length ≤ 1048576) : FnEq Tryz.prog 74 [.d (.lst 1 (l.map datI))] [.d (.bool (bP (OrdOk l)))] := by
  refine fn_ok G_ok Tryz.func74 rfl rfl ?_; simp only [Tryz.ntmps74, List.length_cons, List.length_nil, Nat.reduceAdd, Nat.reduceSub, enm]
  repeat' (first | ((with_reducible first | (refine hK _ ?_; clear hK K) | refine stq fun K' hK' => ?_ | refine stc ?_); try simp only [go_sem]) | (with_reducible first | refine stp ?_ | (refine hK' _ ?_; clear hK' K') | refine kN kl74 fun K hK => ?_ | refine kO fun K hK => ?_) | (refine xS rfl fun K' hK' => ?_; simp only [go_sem]) | refine iB ?_ | (with_reducible refine pK_mk ?_ ?_ <;> (intro hc; (try simp only [go_sem]); (try simp at hc); try (exfalso; omega))) | with_reducible refine And.intro (by first | omega | (unfold inI; omega)) ?_)
  refine pw_loop_over [2, 3, 4, 7, 8, 9, 10, 11, 12, 13, 14, 15, 16, 17, 18, 19, 20, 21, 22] (fun k : Nat => [(7, .d (.int .i64 (k : Int)))]) (fun k : Nat => []) 0 (fun k : Nat => k ≤ l.length ∧ OrdUpto l k) (fun k : Nat => l.length - k) 0 ⟨Nat.zero_le _, OrdUpto.zero l⟩ (fits_mk [] (by simp [renL_d, bdL_d, sg, over, wipe, wl, memN, ins, rm, lk, fitFr, fit1, ren, renL, bd, bdL, app, fitHp, hget, renB, bdB] <;> omega)) ?_
  rintro k ⟨hk, hJ⟩
  simp only [over, wipe, wl, memN, ins, rm, if_true, if_false, Nat.reduceEqDiff, Bool.false_eq_true, reduceCtorEq]
  by_cases hlt : k < l.length
  · have hx := List.getElem?_eq_getElem hlt
    generalize l[k] = x at hx
    repeat' (first | ((with_reducible first | (refine hK _ ?_; clear hK K) | refine stq fun K' hK' => ?_ | refine stc ?_); try simp only [go_sem, List.getElem?_map, hx, Option.map_some, datI, ← List.map_take]) | (with_reducible first | refine stp ?_ | (refine hK' _ ?_; clear hK' K') | refine kN kl74 fun K hK => ?_ | refine kO fun K hK => ?_) | (refine xS rfl fun K' hK' => ?_; simp only [go_sem, List.getElem?_map, hx, Option.map_some, datI, ← List.map_take]) | ((with_reducible apply CallK.eq); (· with_reducible first | exact isSkater_ok _ | exact contains_ok (l.take k) _ (by simp; omega)); (· simp [RV.flat, D.sc, datI]); try simp only [go_sem, List.getElem?_map, hx, Option.map_some, datI, ← List.map_take]) | refine iB ?_ | (with_reducible refine pK_mk ?_ ?_ <;> (intro hc; (try simp only [go_sem, List.getElem?_map, hx, Option.map_some, datI, ← List.map_take]); (try simp at hc); try (exfalso; omega))) | with_reducible refine And.intro (by first | omega | (unfold inI; omega)) ?_)
    · refine retQ_ret rfl rfl (by simp [rowsOf, lk]) ?_; rw [bP_false (OrdOk.not_at hx fun h => h.2.2 (bP_iff.1 hc))]
    · exact ⟨k + 1, ⟨by omega, hJ.succ hx ⟨by omega, by omega, fun h => Bool.noConfusion ((bP_true h).symm.trans hc)⟩⟩, by omega, (fits_mk [] (by simp [renL_d, bdL_d, sg, over, wipe, wl, memN, ins, rm, lk, fitFr, fit1, ren, renL, bd, bdL, app, fitHp, hget, renB, bdB] <;> omega))⟩
    · refine retQ_ret rfl rfl (by simp [rowsOf, lk]) ?_; rw [bP_false (OrdOk.not_at hx fun h => by have := h.1; have := h.2.1; omega)]
  · repeat' (first | ((with_reducible first | (refine hK _ ?_; clear hK K) | refine stq fun K' hK' => ?_ | refine stc ?_); try simp only [go_sem]) | (with_reducible first | refine stp ?_ | (refine hK' _ ?_; clear hK' K') | refine kN kl74 fun K hK => ?_ | refine kO fun K hK => ?_) | (refine xS rfl fun K' hK' => ?_; simp only [go_sem]) | refine iB ?_ | (with_reducible refine pK_mk ?_ ?_ <;> (intro hc; (try simp only [go_sem]); (try simp at hc); try (exfalso; omega))) | with_reducible refine And.intro (by first | omega | (unfold inI; omega)) ?_)
    refine retQ_ret rfl rfl (by simp [rowsOf, lk]) ?_; rw [ord_end hJ (by omega) hk]
theorem copyInts_ok (l : List Int) (hn : l.length ≤ 1048576) : FnEq Tryz.prog 61 [.d (.lst 1 (l.map datI))] [.row 3 1 (l.map datI)] := by
  refine fn_ok G_ok Tryz.func61 rfl rfl ?_; simp only [Tryz.ntmps61, List.length_cons, List.length_nil, Nat.reduceAdd, Nat.reduceSub, enm]
  repeat' (first | ((with_reducible first | (refine hK _ ?_; clear hK K) | refine stq fun K' hK' => ?_ | refine stc ?_); try simp only [go_sem]) | (with_reducible first | refine stp ?_ | (refine hK' _ ?_; clear hK' K') | refine kN kl61 fun K hK => ?_ | refine kO fun K hK => ?_) | (with_reducible refine pK_mk ?_ ?_ <;> (intro hc; (try simp only [go_sem]); (try simp at hc); try (exfalso; omega))) | with_reducible refine And.intro (by first | omega | (unfold inI; omega)) ?_)
  refine retQ_ret rfl (by simp only [retL, ret1, hget, lk, List.length_map, List.length_nil, List.length_append, List.length_take, if_true, if_false, Nat.reduceEqDiff, Nat.reduceBEq, Bool.false_eq_true, Option.some.injEq]; rfl) (by simp [rowsOf, lk]) ?_; rfl
end Go.Proofs.YthocihmhljmgdaaGreatDoor
