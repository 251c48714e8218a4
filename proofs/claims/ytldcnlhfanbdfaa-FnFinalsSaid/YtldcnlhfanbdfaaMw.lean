/-
  From a law walked in the abstract machine to its row. No program is named here.
-/
import Derived.Test.YtldcnlhfanbdfaaDp
namespace Go.Proofs.Ytldcnlhfanbdfaa
open Go.ChangeShapes Go.WideShapes Go.ChangeAt Go.RowKit Go.Deep

theorem mwalk {P : Program} {f : FuncId} {args : List PV} (h : FnEq P f args [.d (.bool true)]) (w : World) (vals : Array Value) (hl : vals.size = args.length)
    (ha : ∀ (i : Nat) (x : PV) (v : Value), args[i]? = some x → vals[i]? = some v → R (fun _ => none) (fun _ => False) w x v) : Calls P f vals w fun e w' => e = .returned (.bool true) ∧ Below w.heap.size w w' := by
  refine (FnOK.calls h w vals hl ha).mono ?_
  rintro e w' ⟨rs, rfl, hr⟩
  obtain ⟨Y, v0, g0, rfl, h0, hb⟩ := hr.one
  exact ⟨by rw [rr_bool h0], hb⟩
theorem inI_of_wf {n : Int} (h : (Lit.int .i64 n).wf = true) : inI n := by
  simp only [Lit.wf, Bool.and_eq_true, decide_eq_true_eq] at h
  unfold inI
  exact ⟨h.1, h.2⟩
theorem R_int (w : World) (n : Int) : R (fun _ => none) (fun _ => False) w (.d (.int .i64 n)) (.int .i64 n) := .d _ _ (.int _ _)
theorem R_bool (w : World) (b : Bool) : R (fun _ => none) (fun _ => False) w (.d (.bool b)) (.bool b) := .d _ _ (.bool _)
theorem R_of_crd1 {w : World} {d : D} {v : Value} {vs : List Value} (hv : vs = [v]) (h : CRd w [d] vs) : R (fun _ => none) (fun _ => False) w (.d d) v := by
  subst hv
  exact .d _ _ (h.2 0 d v rfl rfl)
theorem R_of_crd {w : World} {ds : List D} {cs : Array Value} (h : CRd w ds cs.toList) : R (fun _ => none) (fun _ => False) w (.agg (ds.map .d)) (.agg cs) := by
  refine .agg _ _ (by simpa using h.1) fun i x v hx hv => ?_
  rw [List.getElem?_map] at hx
  cases hd : ds[i]? with
  | none => rw [hd] at hx; cases hx
  | some d =>
    rw [hd] at hx
    cases hx
    exact .d _ _ (h.2 i d v hd (by simpa using hv))
theorem args5 {m : Nat → Option Loc} {X : Nat → Prop} {w : World} {x0 x1 x2 x3 x4 : PV} {v0 v1 v2 v3 v4 : Value} (h0 : R m X w x0 v0) (h1 : R m X w x1 v1) (h2 : R m X w x2 v2) (h3 : R m X w x3 v3) (h4 : R m X w x4 v4) : ∀ (i : Nat) (x : PV) (v : Value), [x0, x1, x2, x3, x4][i]? = some x → #[v0, v1, v2, v3, v4][i]? = some v → R m X w x v := by
  intro i x v hx hv
  match i with
  | 0 => simp at hx hv; subst hx hv; exact h0
  | 1 => simp at hx hv; subst hx hv; exact h1
  | 2 => simp at hx hv; subst hx hv; exact h2
  | 3 => simp at hx hv; subst hx hv; exact h3
  | 4 => simp at hx hv; subst hx hv; exact h4
  | i + 5 => simp at hx
end Go.Proofs.Ytldcnlhfanbdfaa
