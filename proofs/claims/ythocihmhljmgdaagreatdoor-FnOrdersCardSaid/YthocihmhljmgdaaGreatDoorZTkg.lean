/-
  The abstract machine: in a region that draws its order a guarded operation that is pure, or whose guard is not met, may be taken first. No program is named here.
-/
import Derived.Test.YthocihmhljmgdaaGreatDoorZTk
namespace Go.Proofs.YthocihmhljmgdaaGreatDoor
open Go.RowKit

theorem yielded_bool {X0 : Nat → Prop} {w0 : Base} {m : Mp} {s : AS} {a : Act} {w : World} (hs : Sim X0 w0 m s a w) {ops : Array Oper} {j : Nat} {b : Bool} (h1 : yB ops s j = .d (.bool b)) : yielded ops a.tmps j = some b := by
  unfold yB at h1
  cases hd : (ops[j]?).bind (·.dst) with
  | none => rw [hd] at h1; cases h1
  | some t =>
    rw [hd] at h1
    have h4 := hs.get (.tmp t)
    have h1' : lk s.fr.l t = .d (.bool b) := h1
    simp only [AS.get] at h4
    rw [h1'] at h4
    have h5 : a.tmps.getD t undef = .bool b := h4.bool
    have h6 : a.tmps[t]? = some (.bool b) := by
      rw [Array.getD_eq_getD_getElem?] at h5
      cases ht : a.tmps[t]? with
      | none => rw [ht] at h5; cases h5
      | some u => rw [ht] at h5; simp at h5; rw [h5]
    unfold yielded
    rw [hd]
    simp [h6]
section
variable {P : Program} {ops : Array Oper} {K : AS → Prop} {fuel : Nat} {listed : Array Bool} {s : AS}
theorem anyN_takeG (i j : Nat) {o : Oper} {x : PV} {d : Tmp} {want : Bool} (hi : ops[i]? = some o) (hg : o.guard = some (j, want)) (hd : o.dst = some d) (hr : (Region.ready .any ops listed).contains i = true) (hy : yB ops s j = .d (.bool want)) (hs : Region.noSelect ops = true) (hf : Region.free .any ops listed i = true)
    (hp : PureAt P o s x) (h : AnyN P ops K fuel (listed.setIfInBounds i true) (s.put (some d) x)) : AnyN P ops K (fuel + 1) listed s := by
  rw [← hd] at h
  intro X0 w0 m a w Q' hN hQ hs'
  obtain ⟨v, h1, h2⟩ := hp m.loc _ w a hs'.get
  exact wpAny_take hi hs hf hr (fun c a w h => absurd h (hN c _ _)) (.inl ⟨by simp [Region.wanted, hg, yielded_bool hs' hy], h1⟩) (h X0 w0 m (a.put o.dst v) w Q' hN hQ (hs'.put h2 o.dst))
theorem anyN_skip (i j : Nat) {o : Oper} {d : Tmp} {want b : Bool} (hi : ops[i]? = some o) (hg : o.guard = some (j, want)) (hd : o.dst = some d) (hr : (Region.ready .any ops listed).contains i = true) (hy : yB ops s j = .d (.bool b)) (hb : b ≠ want) (hs : Region.noSelect ops = true) (hf : Region.free .any ops listed i = true)
    (h : AnyN P ops K fuel (listed.setIfInBounds i true) (s.put (some d) (.tup []))) : AnyN P ops K (fuel + 1) listed s := by
  rw [← hd] at h
  intro X0 w0 m a w Q' hN hQ hs'
  exact wpAny_take hi hs hf hr (fun c a w h => absurd h (hN c _ _)) (.inr ⟨by simp [Region.wanted, hg, yielded_bool hs' hy, hb], rfl⟩) (h X0 w0 m (a.put o.dst undef) w Q' hN hQ (hs'.put (tup0 _ _ _) o.dst))
end
end Go.Proofs.YthocihmhljmgdaaGreatDoor
