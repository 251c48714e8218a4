/-
  Results with another score: their validity and their places. Plain words. No program is named here.
-/
import Derived.Test.YthkkpiodligmiaaRse
namespace Go.Proofs.Ythkkpiodligmiaa
open Go.RowKit

theorem wsD_skaters (l : List ResultD) (i s : Nat) (v : Int) : (wsD l i s v).map ResultD.skater = l.map ResultD.skater := by
  unfold wsD
  split
  · rename_i x hx
    apply List.ext_getElem?
    intro k
    rw [List.getElem?_map, List.getElem?_map]
    by_cases h : k = i
    · subst h
      rw [List.getElem?_set_self (List.getElem?_eq_some_iff.1 hx).1, hx]
      rfl
    · rw [List.getElem?_set_ne (fun e => h e.symm)]
  · rfl
theorem wsD_len0 (l : List ResultD) (i s : Nat) (v : Int) : len0 (wsD l i s v) = len0 l := by
  have key : ∀ l : List ResultD, len0 l = ((l[0]?.map fun r => r.scores.length).getD 0) := by
    intro l
    cases l with
    | nil => rfl
    | cons z r => exact len0_of rfl
  rw [key, key]
  by_cases h : i = 0
  · subst h
    cases hx : l[0]? with
    | none => unfold wsD; rw [hx]; simp [hx]
    | some x => rw [wsD_at hx]; simp [wsR]
  · rw [wsD_ne (fun e => h e.symm)]
theorem getD_set_ne {xs : List Int} {s k : Nat} {v : Int} (h : k ≠ s) : (xs.set s v).getD k 0 = xs.getD k 0 := by
  rw [List.getD_eq_getElem?_getD, List.getD_eq_getElem?_getD, List.getElem?_set_ne (fun e => h e.symm)]
theorem getD_set_eq {xs : List Int} {s : Nat} {v : Int} (h : s < xs.length) : (xs.set s v).getD s 0 = v := by
  rw [List.getD_eq_getElem?_getD, List.getElem?_set_self h]; rfl
/-- validity hangs on the score's sign only -/
theorem ScOk_sign {xs : List Int} {s : Nat} {v v' : Int} (hs : s < xs.length) (h0 : 0 ≤ v) (h0' : 0 ≤ v') (h1' : v' ≤ 100000) (h : ScOk (xs.set s v)) : ScOk (xs.set s v') := by
  intro k n hk
  by_cases e : k = s
  · subst e
    rw [List.getElem?_set_self hs] at hk
    cases hk
    have h2 := h k v (List.getElem?_set_self hs)
    refine ⟨by omega, h1', fun hp hn => ?_⟩
    rw [getD_set_ne (by omega)] at hn
    have h3 := h2.2.2 hp (by rw [getD_set_ne (by omega)]; exact hn)
    omega
  · rw [List.getElem?_set_ne (fun e' => e e'.symm)] at hk
    have h2 := h k n (by rw [List.getElem?_set_ne (fun e' => e e'.symm)]; exact hk)
    refine ⟨h2.1, h2.2.1, fun hp hn => ?_⟩
    by_cases e2 : k - 1 = s
    · rw [e2, getD_set_eq hs] at hn; omega
    · rw [getD_set_ne e2] at hn
      exact h2.2.2 hp (by rw [getD_set_ne e2]; exact hn)
theorem ws_sign {l : List ResultD} {i s : Nat} {v v' : Int} {x : ResultD} (hx : l[i]? = some x) (hs : s < x.scores.length) (h0 : 0 ≤ v) (h0' : 0 ≤ v') (h1' : v' ≤ 100000) (h : ResultsOk (wsD l i s v)) : ResultsOk (wsD l i s v') := by
  refine ⟨by rw [wsD_len]; have := h.1; rwa [wsD_len] at this, fun k y hk => ?_⟩
  have hsk : ((wsD l i s v').take k).map ResultD.skater = ((wsD l i s v).take k).map ResultD.skater := by rw [List.map_take, List.map_take, wsD_skaters, wsD_skaters]
  by_cases e : k = i
  · subst e
    rw [wsD_at hx] at hk
    cases hk
    obtain ⟨h2, h3, h4⟩ := h.2 k _ (wsD_at hx)
    refine ⟨⟨ScOk_sign hs h0 h0' h1' h2.1, h2.2.1, h2.2.2.1, ?_, ?_⟩, ?_, ?_⟩
    · have := h2.2.2.2.1; simpa [wsR] using this
    · have := h2.2.2.2.2; simpa [wsR] using this
    · rw [wsD_len0] at h3 ⊢; simpa [wsR] using h3
    · rw [hsk]; simpa [wsR] using h4
  · rw [wsD_ne e] at hk
    obtain ⟨h2, h3, h4⟩ := h.2 k y (by rw [wsD_ne e]; exact hk)
    exact ⟨h2, by rw [wsD_len0] at h3 ⊢; exact h3, by rw [hsk]; exact h4⟩
theorem scCnt_cons (x : Int) (xs : List Int) : scCnt (x :: xs) = scCnt xs + (if 0 ≤ x then 1 else 0) := by
  unfold scCnt cn; rw [List.countP_cons]; simp
theorem scSum_cons (x : Int) (xs : List Int) : scSum (x :: xs) = scSum xs + (if 0 ≤ x then x else 0) := by
  unfold scSum
  rw [List.filter_cons]
  by_cases h : 0 ≤ x
  · simp [h]; omega
  · simp [h]
theorem sc_set {v v' : Int} (h0 : 0 ≤ v) (h0' : 0 ≤ v') : ∀ {xs : List Int} {s : Nat}, s < xs.length → scCnt (xs.set s v) = scCnt (xs.set s v') ∧ scSum (xs.set s v) - v = scSum (xs.set s v') - v'
  | [], s, h => by simp at h
  | x :: xs, 0, _ => by
    rw [List.set_cons_zero, List.set_cons_zero, scCnt_cons, scCnt_cons, scSum_cons, scSum_cons, if_pos h0, if_pos h0', if_pos h0, if_pos h0']
    exact ⟨rfl, by omega⟩
  | x :: xs, s + 1, h => by
    have ih := sc_set h0 h0' (xs := xs) (s := s) (by simpa using h)
    simp only [List.set_cons_succ, scCnt_cons, scSum_cons]
    omega
theorem cmpR_more {x : ResultD} {s : Nat} {v v' : Int} (hs : s < x.scores.length) (h0 : 0 ≤ v) (h : v < v') : 0 < cmpR (wsR x s v') (wsR x s v) := by
  have h1 := sc_set (v := v) (v' := v') h0 (by omega) hs
  unfold cmpR wsR
  rw [if_pos h1.1.symm, if_neg (by show ¬ scSum (x.scores.set s v') = scSum (x.scores.set s v); omega)]
  exact sgn_pos.2 (by show 0 < scSum (x.scores.set s v') - scSum (x.scores.set s v); omega)
/-- the place with a score -/
def plW (l : List ResultD) (i s : Nat) (v : Int) : Int := match l[i]? with
  | some x => plcR (wsD l i s v) (wsR x s v)
  | none => 0
theorem plW_of {l : List ResultD} {i s : Nat} {v : Int} {x : ResultD} (hx : l[i]? = some x) : plW l i s v = plcR (wsD l i s v) (wsR x s v) := by unfold plW; rw [hx]
theorem ws_split {l : List ResultD} {i s : Nat} {v : Int} {x : ResultD} (hx : l[i]? = some x) : wsD l i s v = l.take i ++ wsR x s v :: l.drop (i + 1) := by
  rw [wsD_of hx, List.set_eq_take_append_cons_drop, if_pos (List.getElem?_eq_some_iff.1 hx).1]
/-- a greater score never makes the place worse -/
theorem plW_anti {l : List ResultD} {i s : Nat} {v v' : Int} {x : ResultD} (hx : l[i]? = some x) (hs : s < x.scores.length) (h0 : 0 ≤ v) (h : v ≤ v') (hl : ∀ y ∈ l, y.scores.length = x.scores.length) : plW l i s v' ≤ plW l i s v := by
  by_cases e : v = v'
  · subst e; exact Int.le_refl _
  · rw [plW_of hx, plW_of hx]
    unfold plcR ahR cn
    have hm := cmpR_more (x := x) (s := s) hs h0 (show v < v' by omega)
    have hlw : ∀ u : Int, (wsR x s u).scores.length = x.scores.length := fun u => by simp [wsR]
    have key : ∀ m : List ResultD, (∀ y ∈ m, y.scores.length = x.scores.length) → m.countP (fun y => decide (0 < cmpR y (wsR x s v'))) ≤ m.countP (fun y => decide (0 < cmpR y (wsR x s v))) := by
      intro m hml
      refine List.countP_mono_left fun y hy hp => ?_
      simp only [decide_eq_true_eq] at hp ⊢
      exact cmpR_trans (by rw [hlw]; exact hml y hy) (by rw [hlw, hlw]) hp hm
    have k1 := key (l.take i) (fun y hy => hl y (List.mem_of_mem_take hy))
    have k2 := key (l.drop (i + 1)) (fun y hy => hl y (List.mem_of_mem_drop hy))
    rw [ws_split hx, ws_split hx, List.countP_append, List.countP_append, List.countP_cons, List.countP_cons, cmpR_self, cmpR_self]
    simp only [Int.lt_irrefl, decide_false, Bool.false_eq_true, if_false]
    omega
/-- the least score that does -/
def leastW (l : List ResultD) (i s : Nat) (p : Int) : Option Int := ((List.range 100001).find? fun v : Nat => decide (plW l i s (v : Int) ≤ p)).map fun v => (v : Int)
theorem leastW_some {l : List ResultD} {i s : Nat} {p : Int} {n : Nat} (hn : n ≤ 100000) (h : plW l i s (n : Int) ≤ p) (hl : ∀ v : Nat, v < n → p < plW l i s (v : Int)) : leastW l i s p = some (n : Int) := by
  unfold leastW
  have : (List.range 100001).find? (fun v : Nat => decide (plW l i s (v : Int) ≤ p)) = some n := by
    rw [List.find?_range_eq_some]
    exact ⟨by simpa using h, by simp; omega, fun j hj => by simpa using hl j hj⟩
  rw [this]; rfl
theorem leastW_none {l : List ResultD} {i s : Nat} {p : Int} (hl : ∀ v : Nat, v ≤ 100000 → p < plW l i s (v : Int)) : leastW l i s p = none := by
  unfold leastW
  have : (List.range 100001).find? (fun v : Nat => decide (plW l i s (v : Int) ≤ p)) = none := by
    rw [List.find?_range_eq_none]
    exact fun j hj => by simpa using hl j (by omega)
  rw [this]; rfl
def NeedV (l : List ResultD) (i s p : Int) : Prop := AskR l i s ∧ (1 ≤ p ∧ p ≤ 40) ∧ ResultsOk (wsD l i.toNat s.toNat 0)
noncomputable abbrev ansNeededFor (l : List ResultD) (i s p : Int) : Option Int := if bP (NeedV l i s p) = true then leastW l i.toNat s.toNat p else none
theorem same_len {l : List ResultD} {i s : Int} {x : ResultD} (h : AskR l i s) (hx : l[i.toNat]? = some x) : ∀ y ∈ l, y.scores.length = x.scores.length := by
  intro y hy
  obtain ⟨j, hj⟩ := List.getElem?_of_mem hy
  rw [(h.1.1.at_ hj).2, (h.1.1.at_ hx).2]
end Go.Proofs.Ythkkpiodligmiaa
