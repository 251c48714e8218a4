/-
  Comparisons of results are an order: plain words. No program is named here.
-/
import Derived.Test.YthkkpiodligmiaaRp
namespace Go.Proofs.Ythkkpiodligmiaa
open Go.RowKit

def lexC : List Int → List Int → Int
  | x :: xs, y :: ys => if x = y then lexC xs ys else sgn (x - y)
  | _, _ => 0
theorem sgn_neg (n : Int) : sgn (-n) = - sgn n := by unfold sgn; split <;> split <;> (try split) <;> omega
theorem sgn_pos {n : Int} : 0 < sgn n ↔ 0 < n := by unfold sgn; split <;> (try split) <;> omega
theorem sgn_z {n : Int} : sgn n = 0 ↔ n = 0 := by unfold sgn; split <;> (try split) <;> omega
theorem lexC_anti : ∀ (x y : List Int), lexC y x = - lexC x y
  | [], [] => rfl
  | [], _ :: _ => rfl
  | _ :: _, [] => rfl
  | x :: xs, y :: ys => by
    simp only [lexC]
    by_cases h : x = y
    · subst h; simp only [if_true]; exact lexC_anti xs ys
    · rw [if_neg h, if_neg (Ne.symm h), ← sgn_neg]; congr 1; omega
theorem lexC_self : ∀ x : List Int, lexC x x = 0
  | [] => rfl
  | x :: xs => by simp only [lexC, if_true]; exact lexC_self xs
theorem lexC_eq : ∀ {x y : List Int}, x.length = y.length → lexC x y = 0 → x = y
  | [], [], _, _ => rfl
  | [], _ :: _, h, _ => by simp at h
  | _ :: _, [], h, _ => by simp at h
  | x :: xs, y :: ys, h, h0 => by
    simp only [lexC] at h0
    by_cases e : x = y
    · subst e
      rw [if_pos rfl] at h0
      rw [lexC_eq (by simpa using h) h0]
    · rw [if_neg e] at h0
      exact absurd (sgn_z.1 h0) (by omega)
theorem lexC_trans : ∀ {x y z : List Int}, x.length = y.length → y.length = z.length → 0 < lexC x y → 0 < lexC y z → 0 < lexC x z
  | [], _, _, _, _, h, _ => by simp [lexC] at h
  | x :: xs, [], _, h, _, _, _ => by simp at h
  | x :: xs, y :: ys, [], _, h, _, _ => by simp at h
  | x :: xs, y :: ys, z :: zs, h1, h2, h3, h4 => by
    simp only [lexC] at h3 h4 ⊢
    by_cases e1 : x = y
    · subst e1
      rw [if_pos rfl] at h3
      by_cases e2 : x = z
      · subst e2
        rw [if_pos rfl] at h4 ⊢
        exact lexC_trans (by simpa using h1) (by simpa using h2) h3 h4
      · rwa [if_neg e2] at h4 ⊢
    · rw [if_neg e1] at h3
      have h3' := sgn_pos.1 h3
      by_cases e2 : y = z
      · subst e2
        rwa [if_neg e1]
      · rw [if_neg e2] at h4
        have h4' := sgn_pos.1 h4
        rw [if_neg (by omega)]
        exact sgn_pos.2 (by omega)
/-- what decides, in order -/
def keyR (a : ResultD) : List Int := (scCnt a.scores : Int) :: scSum a.scores :: a.scores.reverse
theorem cmpS_lex (la lb : List Int) : ∀ n, n ≤ la.length → n ≤ lb.length → cmpS la lb n = lexC (la.take n).reverse (lb.take n).reverse
  | 0, _, _ => by simp [cmpS, lexC]
  | n + 1, h1, h2 => by
    have ha := List.getElem?_eq_getElem (show n < la.length by omega)
    have hb := List.getElem?_eq_getElem (show n < lb.length by omega)
    rw [take_snoc ha, take_snoc hb, List.reverse_append, List.reverse_append]
    simp only [List.reverse_cons, List.reverse_nil, List.nil_append, List.cons_append, lexC, cmpS, List.getD_eq_getElem?_getD, ha, hb, Option.getD_some]
    rw [cmpS_lex la lb n (by omega) (by omega)]
theorem cmpR_lex {a b : ResultD} (h : a.scores.length = b.scores.length) : cmpR a b = lexC (keyR a) (keyR b) := by
  unfold cmpR keyR
  have hs := cmpS_lex a.scores b.scores a.scores.length (Nat.le_refl _) (by omega)
  rw [List.take_length, h, List.take_length] at hs
  simp only [lexC]
  by_cases h1 : scCnt a.scores = scCnt b.scores
  · have h1' : (scCnt a.scores : Int) = (scCnt b.scores : Int) := by omega
    rw [if_pos h1, if_pos h1']
    by_cases h2 : scSum a.scores = scSum b.scores
    · rw [if_pos h2, if_pos h2, h]; exact hs
    · rw [if_neg h2, if_neg h2]
  · have h1' : ¬ (scCnt a.scores : Int) = (scCnt b.scores : Int) := by omega
    rw [if_neg h1, if_neg h1']
theorem keyR_len {a b : ResultD} (h : a.scores.length = b.scores.length) : (keyR a).length = (keyR b).length := by simp [keyR, h]
theorem cmpR_anti {a b : ResultD} (h : a.scores.length = b.scores.length) : cmpR b a = - cmpR a b := by rw [cmpR_lex h, cmpR_lex h.symm, lexC_anti]
theorem cmpR_self (a : ResultD) : cmpR a a = 0 := by rw [cmpR_lex rfl, lexC_self]
theorem cmpR_trans {a b c : ResultD} (h1 : a.scores.length = b.scores.length) (h2 : b.scores.length = c.scores.length) (h3 : 0 < cmpR a b) (h4 : 0 < cmpR b c) : 0 < cmpR a c := by
  rw [cmpR_lex h1] at h3
  rw [cmpR_lex h2] at h4
  rw [cmpR_lex (h1.trans h2)]
  exact lexC_trans (keyR_len h1) (keyR_len h2) h3 h4
/-- equal ones are alike to all others -/
theorem cmpR_tie {a b c : ResultD} (h1 : a.scores.length = b.scores.length) (h2 : c.scores.length = a.scores.length) (h : cmpR a b = 0) : cmpR c a = cmpR c b := by
  rw [cmpR_lex h1] at h
  have e := lexC_eq (keyR_len h1) h
  rw [cmpR_lex h2, cmpR_lex (h2.trans h1), e]
theorem countP_lt {α : Type} {p q : α → Bool} : ∀ {l : List α} {x : α}, x ∈ l → (∀ y ∈ l, p y = true → q y = true) → p x = false → q x = true → l.countP p < l.countP q
  | [], _, h, _, _, _ => by simp at h
  | y :: l, x, h, hpq, hp, hq => by
    have hle : l.countP p ≤ l.countP q := List.countP_mono_left fun z hz => hpq z (List.mem_cons_of_mem _ hz)
    rw [List.countP_cons, List.countP_cons]
    rcases List.mem_cons.1 h with rfl | h
    · simp [hp, hq]; omega
    · have := countP_lt h (fun z hz => hpq z (List.mem_cons_of_mem _ hz)) hp hq
      by_cases hy : p y = true
      · simp [hy, hpq y (by simp) hy]; omega
      · simp [hy]; split <;> omega
/-- places are equal where comparisons say so -/
theorem plc_eq {l : List ResultD} (hv : ResultsOk l) {i k : Nat} {x z : ResultD} (hx : l[k]? = some x) (hz : l[i]? = some z) : plcR l x = plcR l z ↔ cmpR x z = 0 := by
  have hlx := (hv.at_ hx).2
  have hlz := (hv.at_ hz).2
  have hall : ∀ y ∈ l, y.scores.length = len0 l := fun y hy => by
    obtain ⟨j, hj⟩ := List.getElem?_of_mem hy
    exact (hv.at_ hj).2
  have key : ∀ {a b : ResultD}, a ∈ l → b ∈ l → 0 < cmpR a b → ahR l a < ahR l b := by
    intro a b ha hb h
    have h1 := hall a ha
    have h2 := hall b hb
    refine countP_lt ha (fun y hy hp => ?_) (by simp [cmpR_self]) (by simpa using h)
    have h3 := hall y hy
    simp only [decide_eq_true_eq] at hp ⊢
    exact cmpR_trans (by omega) (by omega) hp h
  unfold plcR
  constructor
  · intro h
    by_cases h0 : cmpR x z = 0
    · exact h0
    · by_cases h1 : 0 < cmpR x z
      · have := key (List.mem_of_getElem? hx) (List.mem_of_getElem? hz) h1; omega
      · have h2 := cmpR_anti (a := x) (b := z) (by omega)
        have := key (List.mem_of_getElem? hz) (List.mem_of_getElem? hx) (by omega); omega
  · intro h
    have e : ahR l x = ahR l z := by
      unfold ahR cn
      refine List.countP_congr fun y hy => ?_
      have h3 := hall y hy
      rw [cmpR_tie (a := x) (b := z) (by omega) (by omega) h]
    rw [e]
end Go.Proofs.Ythkkpiodligmiaa
