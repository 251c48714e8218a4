/-
  Arguments opened: a slice that came in reads as a list.
-/
import Derived.Test.YtldcnlhfanbdfaaNest
import Derived.ProofKit
import Derived.OpenShut
import Derived.ShutString
import Derived.ChangeOld
import Derived.Deep.Slices
import Derived.Deep.Fields
namespace Go.Proofs.Ytldcnlhfanbdfaa
open Go.ChangeShapes Go.WideShapes Go.ChangeAt Go.RowKit Go.Deep

theorem exists_list {α : Type} {p : Nat → α → Prop} : ∀ n : Nat, (∀ i, i < n → ∃ x, p i x) → ∃ xs : List α, xs.length = n ∧ ∀ i x, xs[i]? = some x → p i x
  | 0, _ => ⟨[], rfl, fun i x h => by simp at h⟩
  | n + 1, h => by
    obtain ⟨xs, hl, hx⟩ := exists_list n fun i hi => h i (by omega)
    obtain ⟨x, hp⟩ := h n (by omega)
    refine ⟨xs ++ [x], by simp [hl], fun i y hi => ?_⟩
    rcases Nat.lt_or_ge i xs.length with hlt | hge
    · rw [List.getElem?_append_left hlt] at hi
      exact hx i y hi
    · rw [List.getElem?_append_right hge] at hi
      have e : i = n := by
        rcases Nat.lt_or_ge (i - xs.length) 1 with h1 | h1
        · omega
        · rw [List.getElem?_eq_none (by simpa using h1)] at hi; cases hi
      subst e
      rw [hl, Nat.sub_self] at hi
      have : x = y := by simpa using hi
      subst this
      exact hp

section
variable {H : Type} {enc : TypeId × Value → H} {P : Program} {w : World} {base : Nat} {spare : Nat → Bool} {held : Bool}
theorem open_rdS {α : Type} {en : α → List Value} {sz : Nat} {t e : TypeId} {fuel : Nat} {v : Value} {x : DataW H × List MemPlace} (ht : P.underlying t = some (.slice e)) (hC : P.cellsOf e = sz) (hlen : ∀ x, (en x).length = sz) (hsz : 0 < sz)
    (hel : ∀ n cs y, DataW.trod enc P w base spare held n e cs = some y → ∃ x : α, cs = en x)
    (h : DataW.trod enc P w base spare held fuel t [v] = some x) : ∃ (A : Option Addr) (c : Nat) (xs : List α), v = .slice A xs.length c ∧ RdS en sz w A xs ∧ xs.length ≤ maxLen := by
  rcases open_slice ht h with ⟨hv, _⟩ | ⟨a, len, cap, m, n, D, Pl, hv, hb, hl, hm, hmm, _, hx⟩
  · have e1 : v = .slice none 0 0 := by simpa using hv
    exact ⟨none, 0, [], by simpa using e1, RdS.nil_, by simp [maxLen]⟩
  · have e1 : v = .slice (some a) len cap := by simpa using hv
    have hlm : len ≤ m := by rw [hmm]; split <;> omega
    obtain ⟨xs, hxl, hxs⟩ := exists_list (p := fun i (x : α) => ∀ j u, (en x)[j]? = some u → w.cell? ((a.add (i * sz)).add j) = some u) len fun i hi => by
      obtain ⟨cs', h1, h2⟩ := hx i (by omega)
      obtain ⟨x, rfl⟩ := hel _ _ _ h2
      rw [hC] at h1
      obtain ⟨_, _, hc⟩ := World.cells?_some h1
      refine ⟨x, fun j u hu => ?_⟩
      rw [hc j (by rw [← hlen x]; exact (List.getElem?_eq_some_iff.1 hu).1)]
      exact hu
    refine ⟨some a, cap, xs, by rw [hxl]; exact e1, ?_, by omega⟩
    obtain ⟨b, off, spot⟩ := a
    rcases Nat.eq_zero_or_pos len with h0 | h0
    · have : xs = [] := List.eq_nil_of_length_eq_zero (by omega)
      subst this
      exact RdS.nil_
    · have hsp : spot = none := by
        have hx0 := hxs 0 xs[0] (List.getElem?_eq_getElem (by omega)) 0 ((en xs[0])[0]'(by rw [hlen]; exact hsz)) (List.getElem?_eq_getElem _)
        simpa [Addr.add] using World.cell?_spot hx0
      subst hsp
      refine ⟨b, off, fun _ => rfl, fun k x hk j u hu => ?_⟩
      have h3 := hxs k x hk j u hu
      have e2 : ((⟨b, off, none⟩ : Addr).add (k * sz)).add j = ⟨b, off + k * sz + j, none⟩ := by
        unfold Addr.add
        split <;> split <;> simp_all
      rwa [e2] at h3

theorem open_rdL {α : Type} {en : α → List Value} {sz : Nat} {t e : TypeId} {fuel : Nat} {v : Value} {x : DataW H × List MemPlace} (ht : P.underlying t = some (.slice e)) (hC : P.cellsOf e = 1)
    (hel : ∀ n u y, DataW.trod enc P w base spare held n e [u] = some y → ∃ (A : Option Addr) (c : Nat) (xs : List α), u = .slice A xs.length c ∧ RdS en sz w A xs ∧ xs.length ≤ maxLen)
    (h : DataW.trod enc P w base spare held fuel t [v] = some x) : ∃ (A : Option Addr) (c : Nat) (xss : List (List α)), v = .slice A xss.length c ∧ RdL en sz w A xss ∧ xss.length ≤ maxLen ∧ ∀ xs ∈ xss, xs.length ≤ maxLen := by
  rcases open_slice1 ht hC h with ⟨hv, _⟩ | ⟨a, len, cap, m, n, V, D, Pl, hv, hb, hl, hm, hmm, _, hx⟩
  · have e1 : v = .slice none 0 0 := by simpa using hv
    exact ⟨none, 0, [], by simpa using e1, RdL.nil_, by simp [maxLen], by simp⟩
  · have e1 : v = .slice (some a) len cap := by simpa using hv
    have hlm : len ≤ m := by rw [hmm]; split <;> omega
    obtain ⟨xss, hxl, hxs⟩ := exists_list (p := fun i (xs : List α) => xs.length ≤ maxLen ∧ ∃ A' c, w.cell? (a.add i) = some (.slice A' xs.length c) ∧ RdS en sz w A' xs) len fun i hi => by
      obtain ⟨h1, h2⟩ := hx i (by omega)
      obtain ⟨A', c, xs, hV, hr, hml⟩ := hel _ _ _ h2
      rw [hV] at h1
      exact ⟨xs, hml, A', c, h1, hr⟩
    refine ⟨some a, cap, xss, by rw [hxl]; exact e1, ?_, by omega, fun xs hx => ?_⟩
    · obtain ⟨b, off, spot⟩ := a
      rcases Nat.eq_zero_or_pos len with h0 | h0
      · have : xss = [] := List.eq_nil_of_length_eq_zero (by omega)
        subst this
        exact RdL.nil_
      · have hsp : spot = none := by
          obtain ⟨_, A', c, h1, _⟩ := hxs 0 xss[0] (List.getElem?_eq_getElem (by omega))
          simpa [Addr.add] using World.cell?_spot h1
        subst hsp
        refine ⟨b, off, fun _ => rfl, fun k xs hk => ?_⟩
        obtain ⟨_, A', c, h1, h2⟩ := hxs k xs hk
        have e2 : (⟨b, off, none⟩ : Addr).add k = ⟨b, off + k, none⟩ := by
          unfold Addr.add
          split <;> simp_all
        rw [e2] at h1
        exact ⟨A', c, h1, h2⟩
    · obtain ⟨i, hi⟩ := List.getElem?_of_mem hx
      exact (hxs i xs hi).1

theorem field_one {fs : Array Field} {t : TypeId} {n : Nat} {cs : List Value} {y : DataW H × List MemPlace} (hs : P.underlying t = some (.struct fs)) (hone : oneCellFields P fs = true) (hC : P.cellsOf t = fs.size)
    (h : DataW.trod enc P w base spare held n t cs = some y) : cs.length = fs.size ∧ ∀ (j : Nat) (f : Field), fs[j]? = some f → ∃ (u : Value) (m : Nat) (z : DataW H × List MemPlace), cs[j]? = some u ∧ DataW.trod enc P w base spare held m f.type [u] = some z := by
  obtain ⟨ys, n', hn', hy, hlen, hyl, hf⟩ := DataW.trod_struct hs h
  rw [hC] at hlen
  refine ⟨hlen, fun j f hj => ?_⟩
  obtain ⟨ho, hk⟩ := hone_of hone j f hj
  have hjl : j < fs.size := (Array.getElem?_eq_some_iff.1 hj).1
  have h1 := hf j f hj
  rw [ho, hk] at h1
  have e1 : (cs.drop j).take 1 = [cs[j]'(by omega)] := by
    rw [List.drop_eq_getElem_cons (by omega)]
    rfl
  rw [e1, List.getElem?_eq_getElem (by omega : j < ys.length)] at h1
  exact ⟨_, _, _, List.getElem?_eq_getElem (by omega), h1⟩
end

theorem cells_slice (A : Option Addr) (n c : Nat) : (Value.slice A n c).cells.toList = [.slice A n c] := rfl
theorem below_lt {H : Type} {enc : TypeId × Value → H} {P : Program} {w : World} {t : TypeId} {v : Value} {d : DataW H} {p : List MemPlace} (h : DataW.Trod enc P w 0 (fun _ => true) true t v d p) : ∀ x ∈ p, x.block < w.heap.size := by
  obtain ⟨m, hm⟩ := h
  exact DataW.trod_lt m _ _ _ hm
end Go.Proofs.Ytldcnlhfanbdfaa
