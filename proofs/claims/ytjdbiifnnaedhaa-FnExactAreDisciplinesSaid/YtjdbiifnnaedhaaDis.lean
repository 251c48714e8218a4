/-
  When disciplines are valid: AreDisciplines of the program and of the reference.
-/
import Derived.Test.YtjdbiifnnaedhaaFinOk
import Derived.Test.YtjdbiifnnaedhaaFinSS
namespace Go.Proofs.Ytjdbiifnnaedhaa
open Go.RowKit

def DisUpto (ls : List (List FinishD)) (k : Nat) : Prop := ∀ i l, i < k → ls[i]? = some l → FinOk l
def DisOk (ls : List (List FinishD)) : Prop := ls.length ≤ 5 ∧ DisUpto ls ls.length
theorem DisUpto.zero (ls : List (List FinishD)) : DisUpto ls 0 := fun _ _ h => absurd h (by omega)
theorem DisUpto.succ {ls : List (List FinishD)} {k : Nat} {l : List FinishD} (h : DisUpto ls k) (hl : ls[k]? = some l) (hf : FinOk l) : DisUpto ls (k + 1) := by
  intro i l' hi hl'
  by_cases e : i = k
  · subst e
    rw [hl] at hl'
    cases hl'
    exact hf
  · exact h i l' (by omega) hl'
theorem DisOk.not_at {ls : List (List FinishD)} {k : Nat} {l : List FinishD} (hl : ls[k]? = some l) (hf : ¬ FinOk l) : ¬ DisOk ls :=
  fun h => hf (h.2 k l (List.getElem?_eq_some_iff.1 hl).1 hl)

set_option maxHeartbeats 1000000 in
theorem impl_AreDisciplines (A : Option Addr) (c : Nat) (ls : List (List FinishD)) (hn : ls.length ≤ 1048576) (hi : ∀ l ∈ ls, l.length ≤ 1048576) (w : World) (hr : RdL FinishD.enc 2 w A ls) :
    Calls Try.prog 23 #[.slice A ls.length c] w (RetB (DisOk ls) w) := by
  go_enter Try.func23, Try.ntmps23
  go_wp2
  go_loopw [7] (fun i wr => ∃ k : Nat, k ≤ ls.length ∧ i = .int .i64 k ∧ DisUpto ls k ∧ Below w.heap.size w wr) (fun i _ => ls.length - (intOf i).toNat)
  case atStart => exact ⟨0, by omega, rfl, DisUpto.zero ls, Below.refl _ _⟩
  case round =>
    obtain ⟨k, hk, rfl, hu, hb⟩ := hrel
    by_cases hlt : k < ls.length
    · obtain ⟨b, off, l, A', c', rfl, hx, c0, hrl⟩ := (hr.ext hb).at_ hlt
      have hll : l.length ≤ 1048576 := hi l (List.mem_of_getElem? hx.out)
      by_cases hf : FinOk l
      · go_wp2_with (go_at_call 18; refine (RetB.yes (impl_AreFinishes _ _ _ hll _ hrl) hf).mono ?_; rintro e w1 ⟨rfl, hb1⟩)
        go_roundw
        case rel => exact ⟨k + 1, by omega, vint (by omega), hu.succ hx.out hf, below_then hb hb.size hb1⟩
        case measure => simp [intOf]; omega
      · go_wp2_with (go_at_call 18; refine (RetB.no (impl_AreFinishes _ _ _ hll _ hrl) hf).mono ?_; rintro e w1 ⟨rfl, hb1⟩)
        go_ret
        exact RetB.mkF (DisOk.not_at hx.out hf) (below_then hb hb.size hb1)
    · go_wp2
      go_ret
      exact RetB.mk_ (by simp; exact ⟨fun h => ⟨by omega, by rwa [show k = ls.length by omega] at hu⟩, fun h => by have := h.1; omega⟩) hb

set_option maxHeartbeats 1000000 in
theorem spec_teAll (A : Option Addr) (c : Nat) (ls : List (List FinishD)) (hn : ls.length ≤ 1048576) (hi : ∀ l ∈ ls, l.length ≤ 1048576) (w : World) (hr : RdL FinishD.enc 2 w A ls) :
    Calls Try.prog 59 #[.slice A ls.length c] w (RetB (DisOk ls) w) := by
  go_enter Try.func59, Try.ntmps59
  go_wp2
  go_loopw [7] (fun i wr => ∃ k : Nat, k ≤ ls.length ∧ i = .int .i64 k ∧ DisUpto ls k ∧ Below w.heap.size w wr) (fun i _ => ls.length - (intOf i).toNat)
  case atStart => exact ⟨0, by omega, rfl, DisUpto.zero ls, Below.refl _ _⟩
  case round =>
    obtain ⟨k, hk, rfl, hu, hb⟩ := hrel
    by_cases hlt : k < ls.length
    · obtain ⟨b, off, l, A', c', rfl, hx, c0, hrl⟩ := (hr.ext hb).at_ hlt
      have hll : l.length ≤ 1048576 := hi l (List.mem_of_getElem? hx.out)
      by_cases hf : FinOk l
      · go_wp2_with (go_at_call 55; refine (RetB.yes (spec_teGood _ _ _ hll _ hrl) hf).mono ?_; rintro e w1 ⟨rfl, hb1⟩)
        go_roundw
        case rel => exact ⟨k + 1, by omega, vint (by omega), hu.succ hx.out hf, below_then hb hb.size hb1⟩
        case measure => simp [intOf]; omega
      · go_wp2_with (go_at_call 55; refine (RetB.no (spec_teGood _ _ _ hll _ hrl) hf).mono ?_; rintro e w1 ⟨rfl, hb1⟩)
        go_ret
        exact RetB.mkF (DisOk.not_at hx.out hf) (below_then hb hb.size hb1)
    · go_wp2
      go_ret
      exact RetB.mk_ (by simp; exact ⟨fun h => ⟨by omega, by rwa [show k = ls.length by omega] at hu⟩, fun h => by have := h.1; omega⟩) hb

set_option maxHeartbeats 400000 in
theorem spec_AreDisciplines (A : Option Addr) (c : Nat) (ls : List (List FinishD)) (hn : ls.length ≤ 1048576) (hi : ∀ l ∈ ls, l.length ≤ 1048576) (w : World) (hr : RdL FinishD.enc 2 w A ls) :
    Calls Try.prog 21 #[.slice A ls.length c] w (RetB (DisOk ls) w) := by
  go_enter Try.func21, Try.ntmps21
  go_wp2_with (go_at_call 59; refine (spec_teAll _ _ _ hn hi _ hr).mono ?_; rintro e w1 ⟨b, rfl, hb, hB⟩)
  go_ret
  exact RetB.mk_ hb hB
end Go.Proofs.Ytjdbiifnnaedhaa
