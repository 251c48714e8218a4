/-
  Slices of ints: how they are read; the walks of the small functions on them.
-/
import Derived.Test.YtldcnlhfanbdfaaSmall
namespace Go.Proofs.Ytldcnlhfanbdfaa
open Go.RowKit

def encI (x : Int) : List Value := [.int .i64 x]
theorem encI_len (x : Int) : (encI x).length = 1 := rfl
theorem encI_one (x : Int) : ∀ u ∈ encI x, u.oneCell' = true := by simp [encI, Value.oneCell']

theorem RdS.int {w : World} {A : Option Addr} {xs : List Int} (h : RdS encI 1 w A xs) {k : Nat} (hk : k < xs.length) :
    ∃ b off x, A = some ⟨b, off, none⟩ ∧ Hid (xs[k]? = some x) ∧ w.cell? ⟨b, off + k, none⟩ = some (.int .i64 x) := by
  obtain ⟨b, off, x, hA, hx, hc⟩ := h.elem hk
  exact ⟨b, off, x, hA, hx, by simpa using hc 0 _ rfl⟩

theorem int_info : (Try.prog.info? 3).map (fun i => (i.zero, i.size, i.bytes)) = some (some (.int .i64 0), 1, 8) := by kernel_rfl

set_option maxHeartbeats 400000 in
theorem l1Has_any (A : Option Addr) (c : Nat) (xs : List Int) (n : Int) (hn : xs.length ≤ 16777216) (w : World) (hr : RdS encI 1 w A xs) :
    Calls Try.prog 60 #[.slice A xs.length c, .int .i64 n] w (RetB (n ∈ xs) w) := by
  go_enter Try.func60, Try.ntmps60
  go_wp2
  go_loop [9] (fun i => ∃ k : Nat, k ≤ xs.length ∧ i = .int .i64 k ∧ n ∉ xs.take k) (fun i => xs.length - (intOf i).toNat)
  case atStart => exact ⟨0, by omega, rfl, by simp⟩
  case round =>
    obtain ⟨k, hk, rfl, ht⟩ := hrel
    have HT := Lib.hid ht
    clear ht
    by_cases hlt : k < xs.length
    · obtain ⟨b, off, x, rfl, hx, c0⟩ := hr.int hlt
      go_wp2
      · go_ret
        have h : (x == n) = true := by assumption
        exact RetB.mkT (by have e : x = n := by simpa using h
                           subst e
                           exact List.mem_of_getElem? hx.out) (Below.refl _ _)
      · have h : (x == n) = false := by assumption
        go_round
        case rel => exact ⟨k + 1, by omega, vint (by omega), by rw [take_snoc hx.out]; have e : ¬ x = n := (by simpa using h); intro hm; rcases List.mem_append.1 hm with h1 | h1; exact HT.out h1; simp at h1; exact e h1.symm⟩
        case measure => simp [intOf]; omega
    · go_wp2
      go_ret
      exact RetB.mkF (by have h := HT.out; rwa [List.take_of_length_le (by omega)] at h) (Below.refl _ _)


def marksI (k : Int) (n : Nat) : List Int := (List.range n).map fun (i : Nat) => k + (i : Int)
theorem marksI_len (k : Int) (n : Nat) : (marksI k n).length = n := by simp [marksI]
theorem marksI_get {k : Int} {n i : Nat} (h : i < n) : (marksI k n)[i]? = some (k + (i : Int)) := by simp [marksI, h]



set_option maxHeartbeats 400000 in
theorem l1Own_any (A : Option Addr) (c : Nat) (xs : List Int) (hn : xs.length ≤ 16777216) (w : World) (hr : RdS encI 1 w A xs) :
    Calls Try.prog 71 #[.slice A xs.length c] w (RetS encI 1 3 xs w) := by
  go_enter Try.func71, Try.ntmps71
  go_wp2_with (at_builtin; go_must (refine wpList_append_rdS rfl _ _ _ rfl Try.underlying25 int_info rfl (by decide) (by decide) (xs := []) rfl rfl encI_len encI_one (by simpa using hn) (OwnS.empty (B := w.heap.size) (Nat.le_refl _)) (hr.alloc _) (by simp) ?_); intro v1 w1 hown1 hb1 hg1)
  go_ret
  exact ⟨_, rfl, by simpa using hown1, ((Below.refl _ _).alloc (Nat.le_refl _) _).trans hb1⟩
theorem l1Own_n (A : Option Addr) (n c : Nat) (xs : List Int) (hnn : n = xs.length) (hn : xs.length ≤ 16777216) (w : World) (hr : RdS encI 1 w A xs) :
    Calls Try.prog 71 #[.slice A n c] w (RetS encI 1 3 xs w) := by
  subst hnn; exact l1Own_any A c xs hn w hr
end Go.Proofs.Ytldcnlhfanbdfaa
