/-
  Slices of ints: how they are read; the walks of the small functions on them.
-/
import Derived.Test.YtafhpccanamiaaaSmall
namespace Go.Proofs.Ytafhpccanamiaaa
open Go.RowKit

def encI (x : Int) : List Value := [.int .i64 x]
theorem encI_len (x : Int) : (encI x).length = 1 := rfl
theorem encI_one (x : Int) : ∀ u ∈ encI x, u.oneCell' = true := by simp [encI, Value.oneCell']

theorem RdS.int {w : World} {A : Option Addr} {xs : List Int} (h : RdS encI 1 w A xs) {k : Nat} (hk : k < xs.length) :
    ∃ b off x, A = some ⟨b, off, none⟩ ∧ Hid (xs[k]? = some x) ∧ w.cell? ⟨b, off + k, none⟩ = some (.int .i64 x) := by
  obtain ⟨b, off, x, hA, hx, hc⟩ := h.elem hk
  exact ⟨b, off, x, hA, hx, by simpa using hc 0 _ rfl⟩

theorem int_info : (Try.prog.info? 3).map (fun i => (i.zero, i.size, i.bytes)) = some (some (.int .i64 0), 1, 8) := by kernel_rfl

set_option maxHeartbeats 400000 in
theorem l1Has_any (A : Option Addr) (c : Nat) (xs : List Int) (n : Int) (hn : xs.length ≤ 16777216) (w : World) (hr : RdS encI 1 w A xs) :
    Calls Try.prog 93 #[.slice A xs.length c, .int .i64 n] w (RetB (n ∈ xs) w) := by
  go_enter Try.func93, Try.ntmps93
  go_wp2
  go_loop [9] (fun i => ∃ k : Nat, k ≤ xs.length ∧ i = .int .i64 k ∧ n ∉ xs.take k) (fun i => xs.length - (intOf i).toNat)
  case atStart => exact ⟨0, by omega, rfl, by simp⟩
  case round =>
    obtain ⟨k, hk, rfl, ht⟩ := hrel
    have HT := Lib.hid ht
    clear ht
    by_cases hlt : k < xs.length
    · obtain ⟨b, off, x, rfl, hx, c0⟩ := hr.int hlt
      go_wp2
      · go_ret
        have h : (x == n) = true := by assumption
        exact RetB.mkT (by have e : x = n := by simpa using h
                           subst e
                           exact List.mem_of_getElem? hx.out) (Below.refl _ _)
      · have h : (x == n) = false := by assumption
        go_round
        case rel => exact ⟨k + 1, by omega, vint (by omega), by rw [take_snoc hx.out]; have e : ¬ x = n := (by simpa using h); intro hm; rcases List.mem_append.1 hm with h1 | h1; exact HT.out h1; simp at h1; exact e h1.symm⟩
        case measure => simp [intOf]; omega
    · go_wp2
      go_ret
      exact RetB.mkF (by have h := HT.out; rwa [List.take_of_length_le (by omega)] at h) (Below.refl _ _)

set_option maxHeartbeats 1000000 in
theorem eqIntS_any (A A' : Option Addr) (c c' : Nat) (xs ys : List Int) (hn : xs.length ≤ 16777216) (w : World) (hr : RdS encI 1 w A xs) (hr' : RdS encI 1 w A' ys) :
    Calls Try.prog 40 #[.slice A xs.length c, .slice A' ys.length c'] w (RetB (xs = ys) w) := by
  by_cases hl : xs.length = ys.length
  · have hd : ((xs.length : Int) != (ys.length : Int)) = false := by simp [hl]
    have HL := Lib.hid hl
    clear hl
    go_enter Try.func40, Try.ntmps40
    go_wp2
    go_loopw [5] (fun i wr => ∃ k : Nat, k ≤ xs.length ∧ i = .int .i64 k ∧ xs.take k = ys.take k ∧ Below w.heap.size w wr) (fun i _ => xs.length - (intOf i).toNat)
    case atStart => exact ⟨0, by omega, rfl, by simp, (by repeat (first | exact Below.refl _ _ | assumption | refine Below.drew ?_ | refine below_drewN ?_ _ | refine Below.alloc ?_ (by simp <;> omega) _ | refine Below.setCell ?_ (by simp <;> omega) _))⟩
    case round =>
      obtain ⟨k, hk, rfl, ht, hb⟩ := hrel
      have HT := Lib.hid ht
      clear ht hd
      by_cases hlt : k < xs.length
      · have hlt' : k < ys.length := by have := HL.out; omega
        obtain ⟨b, off, x, rfl, hx, c0⟩ := (hr.ext hb).int hlt
        obtain ⟨b', off', y, rfl, hy, d0⟩ := (hr'.ext hb).int hlt'
        have q0 := fun i : Later wr => i.cell c0
        have p0 := fun i : Later wr => i.cell d0
        have ne := Later.ne wr
        clear hr hr'
        go_wp2
        refine wp_region_later (by kernel_rfl) (by kernel_rfl) ?_
        repeat (go_big_quiet_step (fail))
        refine wpQuiet_nil ?_
        rintro _ ⟨i1, rfl⟩
        have hb1 := i1.below
        generalize i1.w = w1 at hb1 ⊢
        clear q0 p0 ne
        go_wp2
        · go_ret
          have h : (x != y) = true := by assumption
          exact RetB.mkF (fun e => by have h1 := hx.out; have h2 := hy.out; rw [e] at h1; rw [h1] at h2; simp at h2; simp [h2] at h) (below_then hb hb.size hb1)
        · have h : (x != y) = false := by assumption
          go_roundw
          case rel => exact ⟨k + 1, by omega, vint (by omega), by rw [take_snoc hx.out, take_snoc hy.out, HT.out]; simp at h; rw [h], below_then hb hb.size hb1⟩
          case measure => simp [intOf]; omega
      · go_wp2
        go_ret
        exact RetB.mkT (by have h := HT.out; have h2 := HL.out; rwa [List.take_of_length_le (by omega), List.take_of_length_le (by omega)] at h) hb
  · have hd : ((xs.length : Int) != (ys.length : Int)) = true := by rw [bne_iff_ne]; omega
    have HL := Lib.hid hl
    clear hl
    go_enter Try.func40, Try.ntmps40
    go_wp2
    go_ret
    exact RetB.mkF (fun h => HL.out (by rw [h])) (Below.refl _ _)

def marksI (k : Int) (n : Nat) : List Int := (List.range n).map fun (i : Nat) => k + (i : Int)
theorem marksI_len (k : Int) (n : Nat) : (marksI k n).length = n := by simp [marksI]
theorem marksI_get {k : Int} {n i : Nat} (h : i < n) : (marksI k n)[i]? = some (k + (i : Int)) := by simp [marksI, h]

set_option maxHeartbeats 1000000 in
theorem markIntS_any (A : Option Addr) (n c B : Nat) (xs : List Int) (hn : n ≤ 16777216) (k : Int) (h0 : 0 ≤ k) (h1 : k ≤ 1099511627776) (w : World) (ho : OwnS encI 1 3 w B (.slice A n c) xs) :
    Calls Try.prog 43 #[.slice A n c, .int .i64 k] w fun e w' => e = .returned (.int .i64 (k + n)) ∧ OwnS encI 1 3 w' B (.slice A n c) (marksI k n) ∧ w.grownBy w' (Value.slice A n c).ownBlock := by
  rcases Nat.eq_zero_or_pos n with hz | hz
  · subst hz
    go_enter Try.func43, Try.ntmps43
    go_wp2
    go_loop [1, 5] (fun q i => q = .int .i64 k ∧ i = .int .i64 0) (fun _ _ => 0)
    case atStart => exact ⟨rfl, rfl⟩
    case round =>
      obtain ⟨rfl, rfl⟩ := hrel
      go_wp2
      go_ret
      exact ⟨ret_int (by omega), ho.zero, World.grownBy.refl _ _⟩
  · obtain ⟨g, N, rfl, rfl, hB, -, hnN, hN, hm0⟩ := ho.made hz (marksI k n) (enc' := encI)
    clear ho
    have hN' := hN
    unfold maxLen at hN'
    go_enter Try.func43, Try.ntmps43
    go_wp2
    go_loopw [1, 5] (fun q i wr => ∃ j : Nat, j ≤ n ∧ i = .int .i64 j ∧ q = .int .i64 (k + j) ∧ Made3 g 3 1 encI (marksI k n) c j wr ∧ w.grownBy wr (some g)) (fun _ i _ => n - (intOf i).toNat)
    case atStart => exact ⟨0, by omega, rfl, by simp, hm0, World.grownBy.refl _ _⟩
    case round =>
    obtain ⟨j, hj, rfl, rfl, hm, hgr⟩ := hrel
    clear hm0
    by_cases hlt : j < n
    · obtain ⟨cs, hrow, hl⟩ := hm.row
      obtain ⟨u0, d0⟩ := hrow.cellAt (i := j) (by have := hl.out; omega)
      have f0 := hrow.frozen j
      have hm2 := hm.next encI_len (marksI_get hlt) (by rw [marksI_len]; exact hnN)
      have hg2 := only_put (encI (k + (j : Int))) j hgr
      simp only [encI, putW, Nat.mul_one] at hm2 hg2
      go_wp2
      go_roundw
      case rel => exact ⟨j + 1, by omega, vint (by omega), vint (by omega), hm2, hg2⟩
      case measure => simp [intOf]; omega
    · have hk' : n = j := by omega
      have HK := Lib.hid hk'
      clear hk'
      go_wp2
      go_ret
      exact ⟨ret_int (by have := HK.out; omega), by have e := HK.out; rw [← e] at hm; have h2 := Made3.done (B := B) encI_len (by rw [marksI_len]; exact hm) hB (by rw [marksI_len]; exact hnN) hN; rwa [marksI_len] at h2, hgr⟩

set_option maxHeartbeats 1000000 in
theorem heldIntS_any (A : Option Addr) (n c : Nat) (hn : n ≤ 16777216) (k : Int) (h0 : 0 ≤ k) (h1 : k ≤ 1099511627776) (w : World) (hr : RdS encI 1 w A (marksI k n)) :
    Calls Try.prog 44 #[.slice A n c, .int .i64 k] w fun e w' => e = .returned (.int .i64 (k + n)) ∧ w = w' := by
  go_enter Try.func44, Try.ntmps44
  go_wp2
  go_loop [1, 5] (fun q i => ∃ j : Nat, j ≤ n ∧ i = .int .i64 j ∧ q = .int .i64 (k + j)) (fun _ i => n - (intOf i).toNat)
  case atStart => exact ⟨0, by omega, rfl, by simp⟩
  case round =>
    obtain ⟨j, hj, rfl, rfl⟩ := hrel
    by_cases hlt : j < n
    · obtain ⟨b, off, x, rfl, hx, c0⟩ := hr.int (k := j) (by rw [marksI_len]; exact hlt)
      obtain rfl : k + (j : Int) = x := by have h := hx.out; rw [marksI_get hlt] at h; exact Option.some.inj h
      clear hx
      go_wp2
      go_round
      case rel => exact ⟨j + 1, by omega, vint (by omega), vint (by omega)⟩
      case measure => simp [intOf]; omega
    · have hk' : n = j := by omega
      have HK := Lib.hid hk'
      clear hk'
      go_wp2
      go_ret
      exact ⟨ret_int (by have := HK.out; omega), rfl⟩

set_option maxHeartbeats 400000 in
theorem l1Own_any (A : Option Addr) (c : Nat) (xs : List Int) (hn : xs.length ≤ 16777216) (w : World) (hr : RdS encI 1 w A xs) :
    Calls Try.prog 73 #[.slice A xs.length c] w (RetS encI 1 3 xs w) := by
  go_enter Try.func73, Try.ntmps73
  go_wp2_with (at_builtin; go_must (refine wpList_append_rdS rfl _ _ _ rfl Try.underlying56 int_info rfl (by decide) (by decide) (xs := []) rfl rfl encI_len encI_one (by simpa using hn) (OwnS.empty (B := w.heap.size) (Nat.le_refl _)) (hr.alloc _) (by simp) ?_); intro v1 w1 hown1 hb1 hg1)
  go_ret
  exact ⟨_, rfl, by simpa using hown1, ((Below.refl _ _).alloc (Nat.le_refl _) _).trans hb1⟩
theorem l1Own_n (A : Option Addr) (n c : Nat) (xs : List Int) (hnn : n = xs.length) (hn : xs.length ≤ 16777216) (w : World) (hr : RdS encI 1 w A xs) :
    Calls Try.prog 73 #[.slice A n c] w (RetS encI 1 3 xs w) := by
  subst hnn; exact l1Own_any A c xs hn w hr
set_option maxHeartbeats 400000 in
theorem copyInts_any (A : Option Addr) (c : Nat) (xs : List Int) (hn : xs.length ≤ 16777216) (w : World) (hr : RdS encI 1 w A xs) :
    Calls Try.prog 79 #[.slice A xs.length c] w (RetS encI 1 3 xs w) := by
  go_enter Try.func79, Try.ntmps79
  go_wp2_with (at_builtin; go_must (refine wpList_append_rdS rfl _ _ _ rfl Try.underlying56 int_info rfl (by decide) (by decide) (xs := []) rfl rfl encI_len encI_one (by simpa using hn) (OwnS.empty (B := w.heap.size) (Nat.le_refl _)) (hr.alloc _) (by simp) ?_); intro v1 w1 hown1 hb1 hg1)
  go_ret
  exact ⟨_, rfl, by simpa using hown1, ((Below.refl _ _).alloc (Nat.le_refl _) _).trans hb1⟩
end Go.Proofs.Ytafhpccanamiaaa
