/-
  Double points: the plain words; doublePoints, DoublePoints of the program and of the reference.
-/
import Derived.Test.YtjdbiifnnaedhaaFinOk
namespace Go.Proofs.Ytjdbiifnnaedhaa
open Go.RowKit

def share (l : List FinishD) (p : Int) : Nat := l.countP (fun y => decide (y.place = p))
theorem share_le (l : List FinishD) (p : Int) : share l p ≤ l.length := List.countP_le_length
theorem share_yes {l : List FinishD} {k : Nat} {y : FinishD} {p : Int} (hy : l[k]? = some y) (h : y.place = p) : share (l.take (k + 1)) p = share (l.take k) p + 1 := by
  rw [take_snoc hy]; simp [share, h]
theorem share_no {l : List FinishD} {k : Nat} {y : FinishD} {p : Int} (hy : l[k]? = some y) (h : ¬ y.place = p) : share (l.take (k + 1)) p = share (l.take k) p := by
  rw [take_snoc hy]; simp [share, h]
theorem share_take (l : List FinishD) (k : Nat) (p : Int) : share (l.take k) p ≤ k := Nat.le_trans (share_le _ _) (List.length_take_le _ _)
def pts (l : List FinishD) (x : FinishD) : Int := 26 - 2 * x.place - ((share l x.place : Int) - 1)
def dpTo (l : List FinishD) (k : Nat) : List Int := (l.take k).map (pts l)
def dp (l : List FinishD) : List Int := l.map (pts l)
theorem dpTo_snoc {l : List FinishD} {k : Nat} {x : FinishD} (hx : l[k]? = some x) : dpTo l (k + 1) = dpTo l k ++ [pts l x] := by
  unfold dpTo; rw [take_snoc hx]; simp
theorem dpTo_len (l : List FinishD) (k : Nat) : (dpTo l k).length ≤ l.length := by unfold dpTo; simp; omega
theorem dpTo_all {l : List FinishD} {k : Nat} (h : l.length ≤ k) : dpTo l k = dp l := by unfold dpTo dp; rw [List.take_of_length_le h]
theorem FinOk.place {l : List FinishD} (h : FinOk l) {k : Nat} {x : FinishD} (hx : l[k]? = some x) : 1 ≤ x.place ∧ x.place ≤ 13 := by
  have h1 := (h.2 k x (List.getElem?_eq_some_iff.1 hx).1 hx).2.2
  have h2 := cntLt_le l x.place
  have h3 := h.1
  omega

set_option maxHeartbeats 400000 in
theorem tePoints_any (p s : Int) (h1 : -1000 ≤ p) (h2 : p ≤ 1000) (h3 : 0 ≤ s) (h4 : s ≤ 1000000) (w : World) :
    Calls Try.prog 60 #[.int .i64 p, .int .i64 s] w fun e w' => e = .returned (.int .i64 (26 - 2 * p - (s - 1))) ∧ w = w' := by
  go_enter Try.func60, Try.ntmps60
  go_wp2
  go_ret
  exact ⟨ret_int (by omega), rfl⟩

set_option maxHeartbeats 1000000 in
theorem teShare_any (A : Option Addr) (c : Nat) (l : List FinishD) (p : Int) (hn : l.length ≤ 1048576) (w : World) (hr : RdS FinishD.enc 2 w A l) :
    Calls Try.prog 61 #[.slice A l.length c, .int .i64 p] w fun e w' => e = .returned (.int .i64 (share l p)) ∧ Below w.heap.size w w' := by
  go_enter Try.func61, Try.ntmps61
  go_wp2
  go_loopw [5, 10] (fun q i wr => ∃ k : Nat, k ≤ l.length ∧ i = .int .i64 k ∧ q = .int .i64 (share (l.take k) p) ∧ Below w.heap.size w wr) (fun _ i _ => l.length - (intOf i).toNat)
  case atStart => exact ⟨0, by omega, rfl, rfl, Below.refl _ _⟩
  case round =>
    obtain ⟨k, hk, rfl, rfl, hb⟩ := hrel
    have hcm := share_take l k p
    by_cases hlt : k < l.length
    · obtain ⟨b, off, x, rfl, hx, c0, c1⟩ := (hr.ext hb).finish hlt
      have hB : Below w.heap.size w (wr.alloc (.cells #[.int .i64 x.team, .int .i64 x.place] 62)) := hb.alloc hb.size _
      by_cases hp : x.place = p
      · have hp' : (x.place == p) = true := by simpa using hp
        have HP := Lib.hid hp
        clear hp
        go_wp2
        go_roundw
        case rel => exact ⟨k + 1, by omega, vint (by omega), vint (by rw [share_yes hx.out HP.out]; omega), hB⟩
        case measure => simp [intOf]; omega
      · have hp' : (x.place == p) = false := by simpa using hp
        have HP := Lib.hid hp
        clear hp
        go_wp2
        go_roundw
        case rel => exact ⟨k + 1, by omega, vint (by omega), vint (by rw [share_no hx.out HP.out]), hB⟩
        case measure => simp [intOf]; omega
    · have hml : l.take k = l := List.take_of_length_le (by omega)
      have HML := Lib.hid hml
      clear hml
      go_wp2
      go_ret
      exact ⟨ret_int (by rw [HML.out]), hb⟩

set_option maxHeartbeats 2000000 in
theorem impl_doublePoints (A : Option Addr) (c : Nat) (l : List FinishD) (hf : FinOk l) (w : World) (hr : RdS FinishD.enc 2 w A l) :
    Calls Try.prog 62 #[.slice A l.length c] w (RetS encI 1 3 (dp l) w) := by
  have hn : l.length ≤ 12 := hf.1
  go_enter Try.func62, Try.ntmps62
  go_wp2
  have hown0 : OwnS encI 1 3 (w.alloc (.cells #[] 3)) w.heap.size (.slice (some ⟨w.heap.size, 0, none⟩) 0 0) ([] : List Int) := OwnS.empty (Nat.le_refl _)
  have hb0 : Below w.heap.size w (w.alloc (.cells #[] 3)) := (by repeat (first | exact Below.refl _ _ | assumption | refine Below.drew ?_ | refine below_drewN ?_ _ | refine Below.alloc ?_ (by simp <;> omega) _ | refine Below.setCell ?_ (by simp <;> omega) _))
  generalize w.alloc (.cells #[] 3) = w0 at hown0 hb0 ⊢
  go_loopw [3, 12] (fun v i wr => ∃ k : Nat, k ≤ l.length ∧ i = .int .i64 k ∧ OwnS encI 1 3 wr w.heap.size v (dpTo l k) ∧ Below w.heap.size w wr) (fun _ i _ => l.length - (intOf i).toNat)
  case atStart => exact ⟨0, by omega, rfl, hown0, hb0⟩
  case round =>
    obtain ⟨k, hk, rfl, hown, hb⟩ := hrel
    clear hown0 hb0
    obtain ⟨M, cm, rfl, -⟩ := hown.slice encI_len
    have hml := dpTo_len l k
    by_cases hlt : k < l.length
    · obtain ⟨b, off, x, rfl, hx, c0, c1⟩ := (hr.ext hb).finish hlt
      have hpl := hf.place hx.out
      go_wp2
      have d0 : (wr.alloc (.cells #[.int .i64 x.team, .int .i64 x.place] 62)).cell? ⟨wr.heap.size, 0, none⟩ = some (.int .i64 x.team) := by simp [go_sem]
      have d1 : (wr.alloc (.cells #[.int .i64 x.team, .int .i64 x.place] 62)).cell? ⟨wr.heap.size, 1, none⟩ = some (.int .i64 x.place) := by simp [go_sem]
      have hb1 : Below w.heap.size w (wr.alloc (.cells #[.int .i64 x.team, .int .i64 x.place] 62)) := hb.alloc hb.size _
      have hown1 := hown.alloc (.cells #[.int .i64 x.team, .int .i64 x.place] 62)
      generalize wr.alloc (.cells #[.int .i64 x.team, .int .i64 x.place] 62) = W1 at d0 d1 hb1 hown1 ⊢
      generalize wr.heap.size = g at d0 d1 ⊢
      clear c0 c1 hb hown
      go_loopw [6, 18] (fun q i wr => ∃ m : Nat, m ≤ l.length ∧ i = .int .i64 m ∧ q = .int .i64 (share (l.take m) x.place) ∧ Below W1.heap.size W1 wr) (fun _ i _ => l.length - (intOf i).toNat)
      case atStart => exact ⟨0, by omega, rfl, rfl, Below.refl _ _⟩
      case round =>
        obtain ⟨m, hm, rfl, rfl, hb2⟩ := hrel
        have e0 := cell_kept d0 hb2
        have e1 := cell_kept d1 hb2
        have hg : g < wr.heap.size := cell_lt e0
        have hcm := share_take l m x.place
        by_cases hlm : m < l.length
        · obtain ⟨b', off', y, hA, hy, c0, c1⟩ := (hr.ext (below_trans hb1 hb2)).finish hlm
          cases hA
          have hB : Below W1.heap.size W1 (wr.alloc (.cells #[.int .i64 y.team, .int .i64 y.place] 62)) := hb2.alloc hb2.size _
          by_cases hp : y.place = x.place
          · have hp' : (y.place == x.place) = true := by simpa using hp
            have HP := Lib.hid hp
            clear hp
            go_wp2
            go_roundw
            case rel => exact ⟨m + 1, by omega, vint (by omega), vint (by rw [share_yes hy.out HP.out]; omega), hB⟩
            case measure => simp [intOf]; omega
          · have hp' : (y.place == x.place) = false := by simpa using hp
            have HP := Lib.hid hp
            clear hp
            go_wp2
            go_roundw
            case rel => exact ⟨m + 1, by omega, vint (by omega), vint (by rw [share_no hy.out HP.out]), hB⟩
            case measure => simp [intOf]; omega
        · have hml2 : l.take m = l := List.take_of_length_le (by omega)
          have HML := Lib.hid hml2
          clear hml2
          have hown2 := hown1.ext hb2
          have hb3 := below_trans hb1 hb2
          have hs3 := hb3.size
          clear hown1 hb1 hb2 d0 d1
          go_wp2_with (at_builtin; go_must (refine wpList_append_ownS (xs := dpTo l k) rfl _ _ _ rfl Try.underlying36 int_info rfl (by decide) (by decide) rfl rfl (encI_len (26 - 2 * x.place - ((share (l.take m) x.place : Int) - 1))) (encI_one _) (by omega) (hown2.alloc _) (Row.new _ _ _) (by simp <;> omega) ?_); intro v1 w3 hown3 hb5 hg5)
          have hb6 : Below w.heap.size w w3 := (hb3.alloc (by omega) _).trans hb5
          go_roundw
          case rel => exact ⟨k + 1, by omega, vint (by omega), by rw [dpTo_snoc hx.out]; rw [HML.out] at hown3; exact hown3, hb6⟩
          case measure => simp [intOf]; omega
    · go_wp2
      go_ret
      exact ⟨_, rfl, by rw [← dpTo_all (l := l) (k := k) (by omega)]; exact hown, hb⟩

theorem dp_len {l : List FinishD} {r : Option (List Int)} (h : Opt (FinOk l) (dp l) r) : (r.getD []).length ≤ 12 := by
  rcases h with ⟨h, rfl⟩ | ⟨_, rfl⟩
  · simpa [dp] using h.1
  · simp

set_option maxHeartbeats 1000000 in
theorem impl_DoublePoints (A : Option Addr) (c : Nat) (l : List FinishD) (hn : l.length ≤ 1048576) (r : Option (List Int)) (hres : Opt (FinOk l) (dp l) r) (w : World) (hr : RdS FinishD.enc 2 w A l) :
    Calls Try.prog 26 #[.slice A l.length c] w (Ret2 (IsS encI 1 3 (r.getD [])) (IsBool r.isSome) w) := by
  rcases hres with ⟨hf, rfl⟩ | ⟨hf, rfl⟩
  · go_enter Try.func26, Try.ntmps26
    go_wp2_with fail
    refine (RetB.yes (impl_AreFinishes _ _ _ hn _ hr) hf).mono ?_
    rintro e w1 ⟨rfl, hb1⟩
    go_wp2_with fail
    refine (impl_doublePoints _ _ _ hf _ (hr.ext hb1)).mono ?_
    rintro e w2 ⟨v, rfl, ho, hb2⟩
    go_wp2
    go_ret2
    exact ⟨_, _, rfl, ho.low hb1.size, rfl, below_trans hb1 hb2⟩
  · go_enter Try.func26, Try.ntmps26
    go_wp2_with fail
    refine (RetB.no (impl_AreFinishes _ _ _ hn _ hr) hf).mono ?_
    rintro e w1 ⟨rfl, hb1⟩
    go_wp2
    go_ret2
    exact ⟨_, _, rfl, OwnS.nil_, rfl, hb1⟩

set_option maxHeartbeats 1000000 in
theorem spec_DoublePoints (A : Option Addr) (c : Nat) (l : List FinishD) (hn : l.length ≤ 1048576) (r : Option (List Int)) (hres : Opt (FinOk l) (dp l) r) (w : World) (hr : RdS FinishD.enc 2 w A l) :
    Calls Try.prog 25 #[.slice A l.length c] w (Ret2 (IsS encI 1 3 (r.getD [])) (IsBool r.isSome) w) := by
  rcases hres with ⟨hf, rfl⟩ | ⟨hf, rfl⟩
  · have h12 : l.length ≤ 12 := hf.1
    go_enter Try.func25, Try.ntmps25
    go_wp2_with fail
    refine (RetB.yes (spec_teGood _ _ _ hn _ hr) hf).mono ?_
    rintro e w0 ⟨rfl, hb0⟩
    go_wp2
    go_loopw [4, 12] (fun v i wr => ∃ k : Nat, k ≤ l.length ∧ i = .int .i64 k ∧ OwnS encI 1 3 wr w.heap.size v (dpTo l k) ∧ Below w.heap.size w wr) (fun _ i _ => l.length - (intOf i).toNat)
    case atStart => exact ⟨0, by omega, rfl, OwnS.nil_, hb0⟩
    case round =>
      obtain ⟨k, hk, rfl, hown, hb⟩ := hrel
      clear hb0
      obtain ⟨M, cm, rfl, -⟩ := hown.slice encI_len
      have hml := dpTo_len l k
      by_cases hlt : k < l.length
      · obtain ⟨b, off, x, rfl, hx, c0, c1⟩ := (hr.ext hb).finish hlt
        have hpl := hf.place hx.out
        have hsl := share_le l x.place
        have hrl := (hr.ext hb).alloc (.cells #[.int .i64 x.team, .int .i64 x.place] 62)
        go_wp2
        have d1 : (wr.alloc (.cells #[.int .i64 x.team, .int .i64 x.place] 62)).cell? ⟨wr.heap.size, 1, none⟩ = some (.int .i64 x.place) := by simp [go_sem]
        have hb1 : Below w.heap.size w (wr.alloc (.cells #[.int .i64 x.team, .int .i64 x.place] 62)) := hb.alloc hb.size _
        have hown1 := hown.alloc (.cells #[.int .i64 x.team, .int .i64 x.place] 62)
        generalize wr.alloc (.cells #[.int .i64 x.team, .int .i64 x.place] 62) = W1 at d1 hb1 hown1 hrl ⊢
        generalize wr.heap.size = g at d1 ⊢
        clear c0 c1 hb hown
        have q1 := fun i : Later W1 => i.cell d1
        have ne := Later.ne W1
        refine wp_region_later_tail 1 8 (by kernel_rfl) (by kernel_rfl) (fun _ _ _ _ _ h => h) ?_
        simp only [List.take_succ_cons, List.take_zero, List.drop_succ_cons, List.drop_zero]
        repeat (go_big_quiet_step ((first | (go_at_call 61; exact Calls.later_of (teShare_any _ _ _ _ hn _ (hrl.ext (Later.below _)))) | (go_at_call 60; exact Calls.later_same (tePoints_any _ _ (by omega) (by omega) (by omega) (by omega) _)))))
        refine wpQuiet_nil ?_
        rintro _ ⟨i1, rfl⟩
        have hb2 := i1.below
        generalize i1.w = W2 at hb2 ⊢
        clear i1
        clear q1 ne
        have hown2 := hown1.ext hb2
        have hb3 := below_trans hb1 hb2
        have hs3 := hb3.size
        go_wp2_with (at_builtin; go_must (refine wpList_append_ownS (xs := dpTo l k) rfl _ _ _ rfl Try.underlying36 int_info rfl (by decide) (by decide) rfl rfl (encI_len (pts l x)) (encI_one _) (by omega) (hown2.alloc _) (Row.new _ _ _) (by simp <;> omega) ?_); intro v1 w3 hown3 hb5 hg5)
        have hb6 : Below w.heap.size w w3 := (hb3.alloc (by omega) _).trans hb5
        go_roundw
        case rel => exact ⟨k + 1, by omega, vint (by omega), by rw [dpTo_snoc hx.out]; exact hown3, hb6⟩
        case measure => simp [intOf]; omega
      · go_wp2
        go_ret2
        exact ⟨_, _, rfl, by show OwnS _ _ _ _ _ _ (dp l); rw [← dpTo_all (l := l) (k := k) (by omega)]; exact hown, rfl, hb⟩
  · go_enter Try.func25, Try.ntmps25
    go_wp2_with fail
    refine (RetB.no (spec_teGood _ _ _ hn _ hr) hf).mono ?_
    rintro e w1 ⟨rfl, hb1⟩
    go_wp2
    go_ret2
    exact ⟨_, _, rfl, OwnS.nil_, rfl, hb1⟩
end Go.Proofs.Ytjdbiifnnaedhaa
