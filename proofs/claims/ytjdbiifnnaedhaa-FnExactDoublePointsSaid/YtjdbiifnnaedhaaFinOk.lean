/-
  When finishes are valid: the plain words, and the walks of AreFinishes of the program and of the reference.
-/
import Derived.Test.YtjdbiifnnaedhaaFin
import Derived.Test.YtjdbiifnnaedhaaInts
namespace Go.Proofs.Ytjdbiifnnaedhaa
open Go.RowKit

def cntLt (l : List FinishD) (p : Int) : Nat := l.countP (fun y => decide (y.place < p))
theorem cntLt_le (l : List FinishD) (p : Int) : cntLt l p ≤ l.length := List.countP_le_length
theorem cntLt_yes {l : List FinishD} {k : Nat} {y : FinishD} {p : Int} (hy : l[k]? = some y) (h : y.place < p) : cntLt (l.take (k + 1)) p = cntLt (l.take k) p + 1 := by
  rw [take_snoc hy]; simp [cntLt, h]
theorem cntLt_no {l : List FinishD} {k : Nat} {y : FinishD} {p : Int} (hy : l[k]? = some y) (h : ¬ y.place < p) : cntLt (l.take (k + 1)) p = cntLt (l.take k) p := by
  rw [take_snoc hy]; simp [cntLt, h]
theorem cntLt_take (l : List FinishD) (k : Nat) (p : Int) : cntLt (l.take k) p ≤ k := Nat.le_trans (cntLt_le _ _) (List.length_take_le _ _)

def FinAt (l : List FinishD) (i : Nat) (x : FinishD) : Prop := (1 ≤ x.team ∧ x.team ≤ 12) ∧ (∀ j y, j < i → l[j]? = some y → y.team ≠ x.team) ∧ x.place = 1 + (cntLt l x.place : Int)
def FinUpto (l : List FinishD) (k : Nat) : Prop := ∀ i x, i < k → l[i]? = some x → FinAt l i x
def FinOk (l : List FinishD) : Prop := l.length ≤ 12 ∧ FinUpto l l.length

theorem FinUpto.zero (l : List FinishD) : FinUpto l 0 := fun _ _ h => absurd h (by omega)
theorem FinUpto.succ {l : List FinishD} {k : Nat} {x : FinishD} (h : FinUpto l k) (hx : l[k]? = some x) (hf : FinAt l k x) : FinUpto l (k + 1) := by
  intro i y hi hy
  by_cases e : i = k
  · subst e
    rw [hx] at hy
    cases hy
    exact hf
  · exact h i y (by omega) hy
theorem FinOk.not_at {l : List FinishD} {k : Nat} {x : FinishD} (hx : l[k]? = some x) (hf : ¬ FinAt l k x) : ¬ FinOk l :=
  fun h => hf (h.2 k x (List.getElem?_eq_some_iff.1 hx).1 hx)

/-- the inner loop: nobody before i among the first m has the team -/
def NoTeam (l : List FinishD) (i m : Nat) (t : Int) : Prop := ∀ j y, j < m → j < i → l[j]? = some y → y.team ≠ t
theorem NoTeam.zero (l : List FinishD) (i : Nat) (t : Int) : NoTeam l i 0 t := fun _ _ h => absurd h (by omega)
theorem NoTeam.succ {l : List FinishD} {i m : Nat} {t : Int} {y : FinishD} (h : NoTeam l i m t) (hy : l[m]? = some y) (hn : m < i → y.team ≠ t) : NoTeam l i (m + 1) t := by
  intro j z hj hi hz
  by_cases e : j = m
  · subst e
    rw [hy] at hz
    cases hz
    exact hn hi
  · exact h j z (by omega) hi hz

set_option maxHeartbeats 1000000 in
theorem impl_AreFinishes (A : Option Addr) (c : Nat) (l : List FinishD) (hn : l.length ≤ 1048576) (w : World) (hr : RdS FinishD.enc 2 w A l) :
    Calls Try.prog 18 #[.slice A l.length c] w (RetB (FinOk l) w) := by
  by_cases h12 : l.length ≤ 12
  · go_enter Try.func18, Try.ntmps18
    go_wp2
    go_loopw [13] (fun i wr => ∃ k : Nat, k ≤ l.length ∧ i = .int .i64 k ∧ FinUpto l k ∧ Below w.heap.size w wr) (fun i _ => l.length - (intOf i).toNat)
    case atStart => exact ⟨0, by omega, rfl, FinUpto.zero l, Below.refl _ _⟩
    case round =>
      obtain ⟨k, hk, rfl, hu, hb⟩ := hrel
      by_cases hlt : k < l.length
      · obtain ⟨b, off, x, rfl, hx, c0, c1⟩ := (hr.ext hb).finish hlt
        by_cases hT : 1 ≤ x.team ∧ x.team ≤ 12
        · obtain ⟨hT1, hT2⟩ := hT
          go_wp2_with (go_at_call 57; refine (isTeam_yes hT1 hT2 _).mono ?_; rintro e w' ⟨rfl, rfl⟩)
          have d0 : (wr.alloc (.cells #[.int .i64 x.team, .int .i64 x.place] 62)).cell? ⟨wr.heap.size, 0, none⟩ = some (.int .i64 x.team) := by simp [go_sem]
          have d1 : (wr.alloc (.cells #[.int .i64 x.team, .int .i64 x.place] 62)).cell? ⟨wr.heap.size, 1, none⟩ = some (.int .i64 x.place) := by simp [go_sem]
          have hb1 : Below w.heap.size w (wr.alloc (.cells #[.int .i64 x.team, .int .i64 x.place] 62)) := hb.alloc hb.size _
          generalize wr.alloc (.cells #[.int .i64 x.team, .int .i64 x.place] 62) = W1 at d0 d1 hb1 ⊢
          generalize wr.heap.size = g at d0 d1 ⊢
          clear c0 c1 hb
          go_loopw [5, 24] (fun p i wr => ∃ m : Nat, m ≤ l.length ∧ i = .int .i64 m ∧ p = .int .i64 (1 + (cntLt (l.take m) x.place : Int)) ∧ NoTeam l k m x.team ∧ Below W1.heap.size W1 wr) (fun _ i _ => l.length - (intOf i).toNat)
          case atStart => exact ⟨0, by omega, rfl, rfl, NoTeam.zero _ _ _, Below.refl _ _⟩
          case round =>
            obtain ⟨m, hm, rfl, rfl, hnt, hb2⟩ := hrel
            have e0 := cell_kept d0 hb2
            have e1 := cell_kept d1 hb2
            have hg : g < wr.heap.size := cell_lt e0
            have hcm := cntLt_take l m x.place
            by_cases hlm : m < l.length
            · obtain ⟨b', off', y, hA, hy, c0, c1⟩ := (hr.ext (below_trans hb1 hb2)).finish hlm
              cases hA
              have hB : Below W1.heap.size W1 (wr.alloc (.cells #[.int .i64 y.team, .int .i64 y.place] 62)) := hb2.alloc hb2.size _
              go_wp2
              · go_ret
                have h1 : m < k := by assumption
                have h2 : (y.team == x.team) = true := by assumption
                exact RetB.mkF (FinOk.not_at hx.out fun h => h.2.1 m y h1 hy.out (by simpa using h2)) (below_trans hb1 hB)
              all_goals
                go_roundw
                case rel => exact ⟨m + 1, by omega, vint (by omega), by first | (rw [cntLt_yes hy.out (by assumption)]; go_num) | rw [cntLt_no hy.out (by omega)], hnt.succ hy.out (by intro hmk; first | omega | (have h : (y.team == x.team) = false := (by assumption); simpa using h)), hB⟩
                case measure => simp [intOf]; omega
            · have hml : l.take m = l := List.take_of_length_le (by omega)
              have HML := Lib.hid hml
              clear hml
              by_cases hP : x.place = 1 + (cntLt (l.take m) x.place : Int)
              · have hP' : (x.place != 1 + (cntLt (l.take m) x.place : Int)) = false := by simpa using hP
                have HP := Lib.hid hP
                clear hP
                go_wp2
                go_roundw
                case rel => exact ⟨k + 1, by omega, vint (by omega), hu.succ hx.out ⟨⟨hT1, hT2⟩, fun j y hj hy => hnt j y (by omega) hj hy, by rw [HML.out] at HP; exact HP.out⟩, below_trans hb1 hb2⟩
                case measure => simp [intOf]; omega
              · have hP' : (x.place != 1 + (cntLt (l.take m) x.place : Int)) = true := by simpa using hP
                have HP := Lib.hid hP
                clear hP
                go_wp2
                go_ret
                exact RetB.mkF (FinOk.not_at hx.out fun h => HP.out (by rw [HML.out]; exact h.2.2)) (below_trans hb1 hb2)
        · go_wp2_with (go_at_call 57; refine (isTeam_no hT _).mono ?_; rintro e w' ⟨rfl, rfl⟩)
          go_ret
          exact RetB.mkF (FinOk.not_at hx.out fun h => hT h.1) (hb.alloc hb.size _)
      · go_wp2
        go_ret
        exact RetB.mkT ⟨h12, by rwa [show k = l.length by omega] at hu⟩ hb
  · go_enter Try.func18, Try.ntmps18
    go_wp2
    go_ret
    exact RetB.mkF (fun h => h12 h.1) (Below.refl _ _)

def teamsTo (l : List FinishD) (k : Nat) : List Int := (l.take k).map FinishD.team
theorem mem_teams {l : List FinishD} {k : Nat} {t : Int} : t ∈ teamsTo l k ↔ ∃ j y, j < k ∧ l[j]? = some y ∧ y.team = t := by
  constructor
  · intro h
    obtain ⟨y, hy, rfl⟩ := List.mem_map.1 h
    obtain ⟨j, hj⟩ := List.getElem?_of_mem hy
    rw [List.getElem?_take] at hj
    split at hj
    · exact ⟨j, y, by assumption, hj, rfl⟩
    · cases hj
  · rintro ⟨j, y, hj, hy, rfl⟩
    exact List.mem_map.2 ⟨y, List.mem_of_getElem? (by rw [List.getElem?_take_of_lt hj]; exact hy), rfl⟩
theorem teams_snoc {l : List FinishD} {k : Nat} {x : FinishD} (hx : l[k]? = some x) : teamsTo l (k + 1) = teamsTo l k ++ [x.team] := by
  unfold teamsTo; rw [take_snoc hx]; simp
theorem teams_len (l : List FinishD) (k : Nat) : (teamsTo l k).length ≤ l.length := by unfold teamsTo; simp; omega

set_option maxHeartbeats 1000000 in
theorem spec_teGood (A : Option Addr) (c : Nat) (l : List FinishD) (hn : l.length ≤ 1048576) (w : World) (hr : RdS FinishD.enc 2 w A l) :
    Calls Try.prog 55 #[.slice A l.length c] w (RetB (FinOk l) w) := by
  go_enter Try.func55, Try.ntmps55
  go_wp2
  go_loopw [3, 11] (fun v i wr => ∃ k : Nat, k ≤ l.length ∧ i = .int .i64 k ∧ FinUpto l k ∧ OwnS encI 1 3 wr w.heap.size v (teamsTo l k) ∧ Below w.heap.size w wr) (fun _ i _ => l.length - (intOf i).toNat)
  case atStart => exact ⟨0, by omega, rfl, FinUpto.zero l, OwnS.nil_, Below.refl _ _⟩
  case round =>
    obtain ⟨k, hk, rfl, hu, hown, hb⟩ := hrel
    obtain ⟨M, cm, rfl, hM⟩ := hown.slice encI_len
    have hml := teams_len l k
    by_cases hlt : k < l.length
    · obtain ⟨b, off, x, rfl, hx, c0, c1⟩ := (hr.ext hb).finish hlt
      go_wp2
      have d0 : (wr.alloc (.cells #[.int .i64 x.team, .int .i64 x.place] 62)).cell? ⟨wr.heap.size, 0, none⟩ = some (.int .i64 x.team) := by simp [go_sem]
      have d1 : (wr.alloc (.cells #[.int .i64 x.team, .int .i64 x.place] 62)).cell? ⟨wr.heap.size, 1, none⟩ = some (.int .i64 x.place) := by simp [go_sem]
      have hb1 : Below w.heap.size w (wr.alloc (.cells #[.int .i64 x.team, .int .i64 x.place] 62)) := hb.alloc hb.size _
      have hown1 := hown.alloc (.cells #[.int .i64 x.team, .int .i64 x.place] 62)
      have hM1 := hM.alloc (.cells #[.int .i64 x.team, .int .i64 x.place] 62)
      generalize wr.alloc (.cells #[.int .i64 x.team, .int .i64 x.place] 62) = W1 at d0 d1 hb1 hown1 hM1 ⊢
      generalize wr.heap.size = g at d0 d1 ⊢
      clear c0 c1 hb hown hM
      go_loopw [6, 17] (fun p i wr => ∃ m : Nat, m ≤ l.length ∧ i = .int .i64 m ∧ p = .int .i64 (1 + (cntLt (l.take m) x.place : Int)) ∧ Below W1.heap.size W1 wr) (fun _ i _ => l.length - (intOf i).toNat)
      case atStart => exact ⟨0, by omega, rfl, rfl, Below.refl _ _⟩
      case round =>
        obtain ⟨m, hm, rfl, rfl, hb2⟩ := hrel
        have e0 := cell_kept d0 hb2
        have e1 := cell_kept d1 hb2
        have hg : g < wr.heap.size := cell_lt e0
        have hcm := cntLt_take l m x.place
        by_cases hlm : m < l.length
        · obtain ⟨b', off', y, hA, hy, c0, c1⟩ := (hr.ext (below_trans hb1 hb2)).finish hlm
          cases hA
          have hB : Below W1.heap.size W1 (wr.alloc (.cells #[.int .i64 y.team, .int .i64 y.place] 62)) := hb2.alloc hb2.size _
          go_wp2
          all_goals
            go_roundw
            case rel => exact ⟨m + 1, by omega, vint (by omega), by first | (rw [cntLt_yes hy.out (by assumption)]; go_num) | rw [cntLt_no hy.out (by omega)], hB⟩
            case measure => simp [intOf]; omega
        · have hml : l.take m = l := List.take_of_length_le (by omega)
          have HML := Lib.hid hml
          clear hml
          have hown2 := hown1.ext hb2
          have hM2 := hM1.ext hb2
          have hb3 := below_trans hb1 hb2
          have hs3 := hb3.size
          clear hown1 hM1 hb1 hb2 d0 d1
          by_cases hT : 1 ≤ x.team ∧ x.team ≤ 12
          · by_cases hH : x.team ∈ teamsTo l k
            · have HH := Lib.hid hH
              clear hH
              go_wp2_with (first | (go_at_call 77; refine (l1In_yes hT.1 hT.2 _).mono ?_; rintro e w' ⟨rfl, rfl⟩) | (go_at_call 84; refine (RetB.yes (l1Has_any _ _ _ _ (by omega) _ hM2) HH.out).mono ?_; rintro e w2 ⟨rfl, hb4⟩))
              go_ret
              exact RetB.mkF (FinOk.not_at hx.out fun h => by obtain ⟨j, y, hj, hy, he⟩ := mem_teams.1 HH.out; exact h.2.1 j y hj hy he) (below_trans hb3 hb4)
            · have HH := Lib.hid hH
              clear hH
              by_cases hP : x.place = 1 + (cntLt (l.take m) x.place : Int)
              · have hP' : (x.place != 1 + (cntLt (l.take m) x.place : Int)) = false := by simpa using hP
                have HP := Lib.hid hP
                clear hP
                go_wp2_with (first | (go_at_call 77; refine (l1In_yes hT.1 hT.2 _).mono ?_; rintro e w' ⟨rfl, rfl⟩) | (go_at_call 84; refine (RetB.no (l1Has_any _ _ _ _ (by omega) _ hM2) HH.out).mono ?_; rintro e w2 ⟨rfl, hb4⟩; have e2 := cell_kept e0 hb4; have e3 := cell_kept e1 hb4) | (at_builtin; go_must (refine wpList_append_ownS (xs := teamsTo l k) rfl _ _ _ rfl Try.underlying36 int_info rfl (by decide) (by decide) rfl rfl (encI_len x.team) (encI_one _) (by omega) ((hown2.ext hb4).alloc _) (Row.new _ _ _) (by have := hb4.size; simp; omega) ?_); intro v1 w3 hown3 hb5 hg5))
                have hb6 : Below w.heap.size w w3 := ((below_trans hb3 hb4).alloc (by have := hb4.size; omega) _).trans hb5
                go_roundw
                case rel => exact ⟨k + 1, by omega, vint (by omega), hu.succ hx.out ⟨hT, fun j y hj hy he => HH.out (mem_teams.2 ⟨j, y, hj, hy, he⟩), by rw [HML.out] at HP; exact HP.out⟩, by rw [teams_snoc hx.out]; exact hown3, hb6⟩
                case measure => simp [intOf]; omega
              · have hP' : (x.place != 1 + (cntLt (l.take m) x.place : Int)) = true := by simpa using hP
                have HP := Lib.hid hP
                clear hP
                go_wp2_with (first | (go_at_call 77; refine (l1In_yes hT.1 hT.2 _).mono ?_; rintro e w' ⟨rfl, rfl⟩) | (go_at_call 84; refine (RetB.no (l1Has_any _ _ _ _ (by omega) _ hM2) HH.out).mono ?_; rintro e w2 ⟨rfl, hb4⟩; have e2 := cell_kept e0 hb4; have e3 := cell_kept e1 hb4))
                go_ret
                exact RetB.mkF (FinOk.not_at hx.out fun h => HP.out (by rw [HML.out]; exact h.2.2)) (below_trans hb3 hb4)
          · go_wp2_with (go_at_call 77; refine (l1In_no hT _).mono ?_; rintro e w' ⟨rfl, rfl⟩)
            go_ret
            exact RetB.mkF (FinOk.not_at hx.out fun h => hT h.1) hb3
    · go_wp2
      go_ret
      exact RetB.mk_ (by simp; exact ⟨fun h => ⟨by omega, by rwa [show k = l.length by omega] at hu⟩, fun h => by have := h.1; omega⟩) hb

set_option maxHeartbeats 400000 in
theorem spec_AreFinishes (A : Option Addr) (c : Nat) (l : List FinishD) (hn : l.length ≤ 1048576) (w : World) (hr : RdS FinishD.enc 2 w A l) :
    Calls Try.prog 16 #[.slice A l.length c] w (RetB (FinOk l) w) := by
  go_enter Try.func16, Try.ntmps16
  go_wp2_with (go_at_call 55; refine (spec_teGood _ _ _ hn _ hr).mono ?_; rintro e w1 ⟨b, rfl, hb, hB⟩)
  go_ret
  exact RetB.mk_ hb hB
end Go.Proofs.Ytjdbiifnnaedhaa
