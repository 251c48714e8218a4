/-
  All calls that an inquiry can ask for; the best one, those that win: plain words. No program is named here.
-/
import Derived.Test.YtphakidbddamfaaGreatZOrd
import Derived.Test.YtphakidbddamfaaGreatZMo
import Derived.Test.YtphakidbddamfaaGreatZGr
import Derived.Test.YtphakidbddamfaaGreatZIs0
import Derived.Test.YtphakidbddamfaaGreatZPt
import Derived.Test.YtphakidbddamfaaGreatZM11
namespace Go.Proofs.YtphakidbddamfaaGreat
open Go.RowKit

def c1 (i k : Nat) (now : Int) : Nat → List (List Int)
  | 0 => []
  | m + 1 => if (m : Int) = now then c1 i k now m else c1 i k now m ++ [[(i : Int), (k : Int), (m : Int)]]
def c2 (i : Nat) (ms : List Int) : Nat → List (List Int)
  | 0 => []
  | k + 1 => c2 i ms k ++ c1 i k (ms.getD k 0) 4
def msAt (l : List ItemD) (i : Nat) : List Int := ((l[i]?).map ItemD.marks).getD []
def c3 (l : List ItemD) : Nat → List (List Int)
  | 0 => []
  | i + 1 => c3 l i ++ c2 i (msAt l i) (msAt l i).length
def callsW (l : List ItemD) : List (List Int) := c3 l l.length
theorem msAt_of {l : List ItemD} {i : Nat} {x : ItemD} (h : l[i]? = some x) : msAt l i = x.marks := by unfold msAt; rw [h]; rfl
theorem c1_len (i k : Nat) (now : Int) : ∀ m, (c1 i k now m).length ≤ m
  | 0 => Nat.le_refl _
  | m + 1 => by
    have := c1_len i k now m
    simp only [c1]
    split
    · omega
    · simp only [List.length_append, List.length_cons, List.length_nil]; omega
theorem c2_len (i : Nat) (ms : List Int) : ∀ k, (c2 i ms k).length ≤ 4 * k
  | 0 => Nat.le_refl _
  | k + 1 => by
    have := c2_len i ms k
    have := c1_len i k (ms.getD k 0) 4
    simp only [c2, List.length_append]; omega
theorem marks_le {l : List ItemD} (h : ItsOk l) {i : Nat} {x : ItemD} (hx : l[i]? = some x) : x.marks.length ≤ 3 := by
  obtain ⟨_, h4, h5, h6, _⟩ := h.at_ hx
  omega
theorem c3_len {l : List ItemD} (h : ItsOk l) : ∀ i, (c3 l i).length ≤ 12 * i
  | 0 => Nat.le_refl _
  | i + 1 => by
    have h1 := c3_len h i
    have h2 := c2_len i (msAt l i) (msAt l i).length
    have h3 : (msAt l i).length ≤ 3 := by
      unfold msAt
      cases hx : l[i]? with
      | none => simp
      | some x => exact marks_le h hx
    simp only [c3, List.length_append]; omega
theorem callsW_len {l : List ItemD} (h : ItsOk l) : (callsW l).length ≤ 168 := by
  have h1 := c3_len h l.length
  have h2 := h.1
  unfold callsW; omega
/-- what is among them -/
def CallAt (l : List ItemD) (x : List Int) : Prop := ∃ (i k m : Nat) (it : ItemD), x = [(i : Int), (k : Int), (m : Int)] ∧ l[i]? = some it ∧ k < it.marks.length ∧ m < 4 ∧ (m : Int) ≠ it.marks.getD k 0
theorem c1_mem {i k : Nat} {now : Int} {x : List Int} : ∀ {m : Nat}, x ∈ c1 i k now m → ∃ j < m, x = [(i : Int), (k : Int), (j : Int)] ∧ (j : Int) ≠ now
  | 0, h => by cases h
  | m + 1, h => by
    simp only [c1] at h
    split at h
    · obtain ⟨j, h1, h2⟩ := c1_mem h; exact ⟨j, by omega, h2⟩
    · rename_i hne
      rcases List.mem_append.1 h with h | h
      · obtain ⟨j, h1, h2⟩ := c1_mem h; exact ⟨j, by omega, h2⟩
      · rw [List.mem_singleton] at h; exact ⟨m, by omega, h, hne⟩
theorem c2_mem {i : Nat} {ms : List Int} {x : List Int} : ∀ {k : Nat}, x ∈ c2 i ms k → ∃ j < k, ∃ m : Nat, m < 4 ∧ x = [(i : Int), (j : Int), (m : Int)] ∧ (m : Int) ≠ ms.getD j 0
  | 0, h => by cases h
  | k + 1, h => by
    simp only [c2] at h
    rcases List.mem_append.1 h with h | h
    · obtain ⟨j, h1, h2⟩ := c2_mem h; exact ⟨j, by omega, h2⟩
    · obtain ⟨m, h1, h2⟩ := c1_mem h; exact ⟨k, by omega, m, h1, h2⟩
theorem c3_mem {l : List ItemD} {x : List Int} : ∀ {i : Nat}, x ∈ c3 l i → CallAt l x
  | 0, h => by cases h
  | i + 1, h => by
    simp only [c3] at h
    rcases List.mem_append.1 h with h | h
    · exact c3_mem h
    · obtain ⟨j, h1, m, h2, h3, h4⟩ := c2_mem h
      cases hx : l[i]? with
      | none => unfold msAt at h1; rw [hx] at h1; simp at h1
      | some it =>
        rw [msAt_of hx] at h1 h4
        exact ⟨i, j, m, it, h3, hx, h1, h2, h4⟩
theorem callsW_mem {l : List ItemD} {x : List Int} (h : x ∈ callsW l) : CallAt l x := c3_mem h
theorem CallAt.nm {l : List ItemD} (hv : ItsOk l) {x : List Int} (h : CallAt l x) : ∃ i k m : Int, x = [i, k, m] ∧ HasNm l i k ∧ 0 ≤ m ∧ m ≤ 3 := by
  obtain ⟨i, k, m, it, h1, h2, h3, h4, _⟩ := h
  have h5 := (hv.at_ h2).2.2.2.1
  exact ⟨i, k, m, h1, ⟨by omega, by omega, it, by simpa using h2, by omega⟩, by omega, by omega⟩
/-- the score with one other call -/
def scW (c : CodeD) (p : PerfD) (f : Int) (x : List Int) : Int := segW c (withI p (stepI p.items (oneI (x.getD 0 0) (x.getD 1 0) (x.getD 2 0)))) f
def bestS (c : CodeD) (p : PerfD) (f : Int) (s : Int × List Int) (x : List Int) : Int × List Int := if s.1 < scW c p f x then (scW c p f x, x) else s
def bestTo (c : CodeD) (p : PerfD) (f : Int) (l : List (List Int)) (k : Nat) : Int × List Int := (l.take k).foldl (bestS c p f) (segW c p f, [])
theorem bestTo_zero (c : CodeD) (p : PerfD) (f : Int) (l : List (List Int)) : bestTo c p f l 0 = (segW c p f, []) := rfl
theorem bestTo_succ {c : CodeD} {p : PerfD} {f : Int} {l : List (List Int)} {k : Nat} {x : List Int} (hx : l[k]? = some x) : bestTo c p f l (k + 1) = bestS c p f (bestTo c p f l k) x := by unfold bestTo; rw [take_snoc hx, List.foldl_append]; rfl
/-- what has been found is among them, and is worth what is kept -/
theorem bestTo_in (c : CodeD) (p : PerfD) (f : Int) (l : List (List Int)) (k : Nat) : (bestTo c p f l k = (segW c p f, [])) ∨ ((bestTo c p f l k).2 ∈ l ∧ (bestTo c p f l k).1 = scW c p f (bestTo c p f l k).2 ∧ segW c p f < (bestTo c p f l k).1) := by
  induction k with
  | zero => exact .inl rfl
  | succ k ih =>
    cases hx : l[k]? with
    | none =>
      have e : bestTo c p f l (k + 1) = bestTo c p f l k := by
        have h1 := List.getElem?_eq_none_iff.1 hx
        unfold bestTo; rw [List.take_of_length_le (by omega), List.take_of_length_le h1]
      rw [e]; exact ih
    | some x =>
      rw [bestTo_succ hx]
      unfold bestS
      split
      · rename_i hlt
        refine .inr ⟨List.mem_of_getElem? hx, rfl, ?_⟩
        rcases ih with h | ⟨_, _, h⟩
        · rw [h] at hlt; exact hlt
        · show segW c p f < scW c p f x
          omega
      · exact ih
def bestW (c : CodeD) (p : PerfD) (f : Int) : List Int := (bestTo c p f (callsW p.items) (callsW p.items).length).2
/-- the best inquiry, those that win -/
noncomputable def ansBestInquiry (c : CodeD) (p : PerfD) (f : Int) : Option (Int × Int × Int) := optP (AskP c p f ∧ bestW c p f ≠ []) ((bestW c p f).getD 0 0, (bestW c p f).getD 1 0, (bestW c p f).getD 2 0)
end Go.Proofs.YtphakidbddamfaaGreat

/-
  All calls that an inquiry can ask for: the program's function and the reference's, in the abstract machine.
-/
set_option linter.unusedSimpArgs false
set_option linter.unusedVariables false
set_option maxHeartbeats 2000000
set_option maxRecDepth 100000
namespace Go.Proofs.YtphakidbddamfaaGreat
open Go.RowKit

def w2 (l : List ItemD) (i : Nat) (ms : List Int) (k : Nat) : List (List Int) := c3 l i ++ c2 i ms k
def w1 (l : List ItemD) (i : Nat) (ms : List Int) (k : Nat) (now : Int) (m : Nat) : List (List Int) := w2 l i ms k ++ c1 i k now m
theorem c3_zero (l : List ItemD) : c3 l 0 = [] := rfl
theorem w2_zero (l : List ItemD) (i : Nat) (ms : List Int) : w2 l i ms 0 = c3 l i := by simp [w2, c2]
theorem w1_zero (l : List ItemD) (i : Nat) (ms : List Int) (k : Nat) (now : Int) : w1 l i ms k now 0 = w2 l i ms k := by simp [w1, c1]
theorem w1_no (l : List ItemD) (i : Nat) (ms : List Int) (k : Nat) {now : Int} {m : Nat} (h : (m : Int) = now) : w1 l i ms k now (m + 1) = w1 l i ms k now m := by simp only [w1, c1, if_pos h]
theorem w1_yes (l : List ItemD) (i : Nat) (ms : List Int) (k : Nat) {now : Int} {m : Nat} (h : ¬ (m : Int) = now) : w1 l i ms k now (m + 1) = w1 l i ms k now m ++ [[(i : Int), (k : Int), (m : Int)]] := by simp only [w1, c1, if_neg h, List.append_assoc]
theorem w1_four (l : List ItemD) (i : Nat) (ms : List Int) (k : Nat) : w1 l i ms k (ms.getD k 0) 4 = w2 l i ms (k + 1) := by simp only [w1, w2, c2, List.append_assoc]
theorem w2_end {l : List ItemD} {i : Nat} {it : ItemD} (h : l[i]? = some it) : w2 l i it.marks it.marks.length = c3 l (i + 1) := by simp only [w2, c3, msAt_of h]
theorem w1_len (l : List ItemD) (i : Nat) (ms : List Int) (k : Nat) (now : Int) (m : Nat) : (w1 l i ms k now m).length = (c3 l i).length + (c2 i ms k).length + (c1 i k now m).length := by simp only [w1, w2, List.length_append]
theorem otherCalls_ok (l : List ItemD) (hv : ItsOk l) : FnEq Tryz.prog 85 [.d (.lst 3 (l.map ItemD.dat))] [.deep 23 1 ((callsW l).map (datL 1 datI))] := by
  have hl14 := hv.1
  refine fn_ok G_ok Tryz.func85 rfl rfl ?_; simp only [Tryz.ntmps85, List.length_cons, List.length_nil, Nat.reduceAdd, Nat.reduceSub, enm]
  repeat' (first | with_reducible refine stop_seq (id := 2) ?_ | with_reducible refine stop_one (id := 2) ?_ | ((with_reducible first | (refine hK _ ?_; clear hK K) | refine stq fun K' hK' => ?_ | refine stc ?_); try simp only [go_sem]) | (with_reducible first | refine stp ?_ | (refine hK' _ ?_; clear hK' K') | refine kN kl85 fun K hK => ?_ | refine kO fun K hK => ?_) | refine iB ?_ | (with_reducible refine pK_mk ?_ ?_ <;> (intro hc; (try simp only [go_sem]); (try simp at hc); try (exfalso; omega))) | with_reducible refine And.intro (by first | omega | (unfold inI; omega)) ?_)
  unfold Stop
  refine pw_deepen 1 rfl (fun _ h => by cases h) ?_
  simp only [go_sem]
  repeat' (first | ((with_reducible first | (refine hK _ ?_; clear hK K) | refine stq fun K' hK' => ?_ | refine stc ?_); try simp only [go_sem]) | (with_reducible first | refine stp ?_ | (refine hK' _ ?_; clear hK' K') | refine kN kl85 fun K hK => ?_ | refine kO fun K hK => ?_) | refine iB ?_ | (with_reducible refine pK_mk ?_ ?_ <;> (intro hc; (try simp only [go_sem]); (try simp at hc); try (exfalso; omega))) | with_reducible refine And.intro (by first | omega | (unfold inI; omega)) ?_)
  refine pw_loop_over [2, 3, 4, 5, 6, 7, 8, 12, 13, 14, 15, 16, 17, 18, 19, 20, 21, 22, 23, 24, 25, 26, 27, 28, 29, 30, 31, 32, 33, 34, 35, 36, 37, 38, 39, 40] (fun i : Nat => [(12, .d (.int .i64 (i : Int))), (3, .row 0 (c3 l i).length), (5, .und)]) (fun i => [(0, .deep 0 23 1 ((c3 l i).map (datL 1 datI)))]) 1 (fun i => i ≤ l.length) (fun i => l.length - i) 0 (Nat.zero_le _) (fits_mk [] (by simp [renL_d, bdL_d, sg, over, wipe, wl, memN, ins, rm, lk, fitFr, fit1, ren, renL, bd, bdL, app, fitHp, hget, renB, bdB, c3_zero] <;> omega)) ?_
  intro i hi; simp only [over, wipe, wl, memN, ins, rm, if_true, if_false, Nat.reduceEqDiff, Bool.false_eq_true, reduceCtorEq]
  by_cases hlt : i < l.length
  · have hx := List.getElem?_eq_getElem hlt
    generalize l[i] = it at hx
    have hml := marks_le hv hx
    have h3 := c3_len hv i
    repeat' (first | ((with_reducible first | (refine hK _ ?_; clear hK K) | refine stq fun K' hK' => ?_ | refine stc ?_); try simp only [go_sem, List.getElem?_map, hx, Option.map_some, ItemD.dat, hlt]) | (with_reducible first | refine stp ?_ | (refine hK' _ ?_; clear hK' K') | refine kN kl85 fun K hK => ?_ | refine kO fun K hK => ?_) | refine iB ?_ | (with_reducible refine pK_mk ?_ ?_ <;> (intro hc; (try simp only [go_sem, List.getElem?_map, hx, Option.map_some, ItemD.dat, hlt]); (try simp at hc); try (exfalso; omega))) | with_reducible refine And.intro (by first | omega | (unfold inI; omega)) ?_)
    refine pw_loop_over [2, 3, 6, 7, 8, 20, 21, 22, 23, 24, 25, 26, 27, 28, 29, 30, 31, 32, 33, 34, 35, 36, 37, 38, 39] (fun k : Nat => [(20, .d (.int .i64 (k : Int))), (3, .row 0 (w2 l i it.marks k).length), (5, .und)]) (fun k => [(0, .deep 0 23 1 ((w2 l i it.marks k).map (datL 1 datI)))]) 1 (fun k => k ≤ it.marks.length) (fun k => it.marks.length - k) 0 (Nat.zero_le _) (fits_mk [] (by simp [renL_d, bdL_d, sg, over, wipe, wl, memN, ins, rm, lk, fitFr, fit1, ren, renL, bd, bdL, app, fitHp, hget, renB, bdB, w2_zero] <;> omega)) ?_
    intro k hk; simp only [over, wipe, wl, memN, ins, rm, if_true, if_false, Nat.reduceEqDiff, Bool.false_eq_true, reduceCtorEq]
    have h2 := c2_len i it.marks k
    by_cases hlk : k < it.marks.length
    · have hy := List.getElem?_eq_getElem hlk
      have hgd : it.marks.getD k 0 = it.marks[k] := by rw [List.getD_eq_getElem?_getD, hy]; rfl
      generalize it.marks[k] = now at hy hgd
      repeat' (first | ((with_reducible first | (refine hK _ ?_; clear hK K) | refine stq fun K' hK' => ?_ | refine stc ?_); try simp only [go_sem, List.getElem?_map, hy, Option.map_some, datI, hlk]) | (with_reducible first | refine stp ?_ | (refine hK' _ ?_; clear hK' K') | refine kN kl85 fun K hK => ?_ | refine kO fun K hK => ?_) | refine iB ?_ | (with_reducible refine pK_mk ?_ ?_ <;> (intro hc; (try simp only [go_sem, List.getElem?_map, hy, Option.map_some, datI, hlk]); (try simp at hc); try (exfalso; omega))) | with_reducible refine And.intro (by first | omega | (unfold inI; omega)) ?_)
      refine pw_loop_over [2, 3, 8, 25, 26, 27, 28, 29, 30, 31, 32, 33, 34, 35, 36, 37, 38] (fun m : Nat => [(8, .d (.int .i64 (m : Int))), (3, .row 0 (w1 l i it.marks k now m).length)]) (fun m => [(0, .deep 0 23 1 ((w1 l i it.marks k now m).map (datL 1 datI)))]) 1 (fun m => m ≤ 4) (fun m => 4 - m) 0 (Nat.zero_le _) (fits_mk [] (by simp [renL_d, bdL_d, sg, over, wipe, wl, memN, ins, rm, lk, fitFr, fit1, ren, renL, bd, bdL, app, fitHp, hget, renB, bdB, w1_zero] <;> omega)) ?_
      intro m hm; simp only [over, wipe, wl, memN, ins, rm, if_true, if_false, Nat.reduceEqDiff, Bool.false_eq_true, reduceCtorEq]
      have h1 := c1_len i k now m
      have hw := w1_len l i it.marks k now m
      by_cases hlm : m < 4
      · have hlm' : (m : Int) ≤ 3 := by omega
        by_cases he : (m : Int) = now
        · have hno := w1_no l i it.marks k he
          repeat' (first | ((with_reducible first | (refine hK _ ?_; clear hK K) | refine stq fun K' hK' => ?_ | refine stc ?_); try simp only [go_sem, hlm', he]) | (with_reducible first | refine stp ?_ | (refine hK' _ ?_; clear hK' K') | refine kN kl85 fun K hK => ?_ | refine kO fun K hK => ?_) | refine iB ?_ | (with_reducible refine pK_mk ?_ ?_ <;> (intro hc; (try simp only [go_sem, hlm', he]); (try simp at hc); try (exfalso; omega))) | with_reducible refine And.intro (by first | omega | (unfold inI; omega)) ?_)
          all_goals first
            | (exfalso; omega)
            | exact ⟨m + 1, by omega, by omega, (fits_mk [] (by simp [renL_d, bdL_d, sg, over, wipe, wl, memN, ins, rm, lk, fitFr, fit1, ren, renL, bd, bdL, app, fitHp, hget, renB, bdB, hno] <;> omega))⟩
        · have hyes := w1_yes l i it.marks k he
          repeat' (first | ((with_reducible first | (refine hK _ ?_; clear hK K) | refine stq fun K' hK' => ?_ | refine stc ?_); try simp only [go_sem, hlm', he]) | (with_reducible first | refine stp ?_ | (refine hK' _ ?_; clear hK' K') | refine kN kl85 fun K hK => ?_ | refine kO fun K hK => ?_) | refine iB ?_ | (with_reducible refine pK_mk ?_ ?_ <;> (intro hc; (try simp only [go_sem, hlm', he]); (try simp at hc); try (exfalso; omega))) | with_reducible refine And.intro (by first | omega | (unfold inI; omega)) ?_)
          all_goals first
            | (exfalso; omega)
            | skip
          refine po_buildSlice_deep (cs := [.row 1 3]) (ds := datL 1 datI [(i : Int), (k : Int), (m : Int)]) rfl (G_ok _ _ G27) (by decide) rfl (by simp [ownL, ownC, hget, D.scB, datL, datI]) (by simp [rowIds]) (by simp only [flatL, flatC, hget, if_true, if_false, Nat.reduceEqDiff]; exact ⟨flatE_datI [(i : Int), (k : Int), (m : Int)], trivial⟩) ?_
          repeat' (first | ((with_reducible first | (refine hK _ ?_; clear hK K) | refine stq fun K' hK' => ?_ | refine stc ?_); try simp only [go_sem, datL]) | (with_reducible first | refine stp ?_ | (refine hK' _ ?_; clear hK' K') | refine kN kl85 fun K hK => ?_ | refine kO fun K hK => ?_) | refine iB ?_ | (with_reducible refine pK_mk ?_ ?_ <;> (intro hc; (try simp only [go_sem, datL]); (try simp at hc); try (exfalso; omega))) | with_reducible refine And.intro (by first | omega | (unfold inI; omega)) ?_)
          refine po_append_deep (es := (w1 l i it.marks k now m).map (datL 1 datI)) (fs := [datL 1 datI [(i : Int), (k : Int), (m : Int)]]) (n := (w1 l i it.marks k now m).length) (n2 := 1) rfl (G_ok _ _ G27) rfl rfl rfl rfl (by decide) (by simp) rfl (by exact True.intro) (by exact True.intro) (by simp <;> omega) ?_
          repeat' (first | ((with_reducible first | (refine hK _ ?_; clear hK K) | refine stq fun K' hK' => ?_ | refine stc ?_); try simp only [go_sem, datL]) | (with_reducible first | refine stp ?_ | (refine hK' _ ?_; clear hK' K') | refine kN kl85 fun K hK => ?_ | refine kO fun K hK => ?_) | refine iB ?_ | (with_reducible refine pK_mk ?_ ?_ <;> (intro hc; (try simp only [go_sem, datL]); (try simp at hc); try (exfalso; omega))) | with_reducible refine And.intro (by first | omega | (unfold inI; omega)) ?_)
          exact ⟨m + 1, by omega, by omega, (fits_mk [] (by simp [renL_d, bdL_d, sg, over, wipe, wl, memN, ins, rm, lk, fitFr, fit1, ren, renL, bd, bdL, app, fitHp, hget, renB, bdB, hyes, datL] <;> omega))⟩
      · obtain rfl : m = 4 := by omega
        rw [← hgd, w1_four]
        repeat' (first | ((with_reducible first | (refine hK _ ?_; clear hK K) | refine stq fun K' hK' => ?_ | refine stc ?_); try simp only [go_sem]) | (with_reducible first | refine stp ?_ | (refine hK' _ ?_; clear hK' K') | refine kN kl85 fun K hK => ?_ | refine kO fun K hK => ?_) | refine iB ?_ | (with_reducible refine pK_mk ?_ ?_ <;> (intro hc; (try simp only [go_sem]); (try simp at hc); try (exfalso; omega))) | with_reducible refine And.intro (by first | omega | (unfold inI; omega)) ?_)
        all_goals first
          | (exfalso; omega)
          | exact ⟨k + 1, by omega, by omega, (fits_mk [] (by simp [renL_d, bdL_d, sg, over, wipe, wl, memN, ins, rm, lk, fitFr, fit1, ren, renL, bd, bdL, app, fitHp, hget, renB, bdB] <;> omega))⟩
    · obtain rfl : k = it.marks.length := by omega
      rw [w2_end hx]
      repeat' (first | ((with_reducible first | (refine hK _ ?_; clear hK K) | refine stq fun K' hK' => ?_ | refine stc ?_); try simp only [go_sem]) | (with_reducible first | refine stp ?_ | (refine hK' _ ?_; clear hK' K') | refine kN kl85 fun K hK => ?_ | refine kO fun K hK => ?_) | refine iB ?_ | (with_reducible refine pK_mk ?_ ?_ <;> (intro hc; (try simp only [go_sem]); (try simp at hc); try (exfalso; omega))) | with_reducible refine And.intro (by first | omega | (unfold inI; omega)) ?_)
      exact ⟨i + 1, by omega, by omega, (fits_mk [] (by simp [renL_d, bdL_d, sg, over, wipe, wl, memN, ins, rm, lk, fitFr, fit1, ren, renL, bd, bdL, app, fitHp, hget, renB, bdB] <;> omega))⟩
  · obtain rfl : i = l.length := by omega
    repeat' (first | ((with_reducible first | (refine hK _ ?_; clear hK K) | refine stq fun K' hK' => ?_ | refine stc ?_); try simp only [go_sem]) | (with_reducible first | refine stp ?_ | (refine hK' _ ?_; clear hK' K') | refine kN kl85 fun K hK => ?_ | refine kO fun K hK => ?_) | refine iB ?_ | (with_reducible refine pK_mk ?_ ?_ <;> (intro hc; (try simp only [go_sem]); (try simp at hc); try (exfalso; omega))) | with_reducible refine And.intro (by first | omega | (unfold inI; omega)) ?_)
    refine retQ_ret rfl (by simp only [retL, ret1, hget, lk, List.length_map, List.length_nil, List.length_append, List.length_take, if_true, if_false, Nat.reduceEqDiff, Nat.reduceBEq, Bool.false_eq_true, Option.some.injEq]; rfl) (by simp [rowsOf, lk]) ?_; rfl
theorem iqAll_ok (l : List ItemD) (hv : ItsOk l) : FnEq Tryz.prog 84 [.d (.lst 3 (l.map ItemD.dat))] [.deep 23 1 ((callsW l).map (datL 1 datI))] := by
  have hl14 := hv.1
  refine fn_ok G_ok Tryz.func84 rfl rfl ?_; simp only [Tryz.ntmps84, List.length_cons, List.length_nil, Nat.reduceAdd, Nat.reduceSub, enm]
  repeat' (first | with_reducible refine stop_seq (id := 2) ?_ | with_reducible refine stop_one (id := 2) ?_ | ((with_reducible first | (refine hK _ ?_; clear hK K) | refine stq fun K' hK' => ?_ | refine stc ?_); try simp only [go_sem]) | (with_reducible first | refine stp ?_ | (refine hK' _ ?_; clear hK' K') | refine kN kl84 fun K hK => ?_ | refine kO fun K hK => ?_) | refine iB ?_ | (with_reducible refine pK_mk ?_ ?_ <;> (intro hc; (try simp only [go_sem]); (try simp at hc); try (exfalso; omega))) | with_reducible refine And.intro (by first | omega | (unfold inI; omega)) ?_)
  unfold Stop
  refine pw_deepen 1 rfl (fun _ h => by cases h) ?_
  simp only [go_sem]
  repeat' (first | ((with_reducible first | (refine hK _ ?_; clear hK K) | refine stq fun K' hK' => ?_ | refine stc ?_); try simp only [go_sem]) | (with_reducible first | refine stp ?_ | (refine hK' _ ?_; clear hK' K') | refine kN kl84 fun K hK => ?_ | refine kO fun K hK => ?_) | refine iB ?_ | (with_reducible refine pK_mk ?_ ?_ <;> (intro hc; (try simp only [go_sem]); (try simp at hc); try (exfalso; omega))) | with_reducible refine And.intro (by first | omega | (unfold inI; omega)) ?_)
  refine pw_loop_over [2, 3, 4, 5, 6, 7, 8, 11, 12, 13, 14, 15, 16, 17, 18, 19, 20, 21, 22, 23, 24, 25, 26, 27, 28, 29, 30, 31, 32, 33, 34, 35, 36, 37, 38, 39] (fun i : Nat => [(11, .d (.int .i64 (i : Int))), (3, .row 0 (c3 l i).length), (5, .und)]) (fun i => [(0, .deep 0 23 1 ((c3 l i).map (datL 1 datI)))]) 1 (fun i => i ≤ l.length) (fun i => l.length - i) 0 (Nat.zero_le _) (fits_mk [] (by simp [renL_d, bdL_d, sg, over, wipe, wl, memN, ins, rm, lk, fitFr, fit1, ren, renL, bd, bdL, app, fitHp, hget, renB, bdB, c3_zero] <;> omega)) ?_
  intro i hi; simp only [over, wipe, wl, memN, ins, rm, if_true, if_false, Nat.reduceEqDiff, Bool.false_eq_true, reduceCtorEq]
  by_cases hlt : i < l.length
  · have hx := List.getElem?_eq_getElem hlt
    generalize l[i] = it at hx
    have hml := marks_le hv hx
    have h3 := c3_len hv i
    repeat' (first | ((with_reducible first | (refine hK _ ?_; clear hK K) | refine stq fun K' hK' => ?_ | refine stc ?_); try simp only [go_sem, List.getElem?_map, hx, Option.map_some, ItemD.dat, hlt]) | (with_reducible first | refine stp ?_ | (refine hK' _ ?_; clear hK' K') | refine kN kl84 fun K hK => ?_ | refine kO fun K hK => ?_) | refine iB ?_ | (with_reducible refine pK_mk ?_ ?_ <;> (intro hc; (try simp only [go_sem, List.getElem?_map, hx, Option.map_some, ItemD.dat, hlt]); (try simp at hc); try (exfalso; omega))) | with_reducible refine And.intro (by first | omega | (unfold inI; omega)) ?_)
    refine pw_loop_over [2, 3, 6, 7, 8, 19, 20, 21, 22, 23, 24, 25, 26, 27, 28, 29, 30, 31, 32, 33, 34, 35, 36, 37, 38] (fun k : Nat => [(19, .d (.int .i64 (k : Int))), (3, .row 0 (w2 l i it.marks k).length), (5, .und)]) (fun k => [(0, .deep 0 23 1 ((w2 l i it.marks k).map (datL 1 datI)))]) 1 (fun k => k ≤ it.marks.length) (fun k => it.marks.length - k) 0 (Nat.zero_le _) (fits_mk [] (by simp [renL_d, bdL_d, sg, over, wipe, wl, memN, ins, rm, lk, fitFr, fit1, ren, renL, bd, bdL, app, fitHp, hget, renB, bdB, w2_zero] <;> omega)) ?_
    intro k hk; simp only [over, wipe, wl, memN, ins, rm, if_true, if_false, Nat.reduceEqDiff, Bool.false_eq_true, reduceCtorEq]
    have h2 := c2_len i it.marks k
    by_cases hlk : k < it.marks.length
    · have hy := List.getElem?_eq_getElem hlk
      have hgd : it.marks.getD k 0 = it.marks[k] := by rw [List.getD_eq_getElem?_getD, hy]; rfl
      generalize it.marks[k] = now at hy hgd
      repeat' (first | ((with_reducible first | (refine hK _ ?_; clear hK K) | refine stq fun K' hK' => ?_ | refine stc ?_); try simp only [go_sem, List.getElem?_map, hy, Option.map_some, datI, hlk]) | (with_reducible first | refine stp ?_ | (refine hK' _ ?_; clear hK' K') | refine kN kl84 fun K hK => ?_ | refine kO fun K hK => ?_) | refine iB ?_ | (with_reducible refine pK_mk ?_ ?_ <;> (intro hc; (try simp only [go_sem, List.getElem?_map, hy, Option.map_some, datI, hlk]); (try simp at hc); try (exfalso; omega))) | with_reducible refine And.intro (by first | omega | (unfold inI; omega)) ?_)
      refine pw_loop_over [2, 3, 8, 24, 25, 26, 27, 28, 29, 30, 31, 32, 33, 34, 35, 36, 37] (fun m : Nat => [(8, .d (.int .i64 (m : Int))), (3, .row 0 (w1 l i it.marks k now m).length)]) (fun m => [(0, .deep 0 23 1 ((w1 l i it.marks k now m).map (datL 1 datI)))]) 1 (fun m => m ≤ 4) (fun m => 4 - m) 0 (Nat.zero_le _) (fits_mk [] (by simp [renL_d, bdL_d, sg, over, wipe, wl, memN, ins, rm, lk, fitFr, fit1, ren, renL, bd, bdL, app, fitHp, hget, renB, bdB, w1_zero] <;> omega)) ?_
      intro m hm; simp only [over, wipe, wl, memN, ins, rm, if_true, if_false, Nat.reduceEqDiff, Bool.false_eq_true, reduceCtorEq]
      have h1 := c1_len i k now m
      have hw := w1_len l i it.marks k now m
      by_cases hlm : m < 4
      · have hlm' : (m : Int) ≤ 3 := by omega
        by_cases he : (m : Int) = now
        · have hno := w1_no l i it.marks k he
          repeat' (first | ((with_reducible first | (refine hK _ ?_; clear hK K) | refine stq fun K' hK' => ?_ | refine stc ?_); try simp only [go_sem, hlm', he]) | (with_reducible first | refine stp ?_ | (refine hK' _ ?_; clear hK' K') | refine kN kl84 fun K hK => ?_ | refine kO fun K hK => ?_) | refine iB ?_ | (with_reducible refine pK_mk ?_ ?_ <;> (intro hc; (try simp only [go_sem, hlm', he]); (try simp at hc); try (exfalso; omega))) | with_reducible refine And.intro (by first | omega | (unfold inI; omega)) ?_)
          all_goals first
            | (exfalso; omega)
            | exact ⟨m + 1, by omega, by omega, (fits_mk [] (by simp [renL_d, bdL_d, sg, over, wipe, wl, memN, ins, rm, lk, fitFr, fit1, ren, renL, bd, bdL, app, fitHp, hget, renB, bdB, hno] <;> omega))⟩
        · have hyes := w1_yes l i it.marks k he
          repeat' (first | ((with_reducible first | (refine hK _ ?_; clear hK K) | refine stq fun K' hK' => ?_ | refine stc ?_); try simp only [go_sem, hlm', he]) | (with_reducible first | refine stp ?_ | (refine hK' _ ?_; clear hK' K') | refine kN kl84 fun K hK => ?_ | refine kO fun K hK => ?_) | refine iB ?_ | (with_reducible refine pK_mk ?_ ?_ <;> (intro hc; (try simp only [go_sem, hlm', he]); (try simp at hc); try (exfalso; omega))) | with_reducible refine And.intro (by first | omega | (unfold inI; omega)) ?_)
          all_goals first
            | (exfalso; omega)
            | skip
          refine po_buildSlice_deep (cs := [.row 1 3]) (ds := datL 1 datI [(i : Int), (k : Int), (m : Int)]) rfl (G_ok _ _ G27) (by decide) rfl (by simp [ownL, ownC, hget, D.scB, datL, datI]) (by simp [rowIds]) (by simp only [flatL, flatC, hget, if_true, if_false, Nat.reduceEqDiff]; exact ⟨flatE_datI [(i : Int), (k : Int), (m : Int)], trivial⟩) ?_
          repeat' (first | ((with_reducible first | (refine hK _ ?_; clear hK K) | refine stq fun K' hK' => ?_ | refine stc ?_); try simp only [go_sem, datL]) | (with_reducible first | refine stp ?_ | (refine hK' _ ?_; clear hK' K') | refine kN kl84 fun K hK => ?_ | refine kO fun K hK => ?_) | refine iB ?_ | (with_reducible refine pK_mk ?_ ?_ <;> (intro hc; (try simp only [go_sem, datL]); (try simp at hc); try (exfalso; omega))) | with_reducible refine And.intro (by first | omega | (unfold inI; omega)) ?_)
          refine po_append_deep (es := (w1 l i it.marks k now m).map (datL 1 datI)) (fs := [datL 1 datI [(i : Int), (k : Int), (m : Int)]]) (n := (w1 l i it.marks k now m).length) (n2 := 1) rfl (G_ok _ _ G27) rfl rfl rfl rfl (by decide) (by simp) rfl (by exact True.intro) (by exact True.intro) (by simp <;> omega) ?_
          repeat' (first | ((with_reducible first | (refine hK _ ?_; clear hK K) | refine stq fun K' hK' => ?_ | refine stc ?_); try simp only [go_sem, datL]) | (with_reducible first | refine stp ?_ | (refine hK' _ ?_; clear hK' K') | refine kN kl84 fun K hK => ?_ | refine kO fun K hK => ?_) | refine iB ?_ | (with_reducible refine pK_mk ?_ ?_ <;> (intro hc; (try simp only [go_sem, datL]); (try simp at hc); try (exfalso; omega))) | with_reducible refine And.intro (by first | omega | (unfold inI; omega)) ?_)
          exact ⟨m + 1, by omega, by omega, (fits_mk [] (by simp [renL_d, bdL_d, sg, over, wipe, wl, memN, ins, rm, lk, fitFr, fit1, ren, renL, bd, bdL, app, fitHp, hget, renB, bdB, hyes, datL] <;> omega))⟩
      · obtain rfl : m = 4 := by omega
        rw [← hgd, w1_four]
        repeat' (first | ((with_reducible first | (refine hK _ ?_; clear hK K) | refine stq fun K' hK' => ?_ | refine stc ?_); try simp only [go_sem]) | (with_reducible first | refine stp ?_ | (refine hK' _ ?_; clear hK' K') | refine kN kl84 fun K hK => ?_ | refine kO fun K hK => ?_) | refine iB ?_ | (with_reducible refine pK_mk ?_ ?_ <;> (intro hc; (try simp only [go_sem]); (try simp at hc); try (exfalso; omega))) | with_reducible refine And.intro (by first | omega | (unfold inI; omega)) ?_)
        all_goals first
          | (exfalso; omega)
          | exact ⟨k + 1, by omega, by omega, (fits_mk [] (by simp [renL_d, bdL_d, sg, over, wipe, wl, memN, ins, rm, lk, fitFr, fit1, ren, renL, bd, bdL, app, fitHp, hget, renB, bdB] <;> omega))⟩
    · obtain rfl : k = it.marks.length := by omega
      rw [w2_end hx]
      repeat' (first | ((with_reducible first | (refine hK _ ?_; clear hK K) | refine stq fun K' hK' => ?_ | refine stc ?_); try simp only [go_sem]) | (with_reducible first | refine stp ?_ | (refine hK' _ ?_; clear hK' K') | refine kN kl84 fun K hK => ?_ | refine kO fun K hK => ?_) | refine iB ?_ | (with_reducible refine pK_mk ?_ ?_ <;> (intro hc; (try simp only [go_sem]); (try simp at hc); try (exfalso; omega))) | with_reducible refine And.intro (by first | omega | (unfold inI; omega)) ?_)
      exact ⟨i + 1, by omega, by omega, (fits_mk [] (by simp [renL_d, bdL_d, sg, over, wipe, wl, memN, ins, rm, lk, fitFr, fit1, ren, renL, bd, bdL, app, fitHp, hget, renB, bdB] <;> omega))⟩
  · obtain rfl : i = l.length := by omega
    repeat' (first | ((with_reducible first | (refine hK _ ?_; clear hK K) | refine stq fun K' hK' => ?_ | refine stc ?_); try simp only [go_sem]) | (with_reducible first | refine stp ?_ | (refine hK' _ ?_; clear hK' K') | refine kN kl84 fun K hK => ?_ | refine kO fun K hK => ?_) | refine iB ?_ | (with_reducible refine pK_mk ?_ ?_ <;> (intro hc; (try simp only [go_sem]); (try simp at hc); try (exfalso; omega))) | with_reducible refine And.intro (by first | omega | (unfold inI; omega)) ?_)
    refine retQ_ret rfl (by simp only [retL, ret1, hget, lk, List.length_map, List.length_nil, List.length_append, List.length_take, if_true, if_false, Nat.reduceEqDiff, Nat.reduceBEq, Bool.false_eq_true, Option.some.injEq]; rfl) (by simp [rowsOf, lk]) ?_; rfl
end Go.Proofs.YtphakidbddamfaaGreat

/-
  The abstract machine: an own row becomes plain data. No program is named here.
-/
namespace Go.Proofs.YtphakidbddamfaaGreat
open Go.RowKit

theorem lk_upl : ∀ {l : List (Nat × PV)} {t : Nat} {x : PV} (i : Nat), lk l t ≠ .und → lk (upl l t x) i = if i = t then x else lk l i
  | [], t, x, i, h => (h rfl).elim
  | (k, y) :: r, t, x, i, h => by
    simp only [upl]
    by_cases e : t = k
    · subst e
      simp only [if_true, lk]
      split <;> rfl
    · have h' : lk r t ≠ .und := by simpa only [lk, if_neg e] using h
      simp only [if_neg e, lk]
      by_cases e2 : i = k
      · subst e2
        rw [if_pos rfl, if_neg (Ne.symm e)]
        simp
      · rw [if_neg e2, if_neg e2, lk_upl i h']
/-- an own row that nobody changes any more is plain data -/
theorem pw_freeze {P : Program} {Q : Exit → AS → Prop} {c : Code} {s : AS} (t : Nat) {id n : Nat} {ty : TypeId} {sz : Nat} {es : List (List D)} (ht : lk s.fr.l t = .row id n) (hg : hget s.hp id = some (.row ty sz es)) (hn : es.length = n) (h : PW P c Q ⟨⟨s.fr.n, upl s.fr.l t (.d (.lst sz es))⟩, hdel s.hp id, s.nx⟩) : PW P c Q s := by
  intro X0 w0 m a w hs
  have hk := hs.kill (hdel s.hp id) (fun id' blk hb => by rw [hget_hdel] at hb; split at hb; cases hb; exact hb) (fun id' par k j ha => by
    rw [hget_hdel] at ha ⊢
    split at ha
    · cases ha
    · obtain ⟨q, ty', sz', es2, _, _, _, _, _, _, a1, _⟩ := hs.al id' par k j ha
      rw [if_neg fun e => by subst e; rw [hg] at a1; cases a1])
  have hst : Stay w w (Owned X0 m s.hp) (Owned X0 m (hdel s.hp id)) := by
    intro b _ hb2
    refine ⟨rfl, ?_⟩
    rintro (hx | ⟨id', blk, h1, h2⟩)
    · exact hb2 (.inl hx)
    · rw [hget_hdel] at h1
      split at h1
      · cases h1
      · exact hb2 (.inr ⟨id', blk, h1, h2⟩)
  have hR := hs.fr t
  rw [ht] at hR
  have hnew : R m.loc (Owned X0 m (hdel s.hp id)) w (.d (.lst sz es)) (a.tmps.getD t undef) := by
    obtain ⟨l, hl, hok⟩ := hs.hp id _ hg
    rcases hR.row_inv with ⟨h1, h2, h3⟩ | ⟨b, cc, h1, h2, h3⟩
    · rw [h3]
      have e : es = [] := List.length_eq_zero_iff.1 (hn.trans h2)
      subst e
      exact .d _ _ (.nil _ _ _)
    · rw [h1] at hl
      cases hl
      obtain ⟨arr, hh, hc⟩ := hok
      rw [h3, ← hn]
      have hnb : ¬ Owned X0 m (hdel s.hp id) b := by
        have how := hs.own id _ b hg ⟨cc, h1⟩
        rintro (hx | ⟨id', blk, g1, g2⟩)
        · obtain ⟨g3, g4⟩ := hs.x0 b hx
          rcases how.1 with g5 | g5
          · omega
          · exact g4 g5
        · rw [hget_hdel] at g1
          split at g1
          · cases g1
          · rename_i hne
            exact hne (hs.inj id' id blk _ b g1 hg g2 ⟨cc, h1⟩)
      refine .d _ _ (.lst sz es b 0 cc hc.2.1 hc.2.2.2.1 (fun k e j d he hd => ?_) (fun k e j d u he hd hu => ?_))
      · obtain ⟨u, p1, _, _⟩ := row_cell hc hh he hd
        exact ⟨hnb, u, by rw [Nat.zero_add]; exact p1⟩
      · obtain ⟨u', p1, _, p3⟩ := row_cell hc hh he hd
        rw [Nat.zero_add, p1] at hu
        cases hu
        exact p3.mono hst
  refine h X0 w0 m a w ⟨hk.below, hk.x0, hk.size, fun i => ?_, hk.df, hk.hp, hk.dp, hk.al, hk.pin, hk.inj, hk.own, hk.nx⟩
  show R m.loc (Owned X0 m (hdel s.hp id)) w (lk (upl s.fr.l t (.d (.lst sz es))) i) _
  rw [lk_upl i (by rw [ht]; intro h; cases h)]
  split
  · rename_i e; subst e; exact hnew
  · exact hk.fr i
end Go.Proofs.YtphakidbddamfaaGreat
