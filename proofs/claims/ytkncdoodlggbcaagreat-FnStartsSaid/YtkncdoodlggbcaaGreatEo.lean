/-
  Entrants: when they are valid; who is behind; the program's functions and the reference's, in the abstract machine.
-/
import Derived.Test.YtkncdoodlggbcaaGreatEn
import Derived.Test.YtkncdoodlggbcaaGreatOrd
import Derived.Test.YtkncdoodlggbcaaGreatIo
set_option linter.unusedSimpArgs false
set_option linter.unusedVariables false
set_option maxHeartbeats 2000000
set_option maxRecDepth 100000
namespace Go.Proofs.YtkncdoodlggbcaaGreat
open Go.RowKit

def EntAt (l : List EntrantD) (k : Nat) (x : EntrantD) : Prop := (1 ≤ x.skater ∧ x.skater ≤ 999 ∧ 0 ≤ x.rank ∧ x.rank ≤ 999) ∧ ∀ y ∈ l.take k, y.skater ≠ x.skater ∧ ¬ (y.rank = x.rank ∧ 0 < x.rank)
def EntsOk (l : List EntrantD) : Prop := l.length ≤ 40 ∧ All (EntAt l) l
theorem EntsOk.not_at {l : List EntrantD} {k : Nat} {x : EntrantD} (hx : l[k]? = some x) (hf : ¬ EntAt l k x) : ¬ EntsOk l := fun h => hf (h.2 k x hx)
theorem ents_end {l : List EntrantD} {k : Nat} (h1 : Upto (EntAt l) l k) (hk : l.length ≤ k) : bP (EntsOk l) = decide ((l.length : Int) ≤ 40) := by
  by_cases h : l.length ≤ 40
  · rw [bP_true ⟨h, h1.all hk⟩]; exact (decide_eq_true (by omega)).symm
  · rw [bP_false fun h' => h h'.1]; exact (decide_eq_false (by omega)).symm
theorem EntsOk.rng {l : List EntrantD} (h : EntsOk l) {x : EntrantD} (hx : x ∈ l) : 1 ≤ x.skater ∧ x.skater ≤ 999 ∧ 0 ≤ x.rank ∧ x.rank ≤ 999 := by
  obtain ⟨k, hk⟩ := List.getElem?_of_mem hx
  exact (h.2 k x hk).1
theorem EntsOk.apart {l : List EntrantD} (h : EntsOk l) {i k : Nat} {x z : EntrantD} (hx : l[i]? = some x) (hz : l[k]? = some z) (hik : i ≠ k) : x.skater ≠ z.skater ∧ ¬ (x.rank = z.rank ∧ 0 < x.rank) := by
  have key : ∀ {i k : Nat} {x z : EntrantD}, l[i]? = some x → l[k]? = some z → i < k → x.skater ≠ z.skater ∧ ¬ (x.rank = z.rank ∧ 0 < z.rank) := by
    intro i k x z hx hz hik
    refine (h.2 k z hz).2 x (List.mem_of_getElem? (i := i) ?_)
    rw [List.getElem?_take_of_lt hik]; exact hx
  rcases Nat.lt_or_gt_of_ne hik with h1 | h1
  · have := key hx hz h1
    exact ⟨this.1, fun h2 => this.2 ⟨h2.1, h2.1 ▸ h2.2⟩⟩
  · have := key hz hx h1
    exact ⟨Ne.symm this.1, fun h2 => this.2 ⟨h2.1.symm, h2.2⟩⟩
/-- compared: who is behind comes first -/
def cfE (x y : EntrantD) : Int := if x.rank = 0 then (if y.rank = 0 then y.skater - x.skater else -1) else if y.rank = 0 then 1 else y.rank - x.rank
def ltE (x y : EntrantD) : Bool := decide (cfE x y < 0)
theorem ltE_iff {x y : EntrantD} : ltE x y = true ↔ (x.rank = 0 ∧ y.rank = 0 ∧ y.skater < x.skater) ∨ (x.rank = 0 ∧ y.rank ≠ 0) ∨ (x.rank ≠ 0 ∧ y.rank ≠ 0 ∧ y.rank < x.rank) := by
  unfold ltE cfE
  rw [decide_eq_true_eq]
  split <;> split <;> omega
theorem ltE_no {x y : EntrantD} (h : ltE x y = false) : ¬ ((x.rank = 0 ∧ y.rank = 0 ∧ y.skater < x.skater) ∨ (x.rank = 0 ∧ y.rank ≠ 0) ∨ (x.rank ≠ 0 ∧ y.rank ≠ 0 ∧ y.rank < x.rank)) := fun h' => by rw [ltE_iff.2 h'] at h; cases h
theorem ltE_tot {l : List EntrantD} (hv : EntsOk l) : TotOn ltE (fun x => x ∈ l) := by
  refine ⟨fun {a b} ha hb h => ?_, fun {a b c} ha hb hc h1 h2 => ?_, fun {a b} ha hb h1 h2 => ?_⟩
  · have h3 := hv.rng ha; have h4 := hv.rng hb
    rw [ltE_iff] at h
    rw [Bool.eq_false_iff]
    intro h'
    rw [ltE_iff] at h'
    omega
  · have h3 := hv.rng ha; have h4 := hv.rng hb; have h5 := hv.rng hc
    rw [ltE_iff] at h1 h2 ⊢
    omega
  · obtain ⟨i, hi⟩ := List.getElem?_of_mem ha
    obtain ⟨k, hk⟩ := List.getElem?_of_mem hb
    by_cases e : i = k
    · subst e; rw [hi] at hk; cases hk; rfl
    · exfalso
      have h3 := hv.apart hi hk e
      have h4 := hv.rng ha; have h5 := hv.rng hb
      have h1' := ltE_no h1
      have h2' := ltE_no h2
      omega
theorem AreEntrants_ok (l : List EntrantD) (hn : l.length ≤ 1048576) : FnEq Tryz.prog 12 [.d (.lst 2 (l.map EntrantD.dat))] [.d (.bool (bP (EntsOk l)))] := by
  refine fn_ok G_ok Tryz.func12 rfl rfl ?_; simp only [Tryz.ntmps12, List.length_cons, List.length_nil, Nat.reduceAdd, Nat.reduceSub, enm]
  repeat' (first | (with_reducible refine execL_step (fun K' hK' => ?_); (first | with_reducible refine s_none rfl ?_ | refine s_some2 rfl ?_); simp only [go_sem]) | (with_reducible refine hK' _ ?_; clear hK' K') | with_reducible refine execL_nil ?_ | (with_reducible refine hK _ ?_; clear hK K; try simp only [go_sem]) | with_reducible refine pw_seq_opsK kl12 G_ok (fun K hK => ?_) | with_reducible (first | refine pw_seq (x := .seq _ _) ?_ | refine thenA_normal ?_ | refine thenA_exit ?_ | refine thenA_ret ?_ | refine inBlockA_same ?_ | refine inBlockA_ret ?_ | refine inBlockA_normal ?_) | refine inBlockA_other (by decide) ?_ | with_reducible (first | refine pw_seq (pw_block ?_) | refine pw_seq (pw_skip (thenA_normal ?_)) | refine pw_skip ?_ | refine pw_exit ?_ | refine pw_ret ?_ | refine pw_ops G_ok (fun K hK => ?_)) | with_reducible refine pw_block ?_ | (with_reducible refine pK_mk (fun hc => ?_) (fun hc => ?_) <;> (try simp only [go_sem]) <;> (try simp at hc) <;> (try (exfalso; omega))) | ((first | refine pw_seq (pw_cond rfl (fun hc => ?_) (fun hc => ?_)) | refine pw_cond rfl (fun hc => ?_) (fun hc => ?_)) <;> (try simp at hc) <;> (try (exfalso; omega))) | with_reducible refine And.intro (by first | omega | (unfold inI; omega) | exact andI_inI _) ?_)
  refine pw_loop_over [2, 3, 4, 6, 9, 10, 11, 12, 13, 14, 15, 16, 17, 18, 19, 20, 21, 22, 23, 24, 25, 26, 27, 28, 29, 30, 31, 32, 33, 34, 35, 36, 37, 38, 39, 40, 41, 42, 43, 44, 45, 46, 47, 48, 49, 50] (fun k : Nat => [(9, .d (.int .i64 (k : Int)))]) (fun k : Nat => []) 0 (fun k : Nat => k ≤ l.length ∧ Upto (EntAt l) l k) (fun k : Nat => l.length - k) 0 ⟨Nat.zero_le _, Upto.zero _ _⟩ (fits_mk [] (by simp [renL_d, bdL_d, sg, over, wipe, wl, memN, ins, rm, lk, fitFr, fit1, ren, renL, bd, bdL, app, fitHp, hget, renB, bdB] <;> omega)) ?_
  rintro k ⟨hk, hJ⟩
  simp only [over, wipe, wl, memN, ins, rm, if_true, if_false, Nat.reduceEqDiff, Bool.false_eq_true, reduceCtorEq]
  by_cases hlt : k < l.length
  · have hx := List.getElem?_eq_getElem hlt
    generalize l[k] = x at hx
    repeat' (first | (with_reducible refine execL_step (fun K' hK' => ?_); (first | with_reducible refine s_none rfl ?_ | refine s_some2 rfl ?_); simp only [go_sem, List.getElem?_map, hx, Option.map_some, EntrantD.dat, ← List.map_take]) | (with_reducible refine hK' _ ?_; clear hK' K') | with_reducible refine execL_nil ?_ | (with_reducible refine hK _ ?_; clear hK K; try simp only [go_sem, List.getElem?_map, hx, Option.map_some, EntrantD.dat, ← List.map_take]) | with_reducible refine pw_seq_opsK kl12 G_ok (fun K hK => ?_) | (with_reducible refine CallK.eq (isSkater_ok _) ?_ ?_; (focus (simp [RV.flat, D.sc, datI]; done)); try simp only [go_sem, List.getElem?_map, hx, Option.map_some, EntrantD.dat, ← List.map_take]) | (with_reducible refine CallK.eq (within_ok _ _ _) ?_ ?_; (focus (simp [RV.flat, D.sc, datI]; done)); try simp only [go_sem, List.getElem?_map, hx, Option.map_some, EntrantD.dat, ← List.map_take]) | with_reducible (first | refine pw_seq (x := .seq _ _) ?_ | refine thenA_normal ?_ | refine thenA_exit ?_ | refine thenA_ret ?_ | refine inBlockA_same ?_ | refine inBlockA_ret ?_ | refine inBlockA_normal ?_) | refine inBlockA_other (by decide) ?_ | with_reducible (first | refine pw_seq (pw_block ?_) | refine pw_seq (pw_skip (thenA_normal ?_)) | refine pw_skip ?_ | refine pw_exit ?_ | refine pw_ret ?_ | refine pw_ops G_ok (fun K hK => ?_)) | with_reducible refine pw_block ?_ | (with_reducible refine pK_mk (fun hc => ?_) (fun hc => ?_) <;> (try simp only [go_sem, List.getElem?_map, hx, Option.map_some, EntrantD.dat, ← List.map_take]) <;> (try simp at hc) <;> (try (exfalso; omega))) | ((first | refine pw_seq (pw_cond rfl (fun hc => ?_) (fun hc => ?_)) | refine pw_cond rfl (fun hc => ?_) (fun hc => ?_)) <;> (try simp at hc) <;> (try (exfalso; omega))) | with_reducible refine And.intro (by first | omega | (unfold inI; omega) | exact andI_inI _) ?_)
    · refine retQ_ret rfl rfl (by simp [rowsOf, lk]) ?_; rw [bP_false (EntsOk.not_at hx fun h => by have := h.1; omega)]
    · have hT : (l.take k).length = k := by simp; omega
      refine pw_loop_over [2, 6, 28, 29, 30, 31, 32, 33, 34, 35, 36, 37, 38, 39, 40, 41, 42, 43, 44, 45, 46, 47, 48, 49] (fun j : Nat => [(28, .d (.int .i64 (j : Int)))]) (fun _ => [(0, .box 60 [.d (.int .i64 x.skater), .d (.int .i64 x.rank)])]) 1 (fun j => j ≤ k ∧ ∀ y ∈ l.take j, y.skater ≠ x.skater ∧ ¬ (y.rank = x.rank ∧ 0 < x.rank)) (fun j => k - j) 0 ⟨Nat.zero_le _, by simp⟩ (fits_mk [] (by simp [renL_d, bdL_d, sg, over, wipe, wl, memN, ins, rm, lk, fitFr, fit1, ren, renL, bd, bdL, app, fitHp, hget, renB, bdB] <;> omega)) ?_
      rintro j ⟨hj, hJ2⟩
      simp only [over, wipe, wl, memN, ins, rm, if_true, if_false, Nat.reduceEqDiff, Bool.false_eq_true, reduceCtorEq]
      by_cases hlt2 : j < k
      · have hjl : j < l.length := by omega
        have hy := List.getElem?_eq_getElem hjl
        generalize l[j] = y at hy
        have hyt : (l.take k)[j]? = some y := by rw [List.getElem?_take_of_lt hlt2]; exact hy
        repeat' (first | (with_reducible refine execL_step (fun K' hK' => ?_); (first | with_reducible refine s_none rfl ?_ | refine s_some2 rfl ?_); simp only [go_sem, List.getElem?_map, hyt, Option.map_some, EntrantD.dat]) | (with_reducible refine hK' _ ?_; clear hK' K') | with_reducible refine execL_nil ?_ | (with_reducible refine hK _ ?_; clear hK K; try simp only [go_sem, List.getElem?_map, hyt, Option.map_some, EntrantD.dat]) | with_reducible refine pw_seq_opsK kl12 G_ok (fun K hK => ?_) | with_reducible (first | refine pw_seq (x := .seq _ _) ?_ | refine thenA_normal ?_ | refine thenA_exit ?_ | refine thenA_ret ?_ | refine inBlockA_same ?_ | refine inBlockA_ret ?_ | refine inBlockA_normal ?_) | refine inBlockA_other (by decide) ?_ | with_reducible (first | refine pw_seq (pw_block ?_) | refine pw_seq (pw_skip (thenA_normal ?_)) | refine pw_skip ?_ | refine pw_exit ?_ | refine pw_ret ?_ | refine pw_ops G_ok (fun K hK => ?_)) | with_reducible refine pw_block ?_ | (with_reducible refine pK_mk (fun hc => ?_) (fun hc => ?_) <;> (try simp only [go_sem, List.getElem?_map, hyt, Option.map_some, EntrantD.dat]) <;> (try simp at hc) <;> (try (exfalso; omega))) | ((first | refine pw_seq (pw_cond rfl (fun hc => ?_) (fun hc => ?_)) | refine pw_cond rfl (fun hc => ?_) (fun hc => ?_)) <;> (try simp at hc) <;> (try (exfalso; omega))) | with_reducible refine And.intro (by first | omega | (unfold inI; omega) | exact andI_inI _) ?_)
        all_goals first
          | (refine retQ_ret rfl rfl (by simp [rowsOf, lk]) ?_; rw [bP_false (EntsOk.not_at hx fun h => by have := h.2 y (List.mem_of_getElem? hyt); omega)])
          | exact ⟨j + 1, ⟨by omega, fun z hz => by
              rw [take_snoc hy] at hz
              rcases List.mem_append.1 hz with h | h
              · exact hJ2 z h
              · rw [List.mem_singleton] at h; subst h; omega⟩, by omega, (fits_mk [] (by simp [renL_d, bdL_d, sg, over, wipe, wl, memN, ins, rm, lk, fitFr, fit1, ren, renL, bd, bdL, app, fitHp, hget, renB, bdB] <;> omega))⟩
      · have hje : j = k := by omega
        subst hje
        repeat' (first | (with_reducible refine execL_step (fun K' hK' => ?_); (first | with_reducible refine s_none rfl ?_ | refine s_some2 rfl ?_); simp only [go_sem]) | (with_reducible refine hK' _ ?_; clear hK' K') | with_reducible refine execL_nil ?_ | (with_reducible refine hK _ ?_; clear hK K; try simp only [go_sem]) | with_reducible refine pw_seq_opsK kl12 G_ok (fun K hK => ?_) | with_reducible (first | refine pw_seq (x := .seq _ _) ?_ | refine thenA_normal ?_ | refine thenA_exit ?_ | refine thenA_ret ?_ | refine inBlockA_same ?_ | refine inBlockA_ret ?_ | refine inBlockA_normal ?_) | refine inBlockA_other (by decide) ?_ | with_reducible (first | refine pw_seq (pw_block ?_) | refine pw_seq (pw_skip (thenA_normal ?_)) | refine pw_skip ?_ | refine pw_exit ?_ | refine pw_ret ?_ | refine pw_ops G_ok (fun K hK => ?_)) | with_reducible refine pw_block ?_ | (with_reducible refine pK_mk (fun hc => ?_) (fun hc => ?_) <;> (try simp only [go_sem]) <;> (try simp at hc) <;> (try (exfalso; omega))) | ((first | refine pw_seq (pw_cond rfl (fun hc => ?_) (fun hc => ?_)) | refine pw_cond rfl (fun hc => ?_) (fun hc => ?_)) <;> (try simp at hc) <;> (try (exfalso; omega))) | with_reducible refine And.intro (by first | omega | (unfold inI; omega) | exact andI_inI _) ?_)
        exact ⟨j + 1, ⟨by omega, hJ.succ hx ⟨by omega, hJ2⟩⟩, by omega, (fits_mk [] (by simp [renL_d, bdL_d, sg, over, wipe, wl, memN, ins, rm, lk, fitFr, fit1, ren, renL, bd, bdL, app, fitHp, hget, renB, bdB] <;> omega))⟩
    all_goals (refine retQ_ret rfl rfl (by simp [rowsOf, lk]) ?_; rw [bP_false (EntsOk.not_at hx fun h => by have := h.1; omega)])
  · repeat' (first | (with_reducible refine execL_step (fun K' hK' => ?_); (first | with_reducible refine s_none rfl ?_ | refine s_some2 rfl ?_); simp only [go_sem]) | (with_reducible refine hK' _ ?_; clear hK' K') | with_reducible refine execL_nil ?_ | (with_reducible refine hK _ ?_; clear hK K; try simp only [go_sem]) | with_reducible refine pw_seq_opsK kl12 G_ok (fun K hK => ?_) | with_reducible (first | refine pw_seq (x := .seq _ _) ?_ | refine thenA_normal ?_ | refine thenA_exit ?_ | refine thenA_ret ?_ | refine inBlockA_same ?_ | refine inBlockA_ret ?_ | refine inBlockA_normal ?_) | refine inBlockA_other (by decide) ?_ | with_reducible (first | refine pw_seq (pw_block ?_) | refine pw_seq (pw_skip (thenA_normal ?_)) | refine pw_skip ?_ | refine pw_exit ?_ | refine pw_ret ?_ | refine pw_ops G_ok (fun K hK => ?_)) | with_reducible refine pw_block ?_ | (with_reducible refine pK_mk (fun hc => ?_) (fun hc => ?_) <;> (try simp only [go_sem]) <;> (try simp at hc) <;> (try (exfalso; omega))) | ((first | refine pw_seq (pw_cond rfl (fun hc => ?_) (fun hc => ?_)) | refine pw_cond rfl (fun hc => ?_) (fun hc => ?_)) <;> (try simp at hc) <;> (try (exfalso; omega))) | with_reducible refine And.intro (by first | omega | (unfold inI; omega) | exact andI_inI _) ?_)
    refine retQ_ret rfl rfl (by simp [rowsOf, lk]) ?_; rw [ents_end hJ (by omega)]
end Go.Proofs.YtkncdoodlggbcaaGreat
