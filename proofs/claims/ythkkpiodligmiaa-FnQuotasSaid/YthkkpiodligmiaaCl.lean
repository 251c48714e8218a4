/-
  Clubs: when a list of them is valid; the program's test, in the abstract machine.
-/
import Derived.Test.YthkkpiodligmiaaOrd
import Derived.Test.YthkkpiodligmiaaClubW
set_option linter.unusedSimpArgs false
set_option linter.unusedVariables false
set_option maxHeartbeats 2000000
set_option maxRecDepth 100000
namespace Go.Proofs.Ythkkpiodligmiaa
open Go.RowKit

def ClubD.dat (x : ClubD) : List D := [.int .i64 x.skater, .int .i64 x.club]
theorem ClubD.dat_ok : EncOK ClubD.enc ClubD.dat 2 := by
  refine ⟨fun _ => rfl, fun _ => rfl, fun x j d u hd hu w X => ?_, fun x j d u hd hu w X v hv => ?_⟩
  · match j with
    | 0 => simp [ClubD.dat, ClubD.enc] at hd hu; subst hd hu; exact .int _ _
    | 1 => simp [ClubD.dat, ClubD.enc] at hd hu; subst hd hu; exact .int _ _
    | j + 2 => simp [ClubD.dat] at hd
  · match j with
    | 0 => simp [ClubD.dat, ClubD.enc] at hd hu; subst hd hu; cases hv; rfl
    | 1 => simp [ClubD.dat, ClubD.enc] at hd hu; subst hd hu; cases hv; rfl
    | j + 2 => simp [ClubD.dat] at hd

def isSk (n : Int) (x : ClubD) : Bool := x.skater == n
def skB2 (l : List ClubD) (n : Int) : Bool := l.any (isSk n)
theorem skB2_iff {l : List ClubD} {n : Int} : skB2 l n = true ↔ n ∈ l.map ClubD.skater := by unfold skB2; rw [List.any_eq_true, List.mem_map]; simp [isSk]
theorem skB2_not {l : List ClubD} {n : Int} (h : skB2 l n = false) : n ∉ l.map ClubD.skater := fun h' => Bool.noConfusion ((skB2_iff.2 h').symm.trans h)
def ClubAt (l : List ClubD) (k : Nat) (x : ClubD) : Prop := 1 ≤ x.skater ∧ x.skater ≤ 999 ∧ 1 ≤ x.club ∧ x.club ≤ 20 ∧ x.skater ∉ (l.take k).map ClubD.skater
def ClubsOk (l : List ClubD) : Prop := l.length ≤ 40 ∧ All (ClubAt l) l
theorem ClubsOk.not_at {l : List ClubD} {k : Nat} {x : ClubD} (hx : l[k]? = some x) (hf : ¬ ClubAt l k x) : ¬ ClubsOk l := fun h => hf (h.2 k x hx)
theorem clubs_end {l : List ClubD} {k : Nat} (h1 : Upto (ClubAt l) l k) (hk : l.length ≤ k) : bP (ClubsOk l) = decide ((l.length : Int) ≤ 40) := by
  by_cases h : l.length ≤ 40
  · rw [bP_true ⟨h, h1.all hk⟩]; exact (decide_eq_true (by omega)).symm
  · rw [bP_false fun h' => h h'.1]; exact (decide_eq_false (by omega)).symm
theorem isClubList_ok (l : List ClubD) (hn : l.length ≤ 1048576) : FnEq Try.prog 116 [.d (.lst 2 (l.map ClubD.dat))] [.d (.bool (bP (ClubsOk l)))] := by
  refine fn_ok G_ok Try.func116 rfl rfl ?_; simp only [Try.ntmps116, List.length_cons, List.length_nil, Nat.reduceAdd, Nat.reduceSub, enm]
  repeat' (first | ((with_reducible first | refine execL_step (fun K' hK' => ?_)); (first | with_reducible refine s_none rfl ?_ | refine s_some2 rfl ?_); simp only [go_sem]) | (with_reducible refine hK' _ ?_; clear hK' K') | (with_reducible refine hK _ ?_; clear hK K; try simp only [go_sem]) | with_reducible (first | refine stp ?_ | refine pw_seq_opsK kl116 G_ok (fun K hK => ?_) | refine pw_ops G_ok (fun K hK => ?_)) | refine inBlockA_other (by decide) ?_ | (with_reducible refine pK_mk (fun hc => ?_) (fun hc => ?_) <;> (try simp only [go_sem]) <;> (try simp at hc) <;> (try (exfalso; omega))) | ((first | refine pw_seq (pw_cond rfl (fun hc => ?_) (fun hc => ?_)) | refine pw_cond rfl (fun hc => ?_) (fun hc => ?_)) <;> (try simp at hc) <;> (try (exfalso; omega))) | with_reducible refine And.intro (by first | omega | (unfold inI; omega) | exact andI_inI _) ?_)
  refine pw_loop_over [2, 3, 4, 6, 9, 10, 11, 12, 13, 14, 15, 16, 17, 18, 19, 20, 21, 22, 23, 24, 25, 26, 27, 28, 29, 30, 31, 32, 33, 34, 35, 36, 37, 38] (fun k : Nat => [(9, .d (.int .i64 (k : Int)))]) (fun k : Nat => []) 0 (fun k : Nat => k ≤ l.length ∧ Upto (ClubAt l) l k) (fun k : Nat => l.length - k) 0 ⟨Nat.zero_le _, Upto.zero _ _⟩ (fits_mk [] (by simp [renL_d, bdL_d, sg, over, wipe, wl, memN, ins, rm, lk, fitFr, fit1, ren, renL, bd, bdL, app, fitHp, hget, renB, bdB] <;> omega)) ?_
  rintro k ⟨hk, hJ⟩
  simp only [over, wipe, wl, memN, ins, rm, if_true, if_false, Nat.reduceEqDiff, Bool.false_eq_true, reduceCtorEq]
  by_cases hlt : k < l.length
  · have hx := List.getElem?_eq_getElem hlt
    generalize l[k] = x at hx
    repeat' (first | ((with_reducible first | refine execL_step (fun K' hK' => ?_)); (first | with_reducible refine s_none rfl ?_ | refine s_some2 rfl ?_); simp only [go_sem, List.getElem?_map, hx, Option.map_some, ClubD.dat, ← List.map_take]) | (with_reducible refine hK' _ ?_; clear hK' K') | (with_reducible refine hK _ ?_; clear hK K; try simp only [go_sem, List.getElem?_map, hx, Option.map_some, ClubD.dat, ← List.map_take]) | with_reducible (first | refine stp ?_ | refine pw_seq_opsK kl116 G_ok (fun K hK => ?_) | refine pw_ops G_ok (fun K hK => ?_)) | ((with_reducible first | apply CallK.eq); (focus (with_reducible first | exact isSkater_ok _ | exact within_ok _ _ _)); (focus (first | exact rfl | (simp [RV.flat, D.sc, datI]; done))); try simp only [go_sem, List.getElem?_map, hx, Option.map_some, ClubD.dat, ← List.map_take]) | refine inBlockA_other (by decide) ?_ | (with_reducible refine pK_mk (fun hc => ?_) (fun hc => ?_) <;> (try simp only [go_sem, List.getElem?_map, hx, Option.map_some, ClubD.dat, ← List.map_take]) <;> (try simp at hc) <;> (try (exfalso; omega))) | ((first | refine pw_seq (pw_cond rfl (fun hc => ?_) (fun hc => ?_)) | refine pw_cond rfl (fun hc => ?_) (fun hc => ?_)) <;> (try simp at hc) <;> (try (exfalso; omega))) | with_reducible refine And.intro (by first | omega | (unfold inI; omega) | exact andI_inI _) ?_)
    · refine retQ_ret rfl rfl (by simp [rowsOf, lk]) ?_; rw [bP_false (ClubsOk.not_at hx fun h => by have := h.2.2.1; have := h.2.2.2.1; omega)]
    · have hT : (l.take k).length = k := by simp; omega
      refine pw_loop_over [2, 6, 28, 29, 30, 31, 32, 33, 34, 35, 36, 37] (fun j : Nat => [(28, .d (.int .i64 (j : Int)))]) (fun _ => [(0, .box 103 [.d (.int .i64 x.skater), .d (.int .i64 x.club)])]) 1 (fun j => j ≤ k ∧ skB2 (l.take j) x.skater = false) (fun j => k - j) 0 ⟨Nat.zero_le _, rfl⟩ (fits_mk [] (by simp [renL_d, bdL_d, sg, over, wipe, wl, memN, ins, rm, lk, fitFr, fit1, ren, renL, bd, bdL, app, fitHp, hget, renB, bdB] <;> omega)) ?_
      rintro j ⟨hj, hJ2⟩
      simp only [over, wipe, wl, memN, ins, rm, if_true, if_false, Nat.reduceEqDiff, Bool.false_eq_true, reduceCtorEq]
      by_cases hlt2 : j < k
      · have hjl : j < l.length := by omega
        have hy := List.getElem?_eq_getElem hjl
        generalize l[j] = y at hy
        have hyt : (l.take k)[j]? = some y := by rw [List.getElem?_take_of_lt hlt2]; exact hy
        repeat' (first | ((with_reducible first | refine execL_step (fun K' hK' => ?_)); (first | with_reducible refine s_none rfl ?_ | refine s_some2 rfl ?_); simp only [go_sem, List.getElem?_map, hyt, Option.map_some, ClubD.dat]) | (with_reducible refine hK' _ ?_; clear hK' K') | (with_reducible refine hK _ ?_; clear hK K; try simp only [go_sem, List.getElem?_map, hyt, Option.map_some, ClubD.dat]) | with_reducible (first | refine stp ?_ | refine pw_seq_opsK kl116 G_ok (fun K hK => ?_) | refine pw_ops G_ok (fun K hK => ?_)) | refine inBlockA_other (by decide) ?_ | (with_reducible refine pK_mk (fun hc => ?_) (fun hc => ?_) <;> (try simp only [go_sem, List.getElem?_map, hyt, Option.map_some, ClubD.dat]) <;> (try simp at hc) <;> (try (exfalso; omega))) | ((first | refine pw_seq (pw_cond rfl (fun hc => ?_) (fun hc => ?_)) | refine pw_cond rfl (fun hc => ?_) (fun hc => ?_)) <;> (try simp at hc) <;> (try (exfalso; omega))) | with_reducible refine And.intro (by first | omega | (unfold inI; omega) | exact andI_inI _) ?_)
        · refine retQ_ret rfl rfl (by simp [rowsOf, lk]) ?_; rw [bP_false (ClubsOk.not_at hx fun h => h.2.2.2.2 (by rw [← hc]; exact List.mem_map.2 ⟨y, List.mem_of_getElem? hyt, rfl⟩))]
        · exact ⟨j + 1, ⟨by omega, by unfold skB2 at *; rw [take_snoc hy, List.any_append, hJ2]; simpa [isSk] using hc⟩, by omega, (fits_mk [] (by simp [renL_d, bdL_d, sg, over, wipe, wl, memN, ins, rm, lk, fitFr, fit1, ren, renL, bd, bdL, app, fitHp, hget, renB, bdB] <;> omega))⟩
      · have hje : j = k := by omega
        subst hje
        repeat' (first | ((with_reducible first | refine execL_step (fun K' hK' => ?_)); (first | with_reducible refine s_none rfl ?_ | refine s_some2 rfl ?_); simp only [go_sem]) | (with_reducible refine hK' _ ?_; clear hK' K') | (with_reducible refine hK _ ?_; clear hK K; try simp only [go_sem]) | with_reducible (first | refine stp ?_ | refine pw_seq_opsK kl116 G_ok (fun K hK => ?_) | refine pw_ops G_ok (fun K hK => ?_)) | refine inBlockA_other (by decide) ?_ | (with_reducible refine pK_mk (fun hc => ?_) (fun hc => ?_) <;> (try simp only [go_sem]) <;> (try simp at hc) <;> (try (exfalso; omega))) | ((first | refine pw_seq (pw_cond rfl (fun hc => ?_) (fun hc => ?_)) | refine pw_cond rfl (fun hc => ?_) (fun hc => ?_)) <;> (try simp at hc) <;> (try (exfalso; omega))) | with_reducible refine And.intro (by first | omega | (unfold inI; omega) | exact andI_inI _) ?_)
        exact ⟨j + 1, ⟨by omega, hJ.succ hx ⟨by omega, by omega, by omega, by omega, skB2_not hJ2⟩⟩, by omega, (fits_mk [] (by simp [renL_d, bdL_d, sg, over, wipe, wl, memN, ins, rm, lk, fitFr, fit1, ren, renL, bd, bdL, app, fitHp, hget, renB, bdB] <;> omega))⟩
    · refine retQ_ret rfl rfl (by simp [rowsOf, lk]) ?_; rw [bP_false (ClubsOk.not_at hx fun h => by have := h.1; have := h.2.1; omega)]
  · repeat' (first | ((with_reducible first | refine execL_step (fun K' hK' => ?_)); (first | with_reducible refine s_none rfl ?_ | refine s_some2 rfl ?_); simp only [go_sem]) | (with_reducible refine hK' _ ?_; clear hK' K') | (with_reducible refine hK _ ?_; clear hK K; try simp only [go_sem]) | with_reducible (first | refine stp ?_ | refine pw_seq_opsK kl116 G_ok (fun K hK => ?_) | refine pw_ops G_ok (fun K hK => ?_)) | refine inBlockA_other (by decide) ?_ | (with_reducible refine pK_mk (fun hc => ?_) (fun hc => ?_) <;> (try simp only [go_sem]) <;> (try simp at hc) <;> (try (exfalso; omega))) | ((first | refine pw_seq (pw_cond rfl (fun hc => ?_) (fun hc => ?_)) | refine pw_cond rfl (fun hc => ?_) (fun hc => ?_)) <;> (try simp at hc) <;> (try (exfalso; omega))) | with_reducible refine And.intro (by first | omega | (unfold inI; omega) | exact andI_inI _) ?_)
    refine retQ_ret rfl rfl (by simp [rowsOf, lk]) ?_; rw [clubs_end hJ (by omega)]
end Go.Proofs.Ythkkpiodligmiaa
