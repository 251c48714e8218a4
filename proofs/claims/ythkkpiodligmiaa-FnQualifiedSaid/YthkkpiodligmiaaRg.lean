/-
  Segments of results: hasSegment and rkSegment, hasResult and rkAsked, in the abstract machine.
-/
import Derived.Test.YthkkpiodligmiaaRk
set_option linter.unusedSimpArgs false
set_option linter.unusedVariables false
set_option maxHeartbeats 2000000
set_option maxRecDepth 100000
namespace Go.Proofs.Ythkkpiodligmiaa
open Go.RowKit

def SegOk (l : List ResultD) (s : Int) : Prop := ResultsOk l ∧ 0 < l.length ∧ 0 ≤ s ∧ s < len0 l
theorem seg_end {l : List ResultD} {s : Int} (h : ResultsOk l) (h0 : 0 < l.length) : bP (SegOk l s) = (decide (0 ≤ s) && decide (s ≤ (len0 l : Int) - 1)) := by
  rw [Bool.eq_iff_iff, bP_iff]
  simp only [Bool.and_eq_true, decide_eq_true_eq]
  constructor
  · rintro ⟨_, _, h1, h2⟩; omega
  · rintro ⟨h1, h2⟩; exact ⟨h, h0, h1, by omega⟩
theorem hasSegment_ok (l : List ResultD) (s : Int) (hn : l.length ≤ 1048576) (hs : ∀ r ∈ l, r.scores.length ≤ 1048576) : FnEq Try.prog 86 [.d (.lst 2 (l.map ResultD.dat)), .d (.int .i64 s)] [.d (.bool (bP (SegOk l s)))] := by
  refine fn_ok G_ok Try.func86 rfl rfl ?_; simp only [Try.ntmps86, List.length_cons, List.length_nil, Nat.reduceAdd, Nat.reduceSub, enm]
  by_cases hv : ResultsOk l
  · have hb := bP_true hv
    by_cases h0 : 0 < l.length
    · have hz := List.getElem?_eq_getElem h0
      generalize l[0] = z at hz
      have hlz := len0_of hz
      have hzs := hs z (List.mem_of_getElem? hz)
      repeat' (first | ((with_reducible first | refine execL_step (fun K' hK' => ?_)); (first | with_reducible refine s_none rfl ?_ | refine s_some2 rfl ?_); simp only [go_sem, hb, List.getElem?_map, hz, Option.map_some, ResultD.dat]) | (with_reducible refine hK' _ ?_; clear hK' K') | (with_reducible refine hK _ ?_; clear hK K; try simp only [go_sem, hb, List.getElem?_map, hz, Option.map_some, ResultD.dat]) | with_reducible (first | refine stp ?_ | refine pw_seq_opsK kl86 G_ok (fun K hK => ?_) | refine pw_ops G_ok (fun K hK => ?_)) | ((with_reducible first | apply CallK.eq); (focus (with_reducible first | exact AreResults_ok l hn hs | exact within_ok _ _ _)); (focus (first | exact rfl | (simp [RV.flat, D.sc, datI]; done))); try simp only [go_sem, hb, List.getElem?_map, hz, Option.map_some, ResultD.dat]) | refine inBlockA_other (by decide) ?_ | (with_reducible refine pK_mk (fun hc => ?_) (fun hc => ?_) <;> (try simp only [go_sem, hb, List.getElem?_map, hz, Option.map_some, ResultD.dat]) <;> (try simp at hc) <;> (try (exfalso; omega))) | ((first | refine pw_seq (pw_cond rfl (fun hc => ?_) (fun hc => ?_)) | refine pw_cond rfl (fun hc => ?_) (fun hc => ?_)) <;> (try simp at hc) <;> (try (exfalso; omega))) | with_reducible refine And.intro (by first | omega | (unfold inI; omega) | exact andI_inI _) ?_)
      all_goals first
        | (exfalso; omega)
        | (exfalso; rw [hc] at h0; simp at h0; done)
        | (exfalso; apply hc; exact List.eq_nil_of_length_eq_zero (by omega))
        | (refine retQ_ret rfl rfl (by simp [rowsOf, lk]) ?_; rw [seg_end hv h0, hlz])
    · repeat' (first | ((with_reducible first | refine execL_step (fun K' hK' => ?_)); (first | with_reducible refine s_none rfl ?_ | refine s_some2 rfl ?_); simp only [go_sem, hb]) | (with_reducible refine hK' _ ?_; clear hK' K') | (with_reducible refine hK _ ?_; clear hK K; try simp only [go_sem, hb]) | with_reducible (first | refine stp ?_ | refine pw_seq_opsK kl86 G_ok (fun K hK => ?_) | refine pw_ops G_ok (fun K hK => ?_)) | ((with_reducible first | apply CallK.eq); (focus (with_reducible first | exact AreResults_ok l hn hs)); (focus (first | exact rfl | (simp [RV.flat, D.sc, datI]; done))); try simp only [go_sem, hb]) | refine inBlockA_other (by decide) ?_ | (with_reducible refine pK_mk (fun hc => ?_) (fun hc => ?_) <;> (try simp only [go_sem, hb]) <;> (try simp at hc) <;> (try (exfalso; omega))) | ((first | refine pw_seq (pw_cond rfl (fun hc => ?_) (fun hc => ?_)) | refine pw_cond rfl (fun hc => ?_) (fun hc => ?_)) <;> (try simp at hc) <;> (try (exfalso; omega))) | with_reducible refine And.intro (by first | omega | (unfold inI; omega) | exact andI_inI _) ?_)
      all_goals first
        | (exfalso; omega)
        | (exfalso; rw [hc] at h0; simp at h0; done)
        | (exfalso; apply hc; exact List.eq_nil_of_length_eq_zero (by omega))
        | (refine retQ_ret rfl rfl (by simp [rowsOf, lk]) ?_; rw [bP_false (fun h => h0 h.2.1)])
  · have hb := bP_false hv
    repeat' (first | ((with_reducible first | refine execL_step (fun K' hK' => ?_)); (first | with_reducible refine s_none rfl ?_ | refine s_some2 rfl ?_); simp only [go_sem, hb]) | (with_reducible refine hK' _ ?_; clear hK' K') | (with_reducible refine hK _ ?_; clear hK K; try simp only [go_sem, hb]) | with_reducible (first | refine stp ?_ | refine pw_seq_opsK kl86 G_ok (fun K hK => ?_) | refine pw_ops G_ok (fun K hK => ?_)) | ((with_reducible first | apply CallK.eq); (focus (with_reducible first | exact AreResults_ok l hn hs)); (focus (first | exact rfl | (simp [RV.flat, D.sc, datI]; done))); try simp only [go_sem, hb]) | refine inBlockA_other (by decide) ?_ | (with_reducible refine pK_mk (fun hc => ?_) (fun hc => ?_) <;> (try simp only [go_sem, hb]) <;> (try simp at hc) <;> (try (exfalso; omega))) | ((first | refine pw_seq (pw_cond rfl (fun hc => ?_) (fun hc => ?_)) | refine pw_cond rfl (fun hc => ?_) (fun hc => ?_)) <;> (try simp at hc) <;> (try (exfalso; omega))) | with_reducible refine And.intro (by first | omega | (unfold inI; omega) | exact andI_inI _) ?_)
    refine retQ_ret rfl rfl (by simp [rowsOf, lk]) ?_; rw [bP_false (fun h => hv h.1)]
theorem rkSegment_ok (l : List ResultD) (s : Int) (hn : l.length ≤ 1048576) (hs : ∀ r ∈ l, r.scores.length ≤ 1048576) : FnEq Try.prog 94 [.d (.lst 2 (l.map ResultD.dat)), .d (.int .i64 s)] [.d (.bool (bP (SegOk l s)))] := by
  refine fn_ok G_ok Try.func94 rfl rfl ?_; simp only [Try.ntmps94, List.length_cons, List.length_nil, Nat.reduceAdd, Nat.reduceSub, enm]
  by_cases hv : ResultsOk l
  · have hb := bP_true hv
    by_cases h0 : 0 < l.length
    · have hz := List.getElem?_eq_getElem h0
      generalize l[0] = z at hz
      have hlz := len0_of hz
      have hzs := hs z (List.mem_of_getElem? hz)
      repeat' (first | ((with_reducible first | refine execL_step (fun K' hK' => ?_)); (first | with_reducible refine s_none rfl ?_ | refine s_some2 rfl ?_); simp only [go_sem, hb, List.getElem?_map, hz, Option.map_some, ResultD.dat]) | (with_reducible refine hK' _ ?_; clear hK' K') | (with_reducible refine hK _ ?_; clear hK K; try simp only [go_sem, hb, List.getElem?_map, hz, Option.map_some, ResultD.dat]) | with_reducible (first | refine stp ?_ | refine pw_seq_opsK kl94 G_ok (fun K hK => ?_) | refine pw_ops G_ok (fun K hK => ?_)) | ((with_reducible first | apply CallK.eq); (focus (with_reducible first | exact rkGood_ok l hn hs | exact l1In_ok _ _ _)); (focus (first | exact rfl | (simp [RV.flat, D.sc, datI]; done))); try simp only [go_sem, hb, List.getElem?_map, hz, Option.map_some, ResultD.dat]) | refine inBlockA_other (by decide) ?_ | (with_reducible refine pK_mk (fun hc => ?_) (fun hc => ?_) <;> (try simp only [go_sem, hb, List.getElem?_map, hz, Option.map_some, ResultD.dat]) <;> (try simp at hc) <;> (try (exfalso; omega))) | ((first | refine pw_seq (pw_cond rfl (fun hc => ?_) (fun hc => ?_)) | refine pw_cond rfl (fun hc => ?_) (fun hc => ?_)) <;> (try simp at hc) <;> (try (exfalso; omega))) | with_reducible refine And.intro (by first | omega | (unfold inI; omega) | exact andI_inI _) ?_)
      all_goals first
        | (exfalso; omega)
        | (exfalso; rw [hc] at h0; simp at h0; done)
        | (exfalso; apply hc; exact List.eq_nil_of_length_eq_zero (by omega))
        | (refine retQ_ret rfl rfl (by simp [rowsOf, lk]) ?_; rw [seg_end hv h0, hlz])
    · repeat' (first | ((with_reducible first | refine execL_step (fun K' hK' => ?_)); (first | with_reducible refine s_none rfl ?_ | refine s_some2 rfl ?_); simp only [go_sem, hb]) | (with_reducible refine hK' _ ?_; clear hK' K') | (with_reducible refine hK _ ?_; clear hK K; try simp only [go_sem, hb]) | with_reducible (first | refine stp ?_ | refine pw_seq_opsK kl94 G_ok (fun K hK => ?_) | refine pw_ops G_ok (fun K hK => ?_)) | ((with_reducible first | apply CallK.eq); (focus (with_reducible first | exact rkGood_ok l hn hs)); (focus (first | exact rfl | (simp [RV.flat, D.sc, datI]; done))); try simp only [go_sem, hb]) | refine inBlockA_other (by decide) ?_ | (with_reducible refine pK_mk (fun hc => ?_) (fun hc => ?_) <;> (try simp only [go_sem, hb]) <;> (try simp at hc) <;> (try (exfalso; omega))) | ((first | refine pw_seq (pw_cond rfl (fun hc => ?_) (fun hc => ?_)) | refine pw_cond rfl (fun hc => ?_) (fun hc => ?_)) <;> (try simp at hc) <;> (try (exfalso; omega))) | with_reducible refine And.intro (by first | omega | (unfold inI; omega) | exact andI_inI _) ?_)
      all_goals first
        | (exfalso; omega)
        | (exfalso; rw [hc] at h0; simp at h0; done)
        | (exfalso; apply hc; exact List.eq_nil_of_length_eq_zero (by omega))
        | (refine retQ_ret rfl rfl (by simp [rowsOf, lk]) ?_; rw [bP_false (fun h => h0 h.2.1)])
  · have hb := bP_false hv
    repeat' (first | ((with_reducible first | refine execL_step (fun K' hK' => ?_)); (first | with_reducible refine s_none rfl ?_ | refine s_some2 rfl ?_); simp only [go_sem, hb]) | (with_reducible refine hK' _ ?_; clear hK' K') | (with_reducible refine hK _ ?_; clear hK K; try simp only [go_sem, hb]) | with_reducible (first | refine stp ?_ | refine pw_seq_opsK kl94 G_ok (fun K hK => ?_) | refine pw_ops G_ok (fun K hK => ?_)) | ((with_reducible first | apply CallK.eq); (focus (with_reducible first | exact rkGood_ok l hn hs)); (focus (first | exact rfl | (simp [RV.flat, D.sc, datI]; done))); try simp only [go_sem, hb]) | refine inBlockA_other (by decide) ?_ | (with_reducible refine pK_mk (fun hc => ?_) (fun hc => ?_) <;> (try simp only [go_sem, hb]) <;> (try simp at hc) <;> (try (exfalso; omega))) | ((first | refine pw_seq (pw_cond rfl (fun hc => ?_) (fun hc => ?_)) | refine pw_cond rfl (fun hc => ?_) (fun hc => ?_)) <;> (try simp at hc) <;> (try (exfalso; omega))) | with_reducible refine And.intro (by first | omega | (unfold inI; omega) | exact andI_inI _) ?_)
    refine retQ_ret rfl rfl (by simp [rowsOf, lk]) ?_; rw [bP_false (fun h => hv h.1)]
theorem len0_le {l : List ResultD} (hv : ResultsOk l) : len0 l ≤ 3 := by
  cases l with
  | nil => simp [len0]
  | cons z r => exact (hv.2 0 z rfl).1.2.2.2.2
/-- the score at a segment -/
def scAt (r : ResultD) (s : Int) : Int := r.scores.getD s.toNat 0
theorem scAt_get {l : List ResultD} (hv : ResultsOk l) {k : Nat} {r : ResultD} (hx : l[k]? = some r) {s : Int} (h0 : 0 ≤ s) (h1 : s < len0 l) : r.scores[s.toNat]? = some (scAt r s) := by
  have := (hv.2 k r hx).2.1
  have hlt : s.toNat < r.scores.length := by omega
  unfold scAt
  rw [List.getD_eq_getElem?_getD, List.getElem?_eq_getElem hlt]; rfl
theorem scAt_bd {l : List ResultD} (hv : ResultsOk l) {k : Nat} {r : ResultD} (hx : l[k]? = some r) {s : Int} (h0 : 0 ≤ s) (h1 : s < len0 l) : -1 ≤ scAt r s ∧ scAt r s ≤ 100000 := by
  have := (hv.2 k r hx).1.1 _ _ (scAt_get hv hx h0 h1)
  exact ⟨this.1, this.2.1⟩
def sgAt (s : Int) (r : ResultD) : Int := r.scores.getD s.toNat 0
theorem SegOk.score {l : List ResultD} {s : Int} (h : SegOk l s) {k : Nat} {x : ResultD} (hx : l[k]? = some x) : s.toNat < x.scores.length ∧ x.scores[s.toNat]? = some (sgAt s x) := by
  obtain ⟨h1, h2, h3, h4⟩ := h
  have h5 := (h1.2 k x hx).2.1
  have h6 : s.toNat < x.scores.length := by omega
  exact ⟨h6, by unfold sgAt; rw [List.getD_eq_getElem?_getD, List.getElem?_eq_getElem h6]; rfl⟩
end Go.Proofs.Ythkkpiodligmiaa
