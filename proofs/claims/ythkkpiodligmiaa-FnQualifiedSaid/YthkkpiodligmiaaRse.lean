/-
  SetScore of results: the program's function and the reference's, in the abstract machine; marks held in results.
-/
import Derived.Test.YthkkpiodligmiaaRw
import Derived.Test.YthkkpiodligmiaaRg
set_option linter.unusedSimpArgs false
set_option linter.unusedVariables false
set_option maxHeartbeats 2000000
set_option maxRecDepth 100000
namespace Go.Proofs.Ythkkpiodligmiaa
open Go.RowKit

def AskR (l : List ResultD) (i s : Int) : Prop := HasR l i ∧ SegOk l s
theorem rkAsked_ok (l : List ResultD) (i s : Int) (hn : l.length ≤ 1048576) (hs : ∀ r ∈ l, r.scores.length ≤ 1048576) : FnEq Try.prog 89 [.d (.lst 2 (l.map ResultD.dat)), .d (.int .i64 i), .d (.int .i64 s)] [.d (.bool (bP (AskR l i s)))] := by
  refine fn_ok G_ok Try.func89 rfl rfl ?_; simp only [Try.ntmps89, List.length_cons, List.length_nil, Nat.reduceAdd, Nat.reduceSub, enm]
  by_cases hv : SegOk l s
  · have hb := bP_true hv
    have e : bP (AskR l i s) = (decide (0 ≤ i) && decide (i ≤ (l.length : Int) - 1)) := by
      rw [Bool.eq_iff_iff, bP_iff]; simp only [Bool.and_eq_true, decide_eq_true_eq]; unfold AskR HasR; constructor
      · rintro ⟨⟨_, h1, h2⟩, _⟩; omega
      · rintro ⟨h1, h2⟩; exact ⟨⟨hv.1, h1, by omega⟩, hv⟩
    repeat' (first | ((with_reducible first | refine execL_step (fun K' hK' => ?_)); (first | with_reducible refine s_none rfl ?_ | refine s_some2 rfl ?_); simp only [go_sem, hb]) | (with_reducible refine hK' _ ?_; clear hK' K') | (with_reducible refine hK _ ?_; clear hK K; try simp only [go_sem, hb]) | with_reducible (first | refine stp ?_ | refine pw_seq_opsK kl89 G_ok (fun K hK => ?_) | refine pw_ops G_ok (fun K hK => ?_)) | ((with_reducible first | apply CallK.eq); (focus (with_reducible first | exact rkSegment_ok l s hn hs | exact l1In_ok _ _ _)); (focus (first | exact rfl | (simp [RV.flat, D.sc, datI]; done))); try simp only [go_sem, hb]) | refine inBlockA_other (by decide) ?_ | (with_reducible refine pK_mk (fun hc => ?_) (fun hc => ?_) <;> (try simp only [go_sem, hb]) <;> (try simp at hc) <;> (try (exfalso; omega))) | ((first | refine pw_seq (pw_cond rfl (fun hc => ?_) (fun hc => ?_)) | refine pw_cond rfl (fun hc => ?_) (fun hc => ?_)) <;> (try simp at hc) <;> (try (exfalso; omega))) | with_reducible refine And.intro (by first | omega | (unfold inI; omega) | exact andI_inI _) ?_)
    all_goals (refine retQ_ret rfl rfl (by simp [rowsOf, lk]) ?_; first | (rw [e]; done) | (rw [e]; first | (simp_all; done) | (simp; omega)))
  · have hb := bP_false hv
    have e : bP (AskR l i s) = false := bP_false fun h => hv h.2
    repeat' (first | ((with_reducible first | refine execL_step (fun K' hK' => ?_)); (first | with_reducible refine s_none rfl ?_ | refine s_some2 rfl ?_); simp only [go_sem, hb]) | (with_reducible refine hK' _ ?_; clear hK' K') | (with_reducible refine hK _ ?_; clear hK K; try simp only [go_sem, hb]) | with_reducible (first | refine stp ?_ | refine pw_seq_opsK kl89 G_ok (fun K hK => ?_) | refine pw_ops G_ok (fun K hK => ?_)) | ((with_reducible first | apply CallK.eq); (focus (with_reducible first | exact rkSegment_ok l s hn hs | exact l1In_ok _ _ _)); (focus (first | exact rfl | (simp [RV.flat, D.sc, datI]; done))); try simp only [go_sem, hb]) | refine inBlockA_other (by decide) ?_ | (with_reducible refine pK_mk (fun hc => ?_) (fun hc => ?_) <;> (try simp only [go_sem, hb]) <;> (try simp at hc) <;> (try (exfalso; omega))) | ((first | refine pw_seq (pw_cond rfl (fun hc => ?_) (fun hc => ?_)) | refine pw_cond rfl (fun hc => ?_) (fun hc => ?_)) <;> (try simp at hc) <;> (try (exfalso; omega))) | with_reducible refine And.intro (by first | omega | (unfold inI; omega) | exact andI_inI _) ?_)
    all_goals (refine retQ_ret rfl rfl (by simp [rowsOf, lk]) ?_; rw [e])
def SetOk (l : List ResultD) (i s v : Int) : Prop := AskR l i s ∧ ResultsOk (wsD l i.toNat s.toNat v)
theorem AskR.at_ {l : List ResultD} {i s : Int} (h : AskR l i s) : ∃ x, l[i.toNat]? = some x ∧ s.toNat < x.scores.length := by
  obtain ⟨⟨_, h1, h2⟩, h3⟩ := h
  have hi : i.toNat < l.length := by omega
  exact ⟨_, List.getElem?_eq_getElem hi, (h3.score (List.getElem?_eq_getElem hi)).1⟩
theorem wsD_bd {l : List ResultD} {i s : Nat} {v : Int} (hs : ∀ r ∈ l, r.scores.length ≤ 1048576) : ∀ r ∈ wsD l i s v, r.scores.length ≤ 1048576 := by
  intro r hr
  unfold wsD at hr
  split at hr
  · rename_i x hx
    rcases List.mem_or_eq_of_mem_set hr with h | h
    · exact hs r h
    · subst h; simp only [wsR, List.length_set]; exact hs x (List.mem_of_getElem? hx)
  · exact hs r hr
theorem impl_SetScore_yes (l : List ResultD) (i s v : Int) (hn : l.length ≤ 1048576) (hs : ∀ r ∈ l, r.scores.length ≤ 1048576) (h : SetOk l i s v) : FnEq Try.prog 28 [.d (.lst 2 (l.map ResultD.dat)), .d (.int .i64 i), .d (.int .i64 s), .d (.int .i64 v)] [.deep 29 2 ((wsD l i.toNat s.toNat v).map ResultD.dat), .d (.bool true)] := by
  refine fn_ok G_ok Try.func28 rfl rfl ?_; simp only [Try.ntmps28, List.length_cons, List.length_nil, Nat.reduceAdd, Nat.reduceSub, enm]
  obtain ⟨x, hx, hxs⟩ := h.1.at_
  have h1 := bP_true h.1.1
  have h2 := bP_true h.1.2
  have h3 := bP_true h.2
  have ei : ((i.toNat : Nat) : Int) = i := by have := h.1.1.2.1; omega
  have es : ((s.toNat : Nat) : Int) = s := by have := h.1.2.2.2.1; omega
  have hwl := wsD_len l i.toNat s.toNat v
  have hw := withScore_ok l i.toNat s.toNat v x hx hxs hn hs
  rw [ei, es] at hw
  have ha := AreResults_ok (wsD l i.toNat s.toNat v) (by omega) (wsD_bd hs)
  repeat' (first | ((with_reducible first | refine execL_step (fun K' hK' => ?_)); (first | with_reducible refine s_none rfl ?_ | refine s_some2 rfl ?_); simp only [go_sem, h1, h2, h3, hwl]) | (with_reducible refine hK' _ ?_; clear hK' K') | (with_reducible refine hK _ ?_; clear hK K; try simp only [go_sem, h1, h2, h3, hwl]) | with_reducible (first | refine stp ?_ | refine pw_seq_opsK kl28 G_ok (fun K hK => ?_) | refine pw_ops G_ok (fun K hK => ?_)) | ((with_reducible first | apply CallK.eq); (focus (with_reducible first | exact hasResult_ok l i hn hs | exact hasSegment_ok l s hn hs | exact hw | exact ha)); (focus (first | exact rfl | (simp [RV.flat, D.sc, datI]; done))); try simp only [go_sem, h1, h2, h3, hwl]) | refine inBlockA_other (by decide) ?_ | (with_reducible refine pK_mk (fun hc => ?_) (fun hc => ?_) <;> (try simp only [go_sem, h1, h2, h3, hwl]) <;> (try simp at hc) <;> (try (exfalso; omega))) | ((first | refine pw_seq (pw_cond rfl (fun hc => ?_) (fun hc => ?_)) | refine pw_cond rfl (fun hc => ?_) (fun hc => ?_)) <;> (try simp at hc) <;> (try (exfalso; omega))) | with_reducible refine And.intro (by first | omega | (unfold inI; omega) | exact andI_inI _) ?_)
  refine retQ_ret rfl (by simp only [hwl, retL, ret1, hget, lk, List.length_map, List.length_nil, List.length_append, List.length_take, if_true, if_false, Nat.reduceEqDiff, Nat.reduceBEq, Bool.false_eq_true, Option.some.injEq]; rfl) (by simp [rowsOf, lk]) ?_; rfl
theorem impl_SetScore_no (l : List ResultD) (i s v : Int) (hn : l.length ≤ 1048576) (hs : ∀ r ∈ l, r.scores.length ≤ 1048576) (h : ¬ SetOk l i s v) : FnEq Try.prog 28 [.d (.lst 2 (l.map ResultD.dat)), .d (.int .i64 i), .d (.int .i64 s), .d (.int .i64 v)] [.row 29 2 [], .d (.bool false)] := by
  refine fn_ok G_ok Try.func28 rfl rfl ?_; simp only [Try.ntmps28, List.length_cons, List.length_nil, Nat.reduceAdd, Nat.reduceSub, enm]
  by_cases hr : HasR l i
  · have h1 := bP_true hr
    by_cases hg : SegOk l s
    · have h2 := bP_true hg
      have hask : AskR l i s := ⟨hr, hg⟩
      obtain ⟨x, hx, hxs⟩ := hask.at_
      have h3 : bP (ResultsOk (wsD l i.toNat s.toNat v)) = false := bP_false fun h' => h ⟨hask, h'⟩
      have ei : ((i.toNat : Nat) : Int) = i := by have := hr.2.1; omega
      have es : ((s.toNat : Nat) : Int) = s := by have := hg.2.2.1; omega
      have hwl := wsD_len l i.toNat s.toNat v
      have hw := withScore_ok l i.toNat s.toNat v x hx hxs hn hs
      rw [ei, es] at hw
      have ha := AreResults_ok (wsD l i.toNat s.toNat v) (by omega) (wsD_bd hs)
      repeat' (first | ((with_reducible first | refine execL_step (fun K' hK' => ?_)); (first | with_reducible refine s_none rfl ?_ | refine s_some2 rfl ?_); simp only [go_sem, h1, h2, h3, hwl]) | (with_reducible refine hK' _ ?_; clear hK' K') | (with_reducible refine hK _ ?_; clear hK K; try simp only [go_sem, h1, h2, h3, hwl]) | with_reducible (first | refine stp ?_ | refine pw_seq_opsK kl28 G_ok (fun K hK => ?_) | refine pw_ops G_ok (fun K hK => ?_)) | ((with_reducible first | apply CallK.eq); (focus (with_reducible first | exact hasResult_ok l i hn hs | exact hasSegment_ok l s hn hs | exact hw | exact ha)); (focus (first | exact rfl | (simp [RV.flat, D.sc, datI]; done))); try simp only [go_sem, h1, h2, h3, hwl]) | refine inBlockA_other (by decide) ?_ | (with_reducible refine pK_mk (fun hc => ?_) (fun hc => ?_) <;> (try simp only [go_sem, h1, h2, h3, hwl]) <;> (try simp at hc) <;> (try (exfalso; omega))) | ((first | refine pw_seq (pw_cond rfl (fun hc => ?_) (fun hc => ?_)) | refine pw_cond rfl (fun hc => ?_) (fun hc => ?_)) <;> (try simp at hc) <;> (try (exfalso; omega))) | with_reducible refine And.intro (by first | omega | (unfold inI; omega) | exact andI_inI _) ?_)
      refine retQ_ret rfl (by simp only [retL, ret1, hget, lk, List.length_map, List.length_nil, List.length_append, List.length_take, if_true, if_false, Nat.reduceEqDiff, Nat.reduceBEq, Bool.false_eq_true, Option.some.injEq]; rfl) (by simp [rowsOf, lk]) ?_; rfl
    · have h2 := bP_false hg
      repeat' (first | ((with_reducible first | refine execL_step (fun K' hK' => ?_)); (first | with_reducible refine s_none rfl ?_ | refine s_some2 rfl ?_); simp only [go_sem, h1, h2]) | (with_reducible refine hK' _ ?_; clear hK' K') | (with_reducible refine hK _ ?_; clear hK K; try simp only [go_sem, h1, h2]) | with_reducible (first | refine stp ?_ | refine pw_seq_opsK kl28 G_ok (fun K hK => ?_) | refine pw_ops G_ok (fun K hK => ?_)) | ((with_reducible first | apply CallK.eq); (focus (with_reducible first | exact hasResult_ok l i hn hs | exact hasSegment_ok l s hn hs)); (focus (first | exact rfl | (simp [RV.flat, D.sc, datI]; done))); try simp only [go_sem, h1, h2]) | refine inBlockA_other (by decide) ?_ | (with_reducible refine pK_mk (fun hc => ?_) (fun hc => ?_) <;> (try simp only [go_sem, h1, h2]) <;> (try simp at hc) <;> (try (exfalso; omega))) | ((first | refine pw_seq (pw_cond rfl (fun hc => ?_) (fun hc => ?_)) | refine pw_cond rfl (fun hc => ?_) (fun hc => ?_)) <;> (try simp at hc) <;> (try (exfalso; omega))) | with_reducible refine And.intro (by first | omega | (unfold inI; omega) | exact andI_inI _) ?_)
      refine retQ_ret rfl (by simp only [retL, ret1, hget, lk, List.length_map, List.length_nil, List.length_append, List.length_take, if_true, if_false, Nat.reduceEqDiff, Nat.reduceBEq, Bool.false_eq_true, Option.some.injEq]; rfl) (by simp [rowsOf, lk]) ?_; rfl
  · have h1 := bP_false hr
    repeat' (first | ((with_reducible first | refine execL_step (fun K' hK' => ?_)); (first | with_reducible refine s_none rfl ?_ | refine s_some2 rfl ?_); simp only [go_sem, h1]) | (with_reducible refine hK' _ ?_; clear hK' K') | (with_reducible refine hK _ ?_; clear hK K; try simp only [go_sem, h1]) | with_reducible (first | refine stp ?_ | refine pw_seq_opsK kl28 G_ok (fun K hK => ?_) | refine pw_ops G_ok (fun K hK => ?_)) | ((with_reducible first | apply CallK.eq); (focus (with_reducible first | exact hasResult_ok l i hn hs)); (focus (first | exact rfl | (simp [RV.flat, D.sc, datI]; done))); try simp only [go_sem, h1]) | refine inBlockA_other (by decide) ?_ | (with_reducible refine pK_mk (fun hc => ?_) (fun hc => ?_) <;> (try simp only [go_sem, h1]) <;> (try simp at hc) <;> (try (exfalso; omega))) | ((first | refine pw_seq (pw_cond rfl (fun hc => ?_) (fun hc => ?_)) | refine pw_cond rfl (fun hc => ?_) (fun hc => ?_)) <;> (try simp at hc) <;> (try (exfalso; omega))) | with_reducible refine And.intro (by first | omega | (unfold inI; omega) | exact andI_inI _) ?_)
    refine retQ_ret rfl (by simp only [retL, ret1, hget, lk, List.length_map, List.length_nil, List.length_append, List.length_take, if_true, if_false, Nat.reduceEqDiff, Nat.reduceBEq, Bool.false_eq_true, Option.some.injEq]; rfl) (by simp [rowsOf, lk]) ?_; rfl
theorem spec_SetScore_yes (l : List ResultD) (i s v : Int) (hn : l.length ≤ 1048576) (hs : ∀ r ∈ l, r.scores.length ≤ 1048576) (h : SetOk l i s v) : FnEq Try.prog 29 [.d (.lst 2 (l.map ResultD.dat)), .d (.int .i64 i), .d (.int .i64 s), .d (.int .i64 v)] [.deep 29 2 ((wsD l i.toNat s.toNat v).map ResultD.dat), .d (.bool true)] := by
  refine fn_ok G_ok Try.func29 rfl rfl ?_; simp only [Try.ntmps29, List.length_cons, List.length_nil, Nat.reduceAdd, Nat.reduceSub, enm]
  obtain ⟨x, hx, hxs⟩ := h.1.at_
  have h1 := bP_true h.1
  have h3 := bP_true h.2
  have ei : ((i.toNat : Nat) : Int) = i := by have := h.1.1.2.1; omega
  have es : ((s.toNat : Nat) : Int) = s := by have := h.1.2.2.2.1; omega
  have hwl := wsD_len l i.toNat s.toNat v
  have hw := rkWith_ok l i.toNat s.toNat v x hx hxs hn hs
  rw [ei, es] at hw
  have ha := rkGood_ok (wsD l i.toNat s.toNat v) (by omega) (wsD_bd hs)
  repeat' (first | ((with_reducible first | refine execL_step (fun K' hK' => ?_)); (first | with_reducible refine s_none rfl ?_ | refine s_some2 rfl ?_); simp only [go_sem, h1, h3, hwl]) | (with_reducible refine hK' _ ?_; clear hK' K') | (with_reducible refine hK _ ?_; clear hK K; try simp only [go_sem, h1, h3, hwl]) | with_reducible (first | refine stp ?_ | refine pw_seq_opsK kl29 G_ok (fun K hK => ?_) | refine pw_ops G_ok (fun K hK => ?_)) | ((with_reducible first | apply CallK.eq); (focus (with_reducible first | exact rkAsked_ok l i s hn hs | exact hw | exact ha)); (focus (first | exact rfl | (simp [RV.flat, D.sc, datI]; done))); try simp only [go_sem, h1, h3, hwl]) | refine inBlockA_other (by decide) ?_ | (with_reducible refine pK_mk (fun hc => ?_) (fun hc => ?_) <;> (try simp only [go_sem, h1, h3, hwl]) <;> (try simp at hc) <;> (try (exfalso; omega))) | ((first | refine pw_seq (pw_cond rfl (fun hc => ?_) (fun hc => ?_)) | refine pw_cond rfl (fun hc => ?_) (fun hc => ?_)) <;> (try simp at hc) <;> (try (exfalso; omega))) | with_reducible refine And.intro (by first | omega | (unfold inI; omega) | exact andI_inI _) ?_)
  refine retQ_ret rfl (by simp only [hwl, retL, ret1, hget, lk, List.length_map, List.length_nil, List.length_append, List.length_take, if_true, if_false, Nat.reduceEqDiff, Nat.reduceBEq, Bool.false_eq_true, Option.some.injEq]; rfl) (by simp [rowsOf, lk]) ?_; rfl
theorem spec_SetScore_no (l : List ResultD) (i s v : Int) (hn : l.length ≤ 1048576) (hs : ∀ r ∈ l, r.scores.length ≤ 1048576) (h : ¬ SetOk l i s v) : FnEq Try.prog 29 [.d (.lst 2 (l.map ResultD.dat)), .d (.int .i64 i), .d (.int .i64 s), .d (.int .i64 v)] [.row 29 2 [], .d (.bool false)] := by
  refine fn_ok G_ok Try.func29 rfl rfl ?_; simp only [Try.ntmps29, List.length_cons, List.length_nil, Nat.reduceAdd, Nat.reduceSub, enm]
  by_cases hask : AskR l i s
  · have h1 := bP_true hask
    obtain ⟨x, hx, hxs⟩ := hask.at_
    have h3 : bP (ResultsOk (wsD l i.toNat s.toNat v)) = false := bP_false fun h' => h ⟨hask, h'⟩
    have ei : ((i.toNat : Nat) : Int) = i := by have := hask.1.2.1; omega
    have es : ((s.toNat : Nat) : Int) = s := by have := hask.2.2.2.1; omega
    have hwl := wsD_len l i.toNat s.toNat v
    have hw := rkWith_ok l i.toNat s.toNat v x hx hxs hn hs
    rw [ei, es] at hw
    have ha := rkGood_ok (wsD l i.toNat s.toNat v) (by omega) (wsD_bd hs)
    repeat' (first | ((with_reducible first | refine execL_step (fun K' hK' => ?_)); (first | with_reducible refine s_none rfl ?_ | refine s_some2 rfl ?_); simp only [go_sem, h1, h3, hwl]) | (with_reducible refine hK' _ ?_; clear hK' K') | (with_reducible refine hK _ ?_; clear hK K; try simp only [go_sem, h1, h3, hwl]) | with_reducible (first | refine stp ?_ | refine pw_seq_opsK kl29 G_ok (fun K hK => ?_) | refine pw_ops G_ok (fun K hK => ?_)) | ((with_reducible first | apply CallK.eq); (focus (with_reducible first | exact rkAsked_ok l i s hn hs | exact hw | exact ha)); (focus (first | exact rfl | (simp [RV.flat, D.sc, datI]; done))); try simp only [go_sem, h1, h3, hwl]) | refine inBlockA_other (by decide) ?_ | (with_reducible refine pK_mk (fun hc => ?_) (fun hc => ?_) <;> (try simp only [go_sem, h1, h3, hwl]) <;> (try simp at hc) <;> (try (exfalso; omega))) | ((first | refine pw_seq (pw_cond rfl (fun hc => ?_) (fun hc => ?_)) | refine pw_cond rfl (fun hc => ?_) (fun hc => ?_)) <;> (try simp at hc) <;> (try (exfalso; omega))) | with_reducible refine And.intro (by first | omega | (unfold inI; omega) | exact andI_inI _) ?_)
    refine retQ_ret rfl (by simp only [retL, ret1, hget, lk, List.length_map, List.length_nil, List.length_append, List.length_take, if_true, if_false, Nat.reduceEqDiff, Nat.reduceBEq, Bool.false_eq_true, Option.some.injEq]; rfl) (by simp [rowsOf, lk]) ?_; rfl
  · have h1 := bP_false hask
    repeat' (first | ((with_reducible first | refine execL_step (fun K' hK' => ?_)); (first | with_reducible refine s_none rfl ?_ | refine s_some2 rfl ?_); simp only [go_sem, h1]) | (with_reducible refine hK' _ ?_; clear hK' K') | (with_reducible refine hK _ ?_; clear hK K; try simp only [go_sem, h1]) | with_reducible (first | refine stp ?_ | refine pw_seq_opsK kl29 G_ok (fun K hK => ?_) | refine pw_ops G_ok (fun K hK => ?_)) | ((with_reducible first | apply CallK.eq); (focus (with_reducible first | exact rkAsked_ok l i s hn hs)); (focus (first | exact rfl | (simp [RV.flat, D.sc, datI]; done))); try simp only [go_sem, h1]) | refine inBlockA_other (by decide) ?_ | (with_reducible refine pK_mk (fun hc => ?_) (fun hc => ?_) <;> (try simp only [go_sem, h1]) <;> (try simp at hc) <;> (try (exfalso; omega))) | ((first | refine pw_seq (pw_cond rfl (fun hc => ?_) (fun hc => ?_)) | refine pw_cond rfl (fun hc => ?_) (fun hc => ?_)) <;> (try simp at hc) <;> (try (exfalso; omega))) | with_reducible refine And.intro (by first | omega | (unfold inI; omega) | exact andI_inI _) ?_)
    refine retQ_ret rfl (by simp only [retL, ret1, hget, lk, List.length_map, List.length_nil, List.length_append, List.length_take, if_true, if_false, Nat.reduceEqDiff, Nat.reduceBEq, Bool.false_eq_true, Option.some.injEq]; rfl) (by simp [rowsOf, lk]) ?_; rfl
end Go.Proofs.Ythkkpiodligmiaa
