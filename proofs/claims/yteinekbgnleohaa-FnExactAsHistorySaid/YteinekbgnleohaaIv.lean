/-
  Inquiries: AreInquiries, ItemsAfter, AsHistory, the program's functions and the reference's, in the abstract machine.
-/
import Derived.Test.YteinekbgnleohaaIr
import Derived.Test.YteinekbgnleohaaMc
set_option linter.unusedSimpArgs false
set_option linter.unusedVariables false
set_option maxHeartbeats 2000000
set_option maxRecDepth 100000
namespace Go.Proofs.Yteinekbgnleohaa
open Go.ChangeShapes Go.WideShapes Go.ChangeAt Go.RowKit Go.Deep

theorem rvI_data (l : List ItemD) : (rvI l).data = .d (.lst 3 (l.map ItemD.dat)) := by
  unfold rvI
  split
  · rename_i h; rw [List.length_eq_zero_iff.1 h]; rfl
  · rfl
theorem eq_dataI {P : Program} {f : FuncId} {args : List PV} {rs : List RV} (h : FnEq P f args rs) : FnEq P f args (rs.map RV.data) := FnOK.data (h.mono fun _ e => by rw [e])
noncomputable def iqW (l : List ItemD) (q : List InquiryD) : List ItemD := if bP (InqsOk l q) = true then itTo l q q.length else []
theorem iqW_len (l : List ItemD) (q : List InquiryD) : (iqW l q).length ≤ l.length := by
  unfold iqW
  split
  · rw [itTo_len]; exact Nat.le_refl _
  · exact Nat.zero_le _
theorem decR_data (l : List ItemD) (q : List InquiryD) : (decR l q).map RV.data = [.d (.lst 3 ((iqW l q).map ItemD.dat)), .d (.bool (bP (InqsOk l q ∧ q.length ≤ 20)))] := by
  by_cases h : InqsOk l q
  · have e : bP (InqsOk l q ∧ q.length ≤ 20) = decide ((q.length : Int) ≤ 20) := by
      rw [Bool.eq_iff_iff, bP_iff, decide_eq_true_eq]; exact ⟨fun h => by omega, fun h' => ⟨h, by omega⟩⟩
    rw [decR_yes h, iqW, if_pos (bP_true h), e]
    simp only [List.map_cons, List.map_nil, rvI_data]
    rfl
  · rw [decR_no h, iqW, if_neg (by rw [bP_false h]; simp), bP_false fun h' => h h'.1]
    rfl
noncomputable def ansAreInquiries (l : List ItemD) (q : List InquiryD) : Option Bool := optP (ItsOk l) (bP (InqsOk l q ∧ q.length ≤ 20))
theorem impl_AreInquiries_ok (xs0 : List ItemD) (xs1 : List InquiryD) (hl0 : xs0.length ≤ 1048576) (hk0 : ∀ r ∈ xs0, ItFit 1048576 r) (hl1 : xs1.length ≤ 1048576) : FnEq Try.prog 11 [.d (.lst 3 (xs0.map ItemD.dat)), .d (.lst 5 (xs1.map InquiryD.dat))] [.d (.bool ((ansAreInquiries xs0 xs1).getD false)), .d (.bool (ansAreInquiries xs0 xs1).isSome)] := by
  have hk63 : ∀ r ∈ xs0, ItFit 9223372036854775807 r := fun r hr => (hk0 r hr).mono (by decide)
  have hn63 : xs0.length ≤ 9223372036854775807 := by omega
  have hq63 : xs1.length ≤ 9223372036854775807 := by omega
  refine fn_ok G_ok Try.func11 rfl rfl ?_; simp only [Try.ntmps11, List.length_cons, List.length_nil, Nat.reduceAdd, Nat.reduceSub, enm]
  by_cases hv : ItsOk xs0
  · have hb := bP_true hv
    have hd := eq_dataI (decided_ok xs0 xs1 hl0 hk0 hv hq63)
    rw [decR_data] at hd
    rw [show ansAreInquiries xs0 xs1 = _ from optP_pos hv]
    repeat' (first | ((with_reducible first | refine execL_step (fun K' hK' => ?_)); (first | with_reducible refine s_none rfl ?_ | refine s_some2 rfl ?_); simp only [go_sem, hb]) | (with_reducible refine hK' _ ?_; clear hK' K') | (with_reducible refine hK _ ?_; clear hK K; try simp only [go_sem, hb]) | with_reducible (first | refine stp ?_ | refine pw_seq_opsK kl11 G_ok (fun K hK => ?_) | refine pw_ops G_ok (fun K hK => ?_)) | ((with_reducible first | apply CallK.eq); (focus (with_reducible first | exact AreItems_ok xs0 hn63 hk63 | exact hd)); (focus (first | exact rfl | (simp [RV.flat, D.sc, datI]; done))); try simp only [go_sem, hb]) | refine inBlockA_other (by decide) ?_ | (with_reducible refine pK_mk (fun hc => ?_) (fun hc => ?_) <;> (try simp only [go_sem, hb]) <;> (try simp at hc) <;> (try (exfalso; omega))) | ((first | refine pw_seq (pw_cond rfl (fun hc => ?_) (fun hc => ?_)) | refine pw_cond rfl (fun hc => ?_) (fun hc => ?_)) <;> (try simp at hc) <;> (try (exfalso; omega))) | with_reducible refine And.intro (by first | omega | (unfold inI; omega) | exact andI_inI _) ?_)
    refine retQ_ret rfl rfl (by simp [rowsOf, lk]) ?_; rfl
  · have hb := bP_false hv
    rw [show ansAreInquiries xs0 xs1 = _ from optP_neg hv]
    repeat' (first | ((with_reducible first | refine execL_step (fun K' hK' => ?_)); (first | with_reducible refine s_none rfl ?_ | refine s_some2 rfl ?_); simp only [go_sem, hb]) | (with_reducible refine hK' _ ?_; clear hK' K') | (with_reducible refine hK _ ?_; clear hK K; try simp only [go_sem, hb]) | with_reducible (first | refine stp ?_ | refine pw_seq_opsK kl11 G_ok (fun K hK => ?_) | refine pw_ops G_ok (fun K hK => ?_)) | ((with_reducible first | apply CallK.eq); (focus (with_reducible first | exact AreItems_ok xs0 hn63 hk63)); (focus (first | exact rfl | (simp [RV.flat, D.sc, datI]; done))); try simp only [go_sem, hb]) | refine inBlockA_other (by decide) ?_ | (with_reducible refine pK_mk (fun hc => ?_) (fun hc => ?_) <;> (try simp only [go_sem, hb]) <;> (try simp at hc) <;> (try (exfalso; omega))) | ((first | refine pw_seq (pw_cond rfl (fun hc => ?_) (fun hc => ?_)) | refine pw_cond rfl (fun hc => ?_) (fun hc => ?_)) <;> (try simp at hc) <;> (try (exfalso; omega))) | with_reducible refine And.intro (by first | omega | (unfold inI; omega) | exact andI_inI _) ?_)
    refine retQ_ret rfl rfl (by simp [rowsOf, lk]) ?_; rfl
theorem spec_AreInquiries_ok (xs0 : List ItemD) (xs1 : List InquiryD) (hl0 : xs0.length ≤ 1048576) (hk0 : ∀ r ∈ xs0, ItFit 1048576 r) (hl1 : xs1.length ≤ 1048576) : FnEq Try.prog 8 [.d (.lst 3 (xs0.map ItemD.dat)), .d (.lst 5 (xs1.map InquiryD.dat))] [.d (.bool ((ansAreInquiries xs0 xs1).getD false)), .d (.bool (ansAreInquiries xs0 xs1).isSome)] := by
  have hk63 : ∀ r ∈ xs0, ItFit 9223372036854775807 r := fun r hr => (hk0 r hr).mono (by decide)
  have hn63 : xs0.length ≤ 9223372036854775807 := by omega
  have hq63 : xs1.length ≤ 9223372036854775807 := by omega
  refine fn_ok G_ok Try.func8 rfl rfl ?_; simp only [Try.ntmps8, List.length_cons, List.length_nil, Nat.reduceAdd, Nat.reduceSub, enm]
  by_cases hv : ItsOk xs0
  · have hb := bP_true hv
    have hd := eq_dataI (iqRun_ok xs0 xs1 hl0 hk0 hv hq63)
    rw [decR_data] at hd
    rw [show ansAreInquiries xs0 xs1 = _ from optP_pos hv]
    repeat' (first | ((with_reducible first | refine execL_step (fun K' hK' => ?_)); (first | with_reducible refine s_none rfl ?_ | refine s_some2 rfl ?_); simp only [go_sem, hb]) | (with_reducible refine hK' _ ?_; clear hK' K') | (with_reducible refine hK _ ?_; clear hK K; try simp only [go_sem, hb]) | with_reducible (first | refine stp ?_ | refine pw_seq_opsK kl8 G_ok (fun K hK => ?_) | refine pw_ops G_ok (fun K hK => ?_)) | ((with_reducible first | apply CallK.eq); (focus (with_reducible first | exact itList_ok xs0 hn63 hk63 | exact hd)); (focus (first | exact rfl | (simp [RV.flat, D.sc, datI]; done))); try simp only [go_sem, hb]) | refine inBlockA_other (by decide) ?_ | (with_reducible refine pK_mk (fun hc => ?_) (fun hc => ?_) <;> (try simp only [go_sem, hb]) <;> (try simp at hc) <;> (try (exfalso; omega))) | ((first | refine pw_seq (pw_cond rfl (fun hc => ?_) (fun hc => ?_)) | refine pw_cond rfl (fun hc => ?_) (fun hc => ?_)) <;> (try simp at hc) <;> (try (exfalso; omega))) | with_reducible refine And.intro (by first | omega | (unfold inI; omega) | exact andI_inI _) ?_)
    refine retQ_ret rfl rfl (by simp [rowsOf, lk]) ?_; rfl
  · have hb := bP_false hv
    rw [show ansAreInquiries xs0 xs1 = _ from optP_neg hv]
    repeat' (first | ((with_reducible first | refine execL_step (fun K' hK' => ?_)); (first | with_reducible refine s_none rfl ?_ | refine s_some2 rfl ?_); simp only [go_sem, hb]) | (with_reducible refine hK' _ ?_; clear hK' K') | (with_reducible refine hK _ ?_; clear hK K; try simp only [go_sem, hb]) | with_reducible (first | refine stp ?_ | refine pw_seq_opsK kl8 G_ok (fun K hK => ?_) | refine pw_ops G_ok (fun K hK => ?_)) | ((with_reducible first | apply CallK.eq); (focus (with_reducible first | exact itList_ok xs0 hn63 hk63)); (focus (first | exact rfl | (simp [RV.flat, D.sc, datI]; done))); try simp only [go_sem, hb]) | refine inBlockA_other (by decide) ?_ | (with_reducible refine pK_mk (fun hc => ?_) (fun hc => ?_) <;> (try simp only [go_sem, hb]) <;> (try simp at hc) <;> (try (exfalso; omega))) | ((first | refine pw_seq (pw_cond rfl (fun hc => ?_) (fun hc => ?_)) | refine pw_cond rfl (fun hc => ?_) (fun hc => ?_)) <;> (try simp at hc) <;> (try (exfalso; omega))) | with_reducible refine And.intro (by first | omega | (unfold inI; omega) | exact andI_inI _) ?_)
    refine retQ_ret rfl rfl (by simp [rowsOf, lk]) ?_; rfl

/-- items after inquiries -/
def IaOk (l : List ItemD) (q : List InquiryD) : Prop := ItsOk l ∧ InqsOk l q ∧ q.length ≤ 20
noncomputable def iaR (l : List ItemD) (q : List InquiryD) : List RV := if bP (IaOk l q) = true then [rvI (itTo l q q.length), .d (.bool true)] else [.row 50 3 [], .d (.bool false)]
theorem iaR_yes {l : List ItemD} {q : List InquiryD} (h : IaOk l q) : iaR l q = [rvI (itTo l q q.length), .d (.bool true)] := if_pos (bP_true h)
theorem iaR_no {l : List ItemD} {q : List InquiryD} (h : ¬ IaOk l q) : iaR l q = [.row 50 3 [], .d (.bool false)] := if_neg (by rw [bP_false h]; simp)
noncomputable def iaW (l : List ItemD) (q : List InquiryD) : List ItemD := if bP (IaOk l q) = true then itTo l q q.length else []
theorem iaR_data (l : List ItemD) (q : List InquiryD) : (iaR l q).map RV.data = [.d (.lst 3 ((iaW l q).map ItemD.dat)), .d (.bool (bP (IaOk l q)))] := by
  by_cases h : IaOk l q
  · rw [iaR_yes h, iaW, if_pos (bP_true h), bP_true h]
    simp only [List.map_cons, List.map_nil, rvI_data]
    rfl
  · rw [iaR_no h, iaW, if_neg (by rw [bP_false h]; simp), bP_false h]
    rfl
theorem impl_ItemsAfter_ok (l : List ItemD) (q : List InquiryD) (hn : l.length ≤ 1048576) (hs : ∀ r ∈ l, ItFit 1048576 r) (hq : q.length ≤ 1048576) : FnEq Try.prog 15 [.d (.lst 3 (l.map ItemD.dat)), .d (.lst 5 (q.map InquiryD.dat))] (iaR l q) := by
  have hk63 : ∀ r ∈ l, ItFit 9223372036854775807 r := fun r hr => (hs r hr).mono (by decide)
  have hn63 : l.length ≤ 9223372036854775807 := by omega
  have hq63 : q.length ≤ 9223372036854775807 := by omega
  have hil := itTo_len l q q.length
  refine fn_ok G_ok Try.func15 rfl rfl ?_; simp only [Try.ntmps15, List.length_cons, List.length_nil, Nat.reduceAdd, Nat.reduceSub, enm]
  by_cases hv : ItsOk l
  · have hb := bP_true hv
    have hd := decided_ok l q hn hs hv hq63
    by_cases hi : InqsOk l q
    · rw [decR_yes hi] at hd
      by_cases hc20 : q.length ≤ 20
      · have h20 : decide ((q.length : Int) ≤ 20) = true := decide_eq_true (by omega)
        rw [iaR_yes ⟨hv, hi, hc20⟩]
        rw [h20] at hd
        by_cases h0 : (itTo l q q.length).length = 0
        · rw [show rvI (itTo l q q.length) = _ from if_pos h0] at hd ⊢
          repeat' (first | ((with_reducible first | refine execL_step (fun K' hK' => ?_)); (first | with_reducible refine s_none rfl ?_ | refine s_some2 rfl ?_); simp only [go_sem, hb]) | (with_reducible refine hK' _ ?_; clear hK' K') | (with_reducible refine hK _ ?_; clear hK K; try simp only [go_sem, hb]) | with_reducible (first | refine stp ?_ | refine pw_seq_opsK kl15 G_ok (fun K hK => ?_) | refine pw_ops G_ok (fun K hK => ?_)) | ((with_reducible first | apply CallK.eq); (focus (with_reducible first | exact AreItems_ok l hn63 hk63 | exact hd)); (focus (first | exact rfl | (simp [RV.flat, D.sc, datI]; done))); try simp only [go_sem, hb]) | refine inBlockA_other (by decide) ?_ | (with_reducible refine pK_mk (fun hc => ?_) (fun hc => ?_) <;> (try simp only [go_sem, hb]) <;> (try simp at hc) <;> (try (exfalso; omega))) | ((first | refine pw_seq (pw_cond rfl (fun hc => ?_) (fun hc => ?_)) | refine pw_cond rfl (fun hc => ?_) (fun hc => ?_)) <;> (try simp at hc) <;> (try (exfalso; omega))) | with_reducible refine And.intro (by first | omega | (unfold inI; omega) | exact andI_inI _) ?_)
          refine retQ_ret rfl (by simp only [List.length_nil, retL, ret1, hget, lk, List.length_map, List.length_nil, List.length_append, List.length_take, if_true, if_false, Nat.reduceEqDiff, Nat.reduceBEq, Bool.false_eq_true, Option.some.injEq]; rfl) (by simp [rowsOf, lk]) ?_; rfl
        · rw [show rvI (itTo l q q.length) = _ from if_neg h0] at hd ⊢
          repeat' (first | ((with_reducible first | refine execL_step (fun K' hK' => ?_)); (first | with_reducible refine s_none rfl ?_ | refine s_some2 rfl ?_); simp only [go_sem, hb]) | (with_reducible refine hK' _ ?_; clear hK' K') | (with_reducible refine hK _ ?_; clear hK K; try simp only [go_sem, hb]) | with_reducible (first | refine stp ?_ | refine pw_seq_opsK kl15 G_ok (fun K hK => ?_) | refine pw_ops G_ok (fun K hK => ?_)) | ((with_reducible first | apply CallK.eq); (focus (with_reducible first | exact AreItems_ok l hn63 hk63 | exact hd)); (focus (first | exact rfl | (simp [RV.flat, D.sc, datI]; done))); try simp only [go_sem, hb]) | refine inBlockA_other (by decide) ?_ | (with_reducible refine pK_mk (fun hc => ?_) (fun hc => ?_) <;> (try simp only [go_sem, hb]) <;> (try simp at hc) <;> (try (exfalso; omega))) | ((first | refine pw_seq (pw_cond rfl (fun hc => ?_) (fun hc => ?_)) | refine pw_cond rfl (fun hc => ?_) (fun hc => ?_)) <;> (try simp at hc) <;> (try (exfalso; omega))) | with_reducible refine And.intro (by first | omega | (unfold inI; omega) | exact andI_inI _) ?_)
          refine retQ_ret rfl (by simp only [hil, retL, ret1, hget, lk, List.length_map, List.length_nil, List.length_append, List.length_take, if_true, if_false, Nat.reduceEqDiff, Nat.reduceBEq, Bool.false_eq_true, Option.some.injEq]; rfl) (by simp [rowsOf, lk]) ?_; rfl
      · have h20 : decide ((q.length : Int) ≤ 20) = false := decide_eq_false (by omega)
        rw [iaR_no fun h => hc20 h.2.2]
        have hd := eq_dataI hd
        simp only [List.map_cons, List.map_nil, rvI_data, RV.data] at hd
        rw [h20] at hd
        repeat' (first | ((with_reducible first | refine execL_step (fun K' hK' => ?_)); (first | with_reducible refine s_none rfl ?_ | refine s_some2 rfl ?_); simp only [go_sem, hb]) | (with_reducible refine hK' _ ?_; clear hK' K') | (with_reducible refine hK _ ?_; clear hK K; try simp only [go_sem, hb]) | with_reducible (first | refine stp ?_ | refine pw_seq_opsK kl15 G_ok (fun K hK => ?_) | refine pw_ops G_ok (fun K hK => ?_)) | ((with_reducible first | apply CallK.eq); (focus (with_reducible first | exact AreItems_ok l hn63 hk63 | exact hd)); (focus (first | exact rfl | (simp [RV.flat, D.sc, datI]; done))); try simp only [go_sem, hb]) | refine inBlockA_other (by decide) ?_ | (with_reducible refine pK_mk (fun hc => ?_) (fun hc => ?_) <;> (try simp only [go_sem, hb]) <;> (try simp at hc) <;> (try (exfalso; omega))) | ((first | refine pw_seq (pw_cond rfl (fun hc => ?_) (fun hc => ?_)) | refine pw_cond rfl (fun hc => ?_) (fun hc => ?_)) <;> (try simp at hc) <;> (try (exfalso; omega))) | with_reducible refine And.intro (by first | omega | (unfold inI; omega) | exact andI_inI _) ?_)
        refine retQ_ret rfl (by simp only [List.length_nil, retL, ret1, hget, lk, List.length_map, List.length_nil, List.length_append, List.length_take, if_true, if_false, Nat.reduceEqDiff, Nat.reduceBEq, Bool.false_eq_true, Option.some.injEq]; rfl) (by simp [rowsOf, lk]) ?_; rfl
    · rw [decR_no hi] at hd
      rw [iaR_no fun h => hi h.2.1]
      have hd := eq_dataI hd
      simp only [List.map_cons, List.map_nil, RV.data] at hd
      repeat' (first | ((with_reducible first | refine execL_step (fun K' hK' => ?_)); (first | with_reducible refine s_none rfl ?_ | refine s_some2 rfl ?_); simp only [go_sem, hb]) | (with_reducible refine hK' _ ?_; clear hK' K') | (with_reducible refine hK _ ?_; clear hK K; try simp only [go_sem, hb]) | with_reducible (first | refine stp ?_ | refine pw_seq_opsK kl15 G_ok (fun K hK => ?_) | refine pw_ops G_ok (fun K hK => ?_)) | ((with_reducible first | apply CallK.eq); (focus (with_reducible first | exact AreItems_ok l hn63 hk63 | exact hd)); (focus (first | exact rfl | (simp [RV.flat, D.sc, datI]; done))); try simp only [go_sem, hb]) | refine inBlockA_other (by decide) ?_ | (with_reducible refine pK_mk (fun hc => ?_) (fun hc => ?_) <;> (try simp only [go_sem, hb]) <;> (try simp at hc) <;> (try (exfalso; omega))) | ((first | refine pw_seq (pw_cond rfl (fun hc => ?_) (fun hc => ?_)) | refine pw_cond rfl (fun hc => ?_) (fun hc => ?_)) <;> (try simp at hc) <;> (try (exfalso; omega))) | with_reducible refine And.intro (by first | omega | (unfold inI; omega) | exact andI_inI _) ?_)
      refine retQ_ret rfl (by simp only [List.length_nil, retL, ret1, hget, lk, List.length_map, List.length_nil, List.length_append, List.length_take, if_true, if_false, Nat.reduceEqDiff, Nat.reduceBEq, Bool.false_eq_true, Option.some.injEq]; rfl) (by simp [rowsOf, lk]) ?_; rfl
  · have hb := bP_false hv
    rw [iaR_no fun h => hv h.1]
    repeat' (first | ((with_reducible first | refine execL_step (fun K' hK' => ?_)); (first | with_reducible refine s_none rfl ?_ | refine s_some2 rfl ?_); simp only [go_sem, hb]) | (with_reducible refine hK' _ ?_; clear hK' K') | (with_reducible refine hK _ ?_; clear hK K; try simp only [go_sem, hb]) | with_reducible (first | refine stp ?_ | refine pw_seq_opsK kl15 G_ok (fun K hK => ?_) | refine pw_ops G_ok (fun K hK => ?_)) | ((with_reducible first | apply CallK.eq); (focus (with_reducible first | exact AreItems_ok l hn63 hk63)); (focus (first | exact rfl | (simp [RV.flat, D.sc, datI]; done))); try simp only [go_sem, hb]) | refine inBlockA_other (by decide) ?_ | (with_reducible refine pK_mk (fun hc => ?_) (fun hc => ?_) <;> (try simp only [go_sem, hb]) <;> (try simp at hc) <;> (try (exfalso; omega))) | ((first | refine pw_seq (pw_cond rfl (fun hc => ?_) (fun hc => ?_)) | refine pw_cond rfl (fun hc => ?_) (fun hc => ?_)) <;> (try simp at hc) <;> (try (exfalso; omega))) | with_reducible refine And.intro (by first | omega | (unfold inI; omega) | exact andI_inI _) ?_)
    refine retQ_ret rfl (by simp only [List.length_nil, retL, ret1, hget, lk, List.length_map, List.length_nil, List.length_append, List.length_take, if_true, if_false, Nat.reduceEqDiff, Nat.reduceBEq, Bool.false_eq_true, Option.some.injEq]; rfl) (by simp [rowsOf, lk]) ?_; rfl
theorem spec_ItemsAfter_ok (l : List ItemD) (q : List InquiryD) (hn : l.length ≤ 1048576) (hs : ∀ r ∈ l, ItFit 1048576 r) (hq : q.length ≤ 1048576) : FnEq Try.prog 14 [.d (.lst 3 (l.map ItemD.dat)), .d (.lst 5 (q.map InquiryD.dat))] (iaR l q) := by
  have hk63 : ∀ r ∈ l, ItFit 9223372036854775807 r := fun r hr => (hs r hr).mono (by decide)
  have hn63 : l.length ≤ 9223372036854775807 := by omega
  have hq63 : q.length ≤ 9223372036854775807 := by omega
  have hil := itTo_len l q q.length
  refine fn_ok G_ok Try.func14 rfl rfl ?_; simp only [Try.ntmps14, List.length_cons, List.length_nil, Nat.reduceAdd, Nat.reduceSub, enm]
  by_cases hv : ItsOk l
  · have hb := bP_true hv
    have hd := iqRun_ok l q hn hs hv hq63
    by_cases hi : InqsOk l q
    · rw [decR_yes hi] at hd
      by_cases hc20 : q.length ≤ 20
      · have h20 : decide ((q.length : Int) ≤ 20) = true := decide_eq_true (by omega)
        rw [iaR_yes ⟨hv, hi, hc20⟩]
        rw [h20] at hd
        by_cases h0 : (itTo l q q.length).length = 0
        · rw [show rvI (itTo l q q.length) = _ from if_pos h0] at hd ⊢
          repeat' (first | ((with_reducible first | refine execL_step (fun K' hK' => ?_)); (first | with_reducible refine s_none rfl ?_ | refine s_some2 rfl ?_); simp only [go_sem, hb]) | (with_reducible refine hK' _ ?_; clear hK' K') | (with_reducible refine hK _ ?_; clear hK K; try simp only [go_sem, hb]) | with_reducible (first | refine stp ?_ | refine pw_seq_opsK kl14 G_ok (fun K hK => ?_) | refine pw_ops G_ok (fun K hK => ?_)) | ((with_reducible first | apply CallK.eq); (focus (with_reducible first | exact itList_ok l hn63 hk63 | exact hd)); (focus (first | exact rfl | (simp [RV.flat, D.sc, datI]; done))); try simp only [go_sem, hb]) | refine inBlockA_other (by decide) ?_ | (with_reducible refine pK_mk (fun hc => ?_) (fun hc => ?_) <;> (try simp only [go_sem, hb]) <;> (try simp at hc) <;> (try (exfalso; omega))) | ((first | refine pw_seq (pw_cond rfl (fun hc => ?_) (fun hc => ?_)) | refine pw_cond rfl (fun hc => ?_) (fun hc => ?_)) <;> (try simp at hc) <;> (try (exfalso; omega))) | with_reducible refine And.intro (by first | omega | (unfold inI; omega) | exact andI_inI _) ?_)
          refine retQ_ret rfl (by simp only [List.length_nil, retL, ret1, hget, lk, List.length_map, List.length_nil, List.length_append, List.length_take, if_true, if_false, Nat.reduceEqDiff, Nat.reduceBEq, Bool.false_eq_true, Option.some.injEq]; rfl) (by simp [rowsOf, lk]) ?_; rfl
        · rw [show rvI (itTo l q q.length) = _ from if_neg h0] at hd ⊢
          repeat' (first | ((with_reducible first | refine execL_step (fun K' hK' => ?_)); (first | with_reducible refine s_none rfl ?_ | refine s_some2 rfl ?_); simp only [go_sem, hb]) | (with_reducible refine hK' _ ?_; clear hK' K') | (with_reducible refine hK _ ?_; clear hK K; try simp only [go_sem, hb]) | with_reducible (first | refine stp ?_ | refine pw_seq_opsK kl14 G_ok (fun K hK => ?_) | refine pw_ops G_ok (fun K hK => ?_)) | ((with_reducible first | apply CallK.eq); (focus (with_reducible first | exact itList_ok l hn63 hk63 | exact hd)); (focus (first | exact rfl | (simp [RV.flat, D.sc, datI]; done))); try simp only [go_sem, hb]) | refine inBlockA_other (by decide) ?_ | (with_reducible refine pK_mk (fun hc => ?_) (fun hc => ?_) <;> (try simp only [go_sem, hb]) <;> (try simp at hc) <;> (try (exfalso; omega))) | ((first | refine pw_seq (pw_cond rfl (fun hc => ?_) (fun hc => ?_)) | refine pw_cond rfl (fun hc => ?_) (fun hc => ?_)) <;> (try simp at hc) <;> (try (exfalso; omega))) | with_reducible refine And.intro (by first | omega | (unfold inI; omega) | exact andI_inI _) ?_)
          refine retQ_ret rfl (by simp only [hil, retL, ret1, hget, lk, List.length_map, List.length_nil, List.length_append, List.length_take, if_true, if_false, Nat.reduceEqDiff, Nat.reduceBEq, Bool.false_eq_true, Option.some.injEq]; rfl) (by simp [rowsOf, lk]) ?_; rfl
      · have h20 : decide ((q.length : Int) ≤ 20) = false := decide_eq_false (by omega)
        rw [iaR_no fun h => hc20 h.2.2]
        have hd := eq_dataI hd
        simp only [List.map_cons, List.map_nil, rvI_data, RV.data] at hd
        rw [h20] at hd
        repeat' (first | ((with_reducible first | refine execL_step (fun K' hK' => ?_)); (first | with_reducible refine s_none rfl ?_ | refine s_some2 rfl ?_); simp only [go_sem, hb]) | (with_reducible refine hK' _ ?_; clear hK' K') | (with_reducible refine hK _ ?_; clear hK K; try simp only [go_sem, hb]) | with_reducible (first | refine stp ?_ | refine pw_seq_opsK kl14 G_ok (fun K hK => ?_) | refine pw_ops G_ok (fun K hK => ?_)) | ((with_reducible first | apply CallK.eq); (focus (with_reducible first | exact itList_ok l hn63 hk63 | exact hd)); (focus (first | exact rfl | (simp [RV.flat, D.sc, datI]; done))); try simp only [go_sem, hb]) | refine inBlockA_other (by decide) ?_ | (with_reducible refine pK_mk (fun hc => ?_) (fun hc => ?_) <;> (try simp only [go_sem, hb]) <;> (try simp at hc) <;> (try (exfalso; omega))) | ((first | refine pw_seq (pw_cond rfl (fun hc => ?_) (fun hc => ?_)) | refine pw_cond rfl (fun hc => ?_) (fun hc => ?_)) <;> (try simp at hc) <;> (try (exfalso; omega))) | with_reducible refine And.intro (by first | omega | (unfold inI; omega) | exact andI_inI _) ?_)
        refine retQ_ret rfl (by simp only [List.length_nil, retL, ret1, hget, lk, List.length_map, List.length_nil, List.length_append, List.length_take, if_true, if_false, Nat.reduceEqDiff, Nat.reduceBEq, Bool.false_eq_true, Option.some.injEq]; rfl) (by simp [rowsOf, lk]) ?_; rfl
    · rw [decR_no hi] at hd
      rw [iaR_no fun h => hi h.2.1]
      have hd := eq_dataI hd
      simp only [List.map_cons, List.map_nil, RV.data] at hd
      repeat' (first | ((with_reducible first | refine execL_step (fun K' hK' => ?_)); (first | with_reducible refine s_none rfl ?_ | refine s_some2 rfl ?_); simp only [go_sem, hb]) | (with_reducible refine hK' _ ?_; clear hK' K') | (with_reducible refine hK _ ?_; clear hK K; try simp only [go_sem, hb]) | with_reducible (first | refine stp ?_ | refine pw_seq_opsK kl14 G_ok (fun K hK => ?_) | refine pw_ops G_ok (fun K hK => ?_)) | ((with_reducible first | apply CallK.eq); (focus (with_reducible first | exact itList_ok l hn63 hk63 | exact hd)); (focus (first | exact rfl | (simp [RV.flat, D.sc, datI]; done))); try simp only [go_sem, hb]) | refine inBlockA_other (by decide) ?_ | (with_reducible refine pK_mk (fun hc => ?_) (fun hc => ?_) <;> (try simp only [go_sem, hb]) <;> (try simp at hc) <;> (try (exfalso; omega))) | ((first | refine pw_seq (pw_cond rfl (fun hc => ?_) (fun hc => ?_)) | refine pw_cond rfl (fun hc => ?_) (fun hc => ?_)) <;> (try simp at hc) <;> (try (exfalso; omega))) | with_reducible refine And.intro (by first | omega | (unfold inI; omega) | exact andI_inI _) ?_)
      refine retQ_ret rfl (by simp only [List.length_nil, retL, ret1, hget, lk, List.length_map, List.length_nil, List.length_append, List.length_take, if_true, if_false, Nat.reduceEqDiff, Nat.reduceBEq, Bool.false_eq_true, Option.some.injEq]; rfl) (by simp [rowsOf, lk]) ?_; rfl
  · have hb := bP_false hv
    rw [iaR_no fun h => hv h.1]
    repeat' (first | ((with_reducible first | refine execL_step (fun K' hK' => ?_)); (first | with_reducible refine s_none rfl ?_ | refine s_some2 rfl ?_); simp only [go_sem, hb]) | (with_reducible refine hK' _ ?_; clear hK' K') | (with_reducible refine hK _ ?_; clear hK K; try simp only [go_sem, hb]) | with_reducible (first | refine stp ?_ | refine pw_seq_opsK kl14 G_ok (fun K hK => ?_) | refine pw_ops G_ok (fun K hK => ?_)) | ((with_reducible first | apply CallK.eq); (focus (with_reducible first | exact itList_ok l hn63 hk63)); (focus (first | exact rfl | (simp [RV.flat, D.sc, datI]; done))); try simp only [go_sem, hb]) | refine inBlockA_other (by decide) ?_ | (with_reducible refine pK_mk (fun hc => ?_) (fun hc => ?_) <;> (try simp only [go_sem, hb]) <;> (try simp at hc) <;> (try (exfalso; omega))) | ((first | refine pw_seq (pw_cond rfl (fun hc => ?_) (fun hc => ?_)) | refine pw_cond rfl (fun hc => ?_) (fun hc => ?_)) <;> (try simp at hc) <;> (try (exfalso; omega))) | with_reducible refine And.intro (by first | omega | (unfold inI; omega) | exact andI_inI _) ?_)
    refine retQ_ret rfl (by simp only [List.length_nil, retL, ret1, hget, lk, List.length_map, List.length_nil, List.length_append, List.length_take, if_true, if_false, Nat.reduceEqDiff, Nat.reduceBEq, Bool.false_eq_true, Option.some.injEq]; rfl) (by simp [rowsOf, lk]) ?_; rfl
end Go.Proofs.Yteinekbgnleohaa
