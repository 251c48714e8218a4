/- BestInquiry of the program returns what the reference returns, for all codes, performances and factors: the statement's row, proved. No conditions. -/
import Derived.Test.YtphakidbddamfaaGreatRows
import Derived.Test.YtphakidbddamfaaGreatZJc
import Derived.Test.YtphakidbddamfaaGreatZJf
set_option linter.unusedSimpArgs false
set_option linter.unusedVariables false
set_option maxHeartbeats 2000000
set_option maxRecDepth 100000
namespace Go.Proofs.YtphakidbddamfaaGreat.lawBestInquiry
open Go.ChangeShapes Go.WideShapes Go.ChangeAt Go.RowKit Go.Deep

theorem law_BestInquiry_ok (xs0 : CodeD) (m0 : CdFit maxLen xs0) (xs1 : PerfD) (m1 : PfFit maxLen xs1) (a2 : Int) (w2 : inI a2) : FnEq Tryz.prog 5 [.agg xs0.cs, .agg xs1.cs, .d (.int .i64 a2)] [.d (.bool true)] := by
  replace m0 : CdFit 9223372036854775807 xs0 := m0.mono (by decide)
  replace m1 : PfFit 9223372036854775807 xs1 := m1.mono (by decide)
  refine fn_ok G_ok Tryz.func5 rfl rfl ?_; simp only [Tryz.ntmps5, List.length_cons, List.length_nil, Nat.reduceAdd, Nat.reduceSub, enm]
  by_cases hle0 : ((cntCd xs0 : Nat) : Int) ≤ ((1048576 : Int))
  · have hz0 := szOf_ge hle0
    by_cases hle1 : ((cntPf xs1 : Nat) : Int) ≤ ((1048576 : Int) - ((cntCd xs0 : Nat) : Int))
    · have hz1 := szOf_ge hle1
      have hl0 : CdFit 1048576 xs0 := cdFit_of (by omega)
      have hl1 : PfFit 1048576 xs1 := pfFit_of (by omega)
      repeat' (first | ((with_reducible first | (refine hK _ ?_; clear hK K) | refine stq fun K' hK' => ?_ | refine stc ?_); try simp only [go_sem, hz0, hz1]) | (with_reducible first | refine stp ?_ | (refine hK' _ ?_; clear hK' K') | refine kN kl5 fun K hK => ?_ | refine kO fun K hK => ?_) | (refine xS rfl fun K' hK' => ?_; simp only [go_sem, hz0, hz1]) | ((with_reducible apply CallK.eq); (· with_reducible first | exact szCode_ok xs0 m0 _ (by omega) (by omega) | exact szPerformance_ok xs1 m1 _ (by omega) (by omega) | exact toCode_dat xs0 hl0 | exact toPerformance_dat xs1 hl1 | exact spec_BestInquiry_ok xs0 xs1 a2 hl0 hl1 | exact impl_BestInquiry_ok xs0 xs1 a2 hl0 hl1 | exact eqCode_same xs0 hl0 | exact eqPerformance_same xs1 hl1); (· simp [RV.flat, D.sc, datI]); try simp only [go_sem, hz0, hz1]) | (with_reducible refine pK_mk ?_ ?_ <;> (intro hc; (try simp only [go_sem, hz0, hz1]); (try simp at hc); try (exfalso; omega))) | with_reducible refine And.intro (by first | omega | (unfold inI; omega)) ?_)
      refine pw_seq_grow kl5 mixed [[3], [29], [4], [31], [2], [30, 32, 33], [34], [28], [28], [28], [28], [35], [36], [37], [38]] 80 rfl (by decide +kernel) (fun K hK => ?_)
      refine grow_quiet G_ok (fun KP hKP => ?_)
      simp only [go_sem, restr, Nat.zero_add, Int.toNat_natCast, Nat.mul_one, hz0, hz1]
      repeat (first | (with_reducible refine hKP _ ?_; clear hKP KP) | with_reducible refine And.intro (by first | omega | (unfold inI; omega)) ?_ | (with_reducible refine pK_mk (fun hc => ?_) (fun hc => ?_) <;> (try simp only [go_sem, restr, Nat.zero_add, Int.toNat_natCast, Nat.mul_one, hz0, hz1]) <;> (try simp at hc) <;> (try (exfalso; omega))))
      try simp only [go_sem, restr, Nat.zero_add, Int.toNat_natCast, Nat.mul_one, hz0, hz1]
      (first | (apply grow_call rfl rfl; focus (simp only [go_sem, restr, Nat.zero_add, Int.toNat_natCast, Nat.mul_one, hz0, hz1]; (with_reducible first | exact szCode_ok xs0 m0 _ (by omega) (by omega) | exact szPerformance_ok xs1 m1 _ (by omega) (by omega) | exact toCode_dat xs0 hl0 | exact toPerformance_dat xs1 hl1 | exact spec_BestInquiry_ok xs0 xs1 a2 hl0 hl1 | exact impl_BestInquiry_ok xs0 xs1 a2 hl0 hl1 | exact eqCode_same xs0 hl0 | exact eqPerformance_same xs1 hl1))) | (apply grow_callA rfl rfl; focus (simp only [go_sem, restr, Nat.zero_add, Int.toNat_natCast, Nat.mul_one, hz0, hz1]; (with_reducible first | exact szCode_ok xs0 m0 _ (by omega) (by omega) | exact szPerformance_ok xs1 m1 _ (by omega) (by omega) | exact toCode_dat xs0 hl0 | exact toPerformance_dat xs1 hl1 | exact spec_BestInquiry_ok xs0 xs1 a2 hl0 hl1 | exact impl_BestInquiry_ok xs0 xs1 a2 hl0 hl1 | exact eqCode_same xs0 hl0 | exact eqPerformance_same xs1 hl1))))
      focus (first | rfl | (simp only [go_sem, restr, Nat.zero_add, Int.toNat_natCast, Nat.mul_one, hz0, hz1]; done) | (simp [restr, AS.get, lk, rf2, rf1, rf0]; done))
      try simp only [go_sem, restr, Nat.zero_add, Int.toNat_natCast, Nat.mul_one, hz0, hz1]
      refine grow_quiet G_ok (fun KP hKP => ?_)
      simp only [go_sem, restr, Nat.zero_add, Int.toNat_natCast, Nat.mul_one, hz0, hz1]
      repeat (first | (with_reducible refine hKP _ ?_; clear hKP KP) | with_reducible refine And.intro (by first | omega | (unfold inI; omega)) ?_ | (with_reducible refine pK_mk (fun hc => ?_) (fun hc => ?_) <;> (try simp only [go_sem, restr, Nat.zero_add, Int.toNat_natCast, Nat.mul_one, hz0, hz1]) <;> (try simp at hc) <;> (try (exfalso; omega))))
      try simp only [go_sem, restr, Nat.zero_add, Int.toNat_natCast, Nat.mul_one, hz0, hz1]
      (first | (apply grow_call rfl rfl; focus (simp only [go_sem, restr, Nat.zero_add, Int.toNat_natCast, Nat.mul_one, hz0, hz1]; (with_reducible first | exact szCode_ok xs0 m0 _ (by omega) (by omega) | exact szPerformance_ok xs1 m1 _ (by omega) (by omega) | exact toCode_dat xs0 hl0 | exact toPerformance_dat xs1 hl1 | exact spec_BestInquiry_ok xs0 xs1 a2 hl0 hl1 | exact impl_BestInquiry_ok xs0 xs1 a2 hl0 hl1 | exact eqCode_same xs0 hl0 | exact eqPerformance_same xs1 hl1))) | (apply grow_callA rfl rfl; focus (simp only [go_sem, restr, Nat.zero_add, Int.toNat_natCast, Nat.mul_one, hz0, hz1]; (with_reducible first | exact szCode_ok xs0 m0 _ (by omega) (by omega) | exact szPerformance_ok xs1 m1 _ (by omega) (by omega) | exact toCode_dat xs0 hl0 | exact toPerformance_dat xs1 hl1 | exact spec_BestInquiry_ok xs0 xs1 a2 hl0 hl1 | exact impl_BestInquiry_ok xs0 xs1 a2 hl0 hl1 | exact eqCode_same xs0 hl0 | exact eqPerformance_same xs1 hl1))))
      focus (first | rfl | (simp only [go_sem, restr, Nat.zero_add, Int.toNat_natCast, Nat.mul_one, hz0, hz1]; done) | (simp [restr, AS.get, lk, rf2, rf1, rf0]; done))
      try simp only [go_sem, restr, Nat.zero_add, Int.toNat_natCast, Nat.mul_one, hz0, hz1]
      refine grow_quiet G_ok (fun KP hKP => ?_)
      simp only [go_sem, restr, Nat.zero_add, Int.toNat_natCast, Nat.mul_one, hz0, hz1]
      repeat (first | (with_reducible refine hKP _ ?_; clear hKP KP) | with_reducible refine And.intro (by first | omega | (unfold inI; omega)) ?_ | (with_reducible refine pK_mk (fun hc => ?_) (fun hc => ?_) <;> (try simp only [go_sem, restr, Nat.zero_add, Int.toNat_natCast, Nat.mul_one, hz0, hz1]) <;> (try simp at hc) <;> (try (exfalso; omega))))
      try simp only [go_sem, restr, Nat.zero_add, Int.toNat_natCast, Nat.mul_one, hz0, hz1]
      refine grow_quiet G_ok (fun KP hKP => ?_)
      simp only [go_sem, restr, Nat.zero_add, Int.toNat_natCast, Nat.mul_one, hz0, hz1]
      repeat (first | (with_reducible refine hKP _ ?_; clear hKP KP) | ((with_reducible apply CallQ.eqs); (focus (with_reducible first | exact szCode_ok xs0 m0 _ (by omega) (by omega) | exact szPerformance_ok xs1 m1 _ (by omega) (by omega) | exact toCode_dat xs0 hl0 | exact toPerformance_dat xs1 hl1 | exact spec_BestInquiry_ok xs0 xs1 a2 hl0 hl1 | exact impl_BestInquiry_ok xs0 xs1 a2 hl0 hl1 | exact eqCode_same xs0 hl0 | exact eqPerformance_same xs1 hl1)); (focus (first | exact rfl | (simp [RV.flat, D.sc, datI]; done))); try simp only [go_sem, restr, Nat.zero_add, Int.toNat_natCast, Nat.mul_one, hz0, hz1]) | with_reducible refine And.intro (by first | omega | (unfold inI; omega)) ?_ | (with_reducible refine pK_mk (fun hc => ?_) (fun hc => ?_) <;> (try simp only [go_sem, restr, Nat.zero_add, Int.toNat_natCast, Nat.mul_one, hz0, hz1]) <;> (try simp at hc) <;> (try (exfalso; omega))))
      try simp only [go_sem, restr, Nat.zero_add, Int.toNat_natCast, Nat.mul_one, hz0, hz1]
      refine grow_quiet G_ok (fun KP hKP => ?_)
      simp only [go_sem, restr, Nat.zero_add, Int.toNat_natCast, Nat.mul_one, hz0, hz1]
      repeat (first | (with_reducible refine hKP _ ?_; clear hKP KP) | with_reducible refine And.intro (by first | omega | (unfold inI; omega)) ?_ | (with_reducible refine pK_mk (fun hc => ?_) (fun hc => ?_) <;> (try simp only [go_sem, restr, Nat.zero_add, Int.toNat_natCast, Nat.mul_one, hz0, hz1]) <;> (try simp at hc) <;> (try (exfalso; omega))))
      try simp only [go_sem, restr, Nat.zero_add, Int.toNat_natCast, Nat.mul_one, hz0, hz1]
      refine grow_quiet G_ok (fun KP hKP => ?_)
      simp only [go_sem, restr, Nat.zero_add, Int.toNat_natCast, Nat.mul_one, hz0, hz1]
      repeat (first | (with_reducible refine hKP _ ?_; clear hKP KP) | with_reducible refine And.intro (by first | omega | (unfold inI; omega)) ?_ | (with_reducible refine pK_mk (fun hc => ?_) (fun hc => ?_) <;> (try simp only [go_sem, restr, Nat.zero_add, Int.toNat_natCast, Nat.mul_one, hz0, hz1]) <;> (try simp at hc) <;> (try (exfalso; omega))))
      try simp only [go_sem, restr, Nat.zero_add, Int.toNat_natCast, Nat.mul_one, hz0, hz1]
      refine grow_quiet G_ok (fun KP hKP => ?_)
      simp only [go_sem, restr, Nat.zero_add, Int.toNat_natCast, Nat.mul_one, hz0, hz1]
      repeat (first | (with_reducible refine hKP _ ?_; clear hKP KP) | with_reducible refine And.intro (by first | omega | (unfold inI; omega)) ?_ | (with_reducible refine pK_mk (fun hc => ?_) (fun hc => ?_) <;> (try simp only [go_sem, restr, Nat.zero_add, Int.toNat_natCast, Nat.mul_one, hz0, hz1]) <;> (try simp at hc) <;> (try (exfalso; omega))))
      try simp only [go_sem, restr, Nat.zero_add, Int.toNat_natCast, Nat.mul_one, hz0, hz1]
      refine grow_quiet G_ok (fun KP hKP => ?_)
      simp only [go_sem, restr, Nat.zero_add, Int.toNat_natCast, Nat.mul_one, hz0, hz1]
      repeat (first | (with_reducible refine hKP _ ?_; clear hKP KP) | with_reducible refine And.intro (by first | omega | (unfold inI; omega)) ?_ | (with_reducible refine pK_mk (fun hc => ?_) (fun hc => ?_) <;> (try simp only [go_sem, restr, Nat.zero_add, Int.toNat_natCast, Nat.mul_one, hz0, hz1]) <;> (try simp at hc) <;> (try (exfalso; omega))))
      try simp only [go_sem, restr, Nat.zero_add, Int.toNat_natCast, Nat.mul_one, hz0, hz1]
      refine grow_quiet G_ok (fun KP hKP => ?_)
      simp only [go_sem, restr, Nat.zero_add, Int.toNat_natCast, Nat.mul_one, hz0, hz1]
      repeat (first | (with_reducible refine hKP _ ?_; clear hKP KP) | with_reducible refine And.intro (by first | omega | (unfold inI; omega)) ?_ | (with_reducible refine pK_mk (fun hc => ?_) (fun hc => ?_) <;> (try simp only [go_sem, restr, Nat.zero_add, Int.toNat_natCast, Nat.mul_one, hz0, hz1]) <;> (try simp at hc) <;> (try (exfalso; omega))))
      try simp only [go_sem, restr, Nat.zero_add, Int.toNat_natCast, Nat.mul_one, hz0, hz1]
      refine grow_quiet G_ok (fun KP hKP => ?_)
      simp only [go_sem, restr, Nat.zero_add, Int.toNat_natCast, Nat.mul_one, hz0, hz1]
      repeat (first | (with_reducible refine hKP _ ?_; clear hKP KP) | with_reducible refine And.intro (by first | omega | (unfold inI; omega)) ?_ | (with_reducible refine pK_mk (fun hc => ?_) (fun hc => ?_) <;> (try simp only [go_sem, restr, Nat.zero_add, Int.toNat_natCast, Nat.mul_one, hz0, hz1]) <;> (try simp at hc) <;> (try (exfalso; omega))))
      try simp only [go_sem, restr, Nat.zero_add, Int.toNat_natCast, Nat.mul_one, hz0, hz1]
      refine grow_quiet G_ok (fun KP hKP => ?_)
      simp only [go_sem, restr, Nat.zero_add, Int.toNat_natCast, Nat.mul_one, hz0, hz1]
      repeat (first | (with_reducible refine hKP _ ?_; clear hKP KP) | with_reducible refine And.intro (by first | omega | (unfold inI; omega)) ?_ | (with_reducible refine pK_mk (fun hc => ?_) (fun hc => ?_) <;> (try simp only [go_sem, restr, Nat.zero_add, Int.toNat_natCast, Nat.mul_one, hz0, hz1]) <;> (try simp at hc) <;> (try (exfalso; omega))))
      try simp only [go_sem, restr, Nat.zero_add, Int.toNat_natCast, Nat.mul_one, hz0, hz1]
      refine grow_quiet G_ok (fun KP hKP => ?_)
      simp only [go_sem, restr, Nat.zero_add, Int.toNat_natCast, Nat.mul_one, hz0, hz1]
      repeat (first | (with_reducible refine hKP _ ?_; clear hKP KP) | with_reducible refine And.intro (by first | omega | (unfold inI; omega)) ?_ | (with_reducible refine pK_mk (fun hc => ?_) (fun hc => ?_) <;> (try simp only [go_sem, restr, Nat.zero_add, Int.toNat_natCast, Nat.mul_one, hz0, hz1]) <;> (try simp at hc) <;> (try (exfalso; omega))))
      try simp only [go_sem, restr, Nat.zero_add, Int.toNat_natCast, Nat.mul_one, hz0, hz1]
      refine grow_quiet G_ok (fun KP hKP => ?_)
      simp only [go_sem, restr, Nat.zero_add, Int.toNat_natCast, Nat.mul_one, hz0, hz1]
      repeat (first | (with_reducible refine hKP _ ?_; clear hKP KP) | with_reducible refine And.intro (by first | omega | (unfold inI; omega)) ?_ | (with_reducible refine pK_mk (fun hc => ?_) (fun hc => ?_) <;> (try simp only [go_sem, restr, Nat.zero_add, Int.toNat_natCast, Nat.mul_one, hz0, hz1]) <;> (try simp at hc) <;> (try (exfalso; omega))))
      try simp only [go_sem, restr, Nat.zero_add, Int.toNat_natCast, Nat.mul_one, hz0, hz1]
      refine grow_nil ?_
      refine hK _ ?_
      clear hK K
      try simp only [go_sem, restr, Nat.zero_add, Int.toNat_natCast, Nat.mul_one, hz0, hz1]
      repeat' (first | ((with_reducible first | (refine hK _ ?_; clear hK K) | refine stq fun K' hK' => ?_ | refine stc ?_); try simp only [go_sem, hz0, hz1]) | (with_reducible first | refine stp ?_ | (refine hK' _ ?_; clear hK' K') | refine kN kl5 fun K hK => ?_ | refine kO fun K hK => ?_) | (refine xS rfl fun K' hK' => ?_; simp only [go_sem, hz0, hz1]) | ((with_reducible apply CallK.eq); (· with_reducible first | exact szCode_ok xs0 m0 _ (by omega) (by omega) | exact szPerformance_ok xs1 m1 _ (by omega) (by omega) | exact toCode_dat xs0 hl0 | exact toPerformance_dat xs1 hl1 | exact spec_BestInquiry_ok xs0 xs1 a2 hl0 hl1 | exact impl_BestInquiry_ok xs0 xs1 a2 hl0 hl1 | exact eqCode_same xs0 hl0 | exact eqPerformance_same xs1 hl1); (· simp [RV.flat, D.sc, datI]); try simp only [go_sem, hz0, hz1]) | (with_reducible refine pK_mk ?_ ?_ <;> (intro hc; (try simp only [go_sem, hz0, hz1]); (try simp at hc); try (exfalso; omega))) | with_reducible refine And.intro (by first | omega | (unfold inI; omega)) ?_)
      refine pw_seq_grow kl5 mixed [[12], [3], [71], [70, 72], [73]] 80 rfl (by decide +kernel) (fun K hK => ?_)
      refine grow_quiet G_ok (fun KP hKP => ?_)
      simp only [go_sem, restr, Nat.zero_add, Int.toNat_natCast, Nat.mul_one, hz0, hz1]
      repeat (first | (with_reducible refine hKP _ ?_; clear hKP KP) | with_reducible refine And.intro (by first | omega | (unfold inI; omega)) ?_ | (with_reducible refine pK_mk (fun hc => ?_) (fun hc => ?_) <;> (try simp only [go_sem, restr, Nat.zero_add, Int.toNat_natCast, Nat.mul_one, hz0, hz1]) <;> (try simp at hc) <;> (try (exfalso; omega))))
      try simp only [go_sem, restr, Nat.zero_add, Int.toNat_natCast, Nat.mul_one, hz0, hz1]
      refine grow_quiet G_ok (fun KP hKP => ?_)
      simp only [go_sem, restr, Nat.zero_add, Int.toNat_natCast, Nat.mul_one, hz0, hz1]
      repeat (first | (with_reducible refine hKP _ ?_; clear hKP KP) | with_reducible refine And.intro (by first | omega | (unfold inI; omega)) ?_ | (with_reducible refine pK_mk (fun hc => ?_) (fun hc => ?_) <;> (try simp only [go_sem, restr, Nat.zero_add, Int.toNat_natCast, Nat.mul_one, hz0, hz1]) <;> (try simp at hc) <;> (try (exfalso; omega))))
      try simp only [go_sem, restr, Nat.zero_add, Int.toNat_natCast, Nat.mul_one, hz0, hz1]
      (first | (apply grow_call rfl rfl; focus (simp only [go_sem, restr, Nat.zero_add, Int.toNat_natCast, Nat.mul_one, hz0, hz1]; (with_reducible first | exact szCode_ok xs0 m0 _ (by omega) (by omega) | exact szPerformance_ok xs1 m1 _ (by omega) (by omega) | exact toCode_dat xs0 hl0 | exact toPerformance_dat xs1 hl1 | exact spec_BestInquiry_ok xs0 xs1 a2 hl0 hl1 | exact impl_BestInquiry_ok xs0 xs1 a2 hl0 hl1 | exact eqCode_same xs0 hl0 | exact eqPerformance_same xs1 hl1))) | (apply grow_callA rfl rfl; focus (simp only [go_sem, restr, Nat.zero_add, Int.toNat_natCast, Nat.mul_one, hz0, hz1]; (with_reducible first | exact szCode_ok xs0 m0 _ (by omega) (by omega) | exact szPerformance_ok xs1 m1 _ (by omega) (by omega) | exact toCode_dat xs0 hl0 | exact toPerformance_dat xs1 hl1 | exact spec_BestInquiry_ok xs0 xs1 a2 hl0 hl1 | exact impl_BestInquiry_ok xs0 xs1 a2 hl0 hl1 | exact eqCode_same xs0 hl0 | exact eqPerformance_same xs1 hl1))))
      focus (first | rfl | (simp only [go_sem, restr, Nat.zero_add, Int.toNat_natCast, Nat.mul_one, hz0, hz1]; done) | (simp [restr, AS.get, lk, rf2, rf1, rf0]; done))
      try simp only [go_sem, restr, Nat.zero_add, Int.toNat_natCast, Nat.mul_one, hz0, hz1]
      refine grow_quiet G_ok (fun KP hKP => ?_)
      simp only [go_sem, restr, Nat.zero_add, Int.toNat_natCast, Nat.mul_one, hz0, hz1]
      repeat (first | (with_reducible refine hKP _ ?_; clear hKP KP) | ((with_reducible apply CallQ.eqs); (focus (with_reducible first | exact szCode_ok xs0 m0 _ (by omega) (by omega) | exact szPerformance_ok xs1 m1 _ (by omega) (by omega) | exact toCode_dat xs0 hl0 | exact toPerformance_dat xs1 hl1 | exact spec_BestInquiry_ok xs0 xs1 a2 hl0 hl1 | exact impl_BestInquiry_ok xs0 xs1 a2 hl0 hl1 | exact eqCode_same xs0 hl0 | exact eqPerformance_same xs1 hl1)); (focus (first | exact rfl | (simp [RV.flat, D.sc, datI]; done))); try simp only [go_sem, restr, Nat.zero_add, Int.toNat_natCast, Nat.mul_one, hz0, hz1]) | with_reducible refine And.intro (by first | omega | (unfold inI; omega)) ?_ | (with_reducible refine pK_mk (fun hc => ?_) (fun hc => ?_) <;> (try simp only [go_sem, restr, Nat.zero_add, Int.toNat_natCast, Nat.mul_one, hz0, hz1]) <;> (try simp at hc) <;> (try (exfalso; omega))))
      try simp only [go_sem, restr, Nat.zero_add, Int.toNat_natCast, Nat.mul_one, hz0, hz1]
      refine grow_quiet G_ok (fun KP hKP => ?_)
      simp only [go_sem, restr, Nat.zero_add, Int.toNat_natCast, Nat.mul_one, hz0, hz1]
      repeat (first | (with_reducible refine hKP _ ?_; clear hKP KP) | with_reducible refine And.intro (by first | omega | (unfold inI; omega)) ?_ | (with_reducible refine pK_mk (fun hc => ?_) (fun hc => ?_) <;> (try simp only [go_sem, restr, Nat.zero_add, Int.toNat_natCast, Nat.mul_one, hz0, hz1]) <;> (try simp at hc) <;> (try (exfalso; omega))))
      try simp only [go_sem, restr, Nat.zero_add, Int.toNat_natCast, Nat.mul_one, hz0, hz1]
      refine grow_nil ?_
      refine hK _ ?_
      clear hK K
      try simp only [go_sem, restr, Nat.zero_add, Int.toNat_natCast, Nat.mul_one, hz0, hz1]
      repeat' (first | ((with_reducible first | (refine hK _ ?_; clear hK K) | refine stq fun K' hK' => ?_ | refine stc ?_); try simp only [go_sem, hz0, hz1]) | (with_reducible first | refine stp ?_ | (refine hK' _ ?_; clear hK' K') | refine kN kl5 fun K hK => ?_ | refine kO fun K hK => ?_) | (refine xS rfl fun K' hK' => ?_; simp only [go_sem, hz0, hz1]) | ((with_reducible apply CallK.eq); (· with_reducible first | exact szCode_ok xs0 m0 _ (by omega) (by omega) | exact szPerformance_ok xs1 m1 _ (by omega) (by omega) | exact toCode_dat xs0 hl0 | exact toPerformance_dat xs1 hl1 | exact spec_BestInquiry_ok xs0 xs1 a2 hl0 hl1 | exact impl_BestInquiry_ok xs0 xs1 a2 hl0 hl1 | exact eqCode_same xs0 hl0 | exact eqPerformance_same xs1 hl1); (· simp [RV.flat, D.sc, datI]); try simp only [go_sem, hz0, hz1]) | (with_reducible refine pK_mk ?_ ?_ <;> (intro hc; (try simp only [go_sem, hz0, hz1]); (try simp at hc); try (exfalso; omega))) | with_reducible refine And.intro (by first | omega | (unfold inI; omega)) ?_)
      refine pw_seq_grow kl5 mixed [[13], [4], [76], [75, 77], [78]] 80 rfl (by decide +kernel) (fun K hK => ?_)
      refine grow_quiet G_ok (fun KP hKP => ?_)
      simp only [go_sem, restr, Nat.zero_add, Int.toNat_natCast, Nat.mul_one, hz0, hz1]
      repeat (first | (with_reducible refine hKP _ ?_; clear hKP KP) | with_reducible refine And.intro (by first | omega | (unfold inI; omega)) ?_ | (with_reducible refine pK_mk (fun hc => ?_) (fun hc => ?_) <;> (try simp only [go_sem, restr, Nat.zero_add, Int.toNat_natCast, Nat.mul_one, hz0, hz1]) <;> (try simp at hc) <;> (try (exfalso; omega))))
      try simp only [go_sem, restr, Nat.zero_add, Int.toNat_natCast, Nat.mul_one, hz0, hz1]
      refine grow_quiet G_ok (fun KP hKP => ?_)
      simp only [go_sem, restr, Nat.zero_add, Int.toNat_natCast, Nat.mul_one, hz0, hz1]
      repeat (first | (with_reducible refine hKP _ ?_; clear hKP KP) | with_reducible refine And.intro (by first | omega | (unfold inI; omega)) ?_ | (with_reducible refine pK_mk (fun hc => ?_) (fun hc => ?_) <;> (try simp only [go_sem, restr, Nat.zero_add, Int.toNat_natCast, Nat.mul_one, hz0, hz1]) <;> (try simp at hc) <;> (try (exfalso; omega))))
      try simp only [go_sem, restr, Nat.zero_add, Int.toNat_natCast, Nat.mul_one, hz0, hz1]
      (first | (apply grow_call rfl rfl; focus (simp only [go_sem, restr, Nat.zero_add, Int.toNat_natCast, Nat.mul_one, hz0, hz1]; (with_reducible first | exact szCode_ok xs0 m0 _ (by omega) (by omega) | exact szPerformance_ok xs1 m1 _ (by omega) (by omega) | exact toCode_dat xs0 hl0 | exact toPerformance_dat xs1 hl1 | exact spec_BestInquiry_ok xs0 xs1 a2 hl0 hl1 | exact impl_BestInquiry_ok xs0 xs1 a2 hl0 hl1 | exact eqCode_same xs0 hl0 | exact eqPerformance_same xs1 hl1))) | (apply grow_callA rfl rfl; focus (simp only [go_sem, restr, Nat.zero_add, Int.toNat_natCast, Nat.mul_one, hz0, hz1]; (with_reducible first | exact szCode_ok xs0 m0 _ (by omega) (by omega) | exact szPerformance_ok xs1 m1 _ (by omega) (by omega) | exact toCode_dat xs0 hl0 | exact toPerformance_dat xs1 hl1 | exact spec_BestInquiry_ok xs0 xs1 a2 hl0 hl1 | exact impl_BestInquiry_ok xs0 xs1 a2 hl0 hl1 | exact eqCode_same xs0 hl0 | exact eqPerformance_same xs1 hl1))))
      focus (first | rfl | (simp only [go_sem, restr, Nat.zero_add, Int.toNat_natCast, Nat.mul_one, hz0, hz1]; done) | (simp [restr, AS.get, lk, rf2, rf1, rf0]; done))
      try simp only [go_sem, restr, Nat.zero_add, Int.toNat_natCast, Nat.mul_one, hz0, hz1]
      refine grow_quiet G_ok (fun KP hKP => ?_)
      simp only [go_sem, restr, Nat.zero_add, Int.toNat_natCast, Nat.mul_one, hz0, hz1]
      repeat (first | (with_reducible refine hKP _ ?_; clear hKP KP) | ((with_reducible apply CallQ.eqs); (focus (with_reducible first | exact szCode_ok xs0 m0 _ (by omega) (by omega) | exact szPerformance_ok xs1 m1 _ (by omega) (by omega) | exact toCode_dat xs0 hl0 | exact toPerformance_dat xs1 hl1 | exact spec_BestInquiry_ok xs0 xs1 a2 hl0 hl1 | exact impl_BestInquiry_ok xs0 xs1 a2 hl0 hl1 | exact eqCode_same xs0 hl0 | exact eqPerformance_same xs1 hl1)); (focus (first | exact rfl | (simp [RV.flat, D.sc, datI]; done))); try simp only [go_sem, restr, Nat.zero_add, Int.toNat_natCast, Nat.mul_one, hz0, hz1]) | with_reducible refine And.intro (by first | omega | (unfold inI; omega)) ?_ | (with_reducible refine pK_mk (fun hc => ?_) (fun hc => ?_) <;> (try simp only [go_sem, restr, Nat.zero_add, Int.toNat_natCast, Nat.mul_one, hz0, hz1]) <;> (try simp at hc) <;> (try (exfalso; omega))))
      try simp only [go_sem, restr, Nat.zero_add, Int.toNat_natCast, Nat.mul_one, hz0, hz1]
      refine grow_quiet G_ok (fun KP hKP => ?_)
      simp only [go_sem, restr, Nat.zero_add, Int.toNat_natCast, Nat.mul_one, hz0, hz1]
      repeat (first | (with_reducible refine hKP _ ?_; clear hKP KP) | with_reducible refine And.intro (by first | omega | (unfold inI; omega)) ?_ | (with_reducible refine pK_mk (fun hc => ?_) (fun hc => ?_) <;> (try simp only [go_sem, restr, Nat.zero_add, Int.toNat_natCast, Nat.mul_one, hz0, hz1]) <;> (try simp at hc) <;> (try (exfalso; omega))))
      try simp only [go_sem, restr, Nat.zero_add, Int.toNat_natCast, Nat.mul_one, hz0, hz1]
      refine grow_nil ?_
      refine hK _ ?_
      clear hK K
      try simp only [go_sem, restr, Nat.zero_add, Int.toNat_natCast, Nat.mul_one, hz0, hz1]
      repeat' (first | ((with_reducible first | (refine hK _ ?_; clear hK K) | refine stq fun K' hK' => ?_ | refine stc ?_); try simp only [go_sem, hz0, hz1]) | (with_reducible first | refine stp ?_ | (refine hK' _ ?_; clear hK' K') | refine kN kl5 fun K hK => ?_ | refine kO fun K hK => ?_) | (refine xS rfl fun K' hK' => ?_; simp only [go_sem, hz0, hz1]) | (refine qS rfl fun K' hK' => ?_; simp only [go_sem, hz0, hz1]) | ((with_reducible first | apply CallK.eq | apply CallQ.eqs); (· with_reducible first | exact szCode_ok xs0 m0 _ (by omega) (by omega) | exact szPerformance_ok xs1 m1 _ (by omega) (by omega) | exact toCode_dat xs0 hl0 | exact toPerformance_dat xs1 hl1 | exact spec_BestInquiry_ok xs0 xs1 a2 hl0 hl1 | exact impl_BestInquiry_ok xs0 xs1 a2 hl0 hl1 | exact eqCode_same xs0 hl0 | exact eqPerformance_same xs1 hl1); (· first | exact rfl | (simp [RV.flat, D.sc, datI]; done)); try simp only [go_sem, hz0, hz1]) | (with_reducible apply pw_seq_any_to kl5 mixed) | (with_reducible refine pw_any mixed ?_) | ((first | refine any_step G_ok [0, 1] (by decide +kernel) rfl ?_ | refine any_step G_ok [1] (by decide +kernel) rfl ?_ | refine any_step G_ok [2] (by decide +kernel) rfl ?_ | refine any_step G_ok [3] (by decide +kernel) rfl ?_ | refine any_step G_ok [4] (by decide +kernel) rfl ?_ | refine any_step G_ok [0, 2] (by decide +kernel) rfl ?_ | refine any_step G_ok [0] (by decide +kernel) rfl ?_); (repeat' with_reducible first | exact True.intro | refine And.intro ?_ ?_) <;> refine ⟨_, rfl, fun K' hK' => ?_⟩ <;> ((first | with_reducible refine s_none rfl ?_ | refine s_some2 rfl ?_); simp only [go_sem, hz0, hz1])) | (refine any_done (by decide +kernel) ?_; try simp only [go_sem, hz0, hz1]) | (with_reducible exact Or.inl rfl) | (exact Or.inr (fits_mk [] (by simp [renL_d, bdL_d, sg, over, wipe, wl, memN, ins, rm, lk, fitFr, fit1, ren, renL, bd, bdL, app, fitHp, hget, renB, bdB] <;> omega))) | (with_reducible refine pK_mk ?_ ?_ <;> (intro hc; (try simp only [go_sem, hz0, hz1]); (try simp at hc); try (exfalso; omega))) | with_reducible refine And.intro (by first | omega | (unfold inI; omega)) ?_)
      all_goals first
        | (exfalso; rw [bP_true (by trivial)] at hc; cases hc; done)
        | (exfalso; simp_all; done)
        | (refine retQ_ret rfl rfl (by simp [rowsOf, lk]) ?_; rfl)
    · have hz1 := szOf_lt (left := ((1048576 : Int) - ((cntCd xs0 : Nat) : Int))) (n := ((cntPf xs1 : Nat) : Int)) (by omega)
      repeat' (first | ((with_reducible first | (refine hK _ ?_; clear hK K) | refine stq fun K' hK' => ?_ | refine stc ?_); try simp only [go_sem, hz0, hz1]) | (with_reducible first | refine stp ?_ | (refine hK' _ ?_; clear hK' K') | refine kN kl5 fun K hK => ?_ | refine kO fun K hK => ?_) | (refine xS rfl fun K' hK' => ?_; simp only [go_sem, hz0, hz1]) | (refine qS rfl fun K' hK' => ?_; simp only [go_sem, hz0, hz1]) | ((with_reducible first | apply CallK.eq | apply CallQ.eqs); (· with_reducible first | exact szCode_ok xs0 m0 _ (by omega) (by omega) | exact szPerformance_ok xs1 m1 _ (by omega) (by omega)); (· first | exact rfl | (simp [RV.flat, D.sc, datI]; done)); try simp only [go_sem, hz0, hz1]) | (with_reducible apply pw_seq_any_to kl5 mixed) | (with_reducible refine pw_any mixed ?_) | ((first | refine any_step G_ok [0, 1] (by decide +kernel) rfl ?_ | refine any_step G_ok [1] (by decide +kernel) rfl ?_ | refine any_step G_ok [2] (by decide +kernel) rfl ?_ | refine any_step G_ok [3] (by decide +kernel) rfl ?_ | refine any_step G_ok [4] (by decide +kernel) rfl ?_ | refine any_step G_ok [0, 2] (by decide +kernel) rfl ?_ | refine any_step G_ok [0] (by decide +kernel) rfl ?_); (repeat' with_reducible first | exact True.intro | refine And.intro ?_ ?_) <;> refine ⟨_, rfl, fun K' hK' => ?_⟩ <;> ((first | with_reducible refine s_none rfl ?_ | refine s_some2 rfl ?_); simp only [go_sem, hz0, hz1])) | (refine any_done (by decide +kernel) ?_; try simp only [go_sem, hz0, hz1]) | (with_reducible exact Or.inl rfl) | (exact Or.inr (fits_mk [] (by simp [renL_d, bdL_d, sg, over, wipe, wl, memN, ins, rm, lk, fitFr, fit1, ren, renL, bd, bdL, app, fitHp, hget, renB, bdB] <;> omega))) | (with_reducible refine pK_mk ?_ ?_ <;> (intro hc; (try simp only [go_sem, hz0, hz1]); (try simp at hc); try (exfalso; omega))) | with_reducible refine And.intro (by first | omega | (unfold inI; omega)) ?_)
      all_goals first
        | (exfalso; rw [bP_true (by trivial)] at hc; cases hc; done)
        | (exfalso; simp_all; done)
        | (refine retQ_ret rfl rfl (by simp [rowsOf, lk]) ?_; rfl)
  · have hz0 := szOf_lt (left := ((1048576 : Int))) (n := ((cntCd xs0 : Nat) : Int)) (by omega)
    repeat' (first | ((with_reducible first | (refine hK _ ?_; clear hK K) | refine stq fun K' hK' => ?_ | refine stc ?_); try simp only [go_sem, hz0]) | (with_reducible first | refine stp ?_ | (refine hK' _ ?_; clear hK' K') | refine kN kl5 fun K hK => ?_ | refine kO fun K hK => ?_) | (refine xS rfl fun K' hK' => ?_; simp only [go_sem, hz0]) | (refine qS rfl fun K' hK' => ?_; simp only [go_sem, hz0]) | ((with_reducible first | apply CallK.eq | apply CallQ.eqs); (· with_reducible first | exact szCode_ok xs0 m0 _ (by omega) (by omega)); (· first | exact rfl | (simp [RV.flat, D.sc, datI]; done)); try simp only [go_sem, hz0]) | (with_reducible apply pw_seq_any_to kl5 mixed) | (with_reducible refine pw_any mixed ?_) | ((first | refine any_step G_ok [0, 1] (by decide +kernel) rfl ?_ | refine any_step G_ok [1] (by decide +kernel) rfl ?_ | refine any_step G_ok [2] (by decide +kernel) rfl ?_ | refine any_step G_ok [3] (by decide +kernel) rfl ?_ | refine any_step G_ok [4] (by decide +kernel) rfl ?_ | refine any_step G_ok [0, 2] (by decide +kernel) rfl ?_ | refine any_step G_ok [0] (by decide +kernel) rfl ?_); (repeat' with_reducible first | exact True.intro | refine And.intro ?_ ?_) <;> refine ⟨_, rfl, fun K' hK' => ?_⟩ <;> ((first | with_reducible refine s_none rfl ?_ | refine s_some2 rfl ?_); simp only [go_sem, hz0])) | (refine any_done (by decide +kernel) ?_; try simp only [go_sem, hz0]) | (with_reducible exact Or.inl rfl) | (exact Or.inr (fits_mk [] (by simp [renL_d, bdL_d, sg, over, wipe, wl, memN, ins, rm, lk, fitFr, fit1, ren, renL, bd, bdL, app, fitHp, hget, renB, bdB] <;> omega))) | (with_reducible refine pK_mk ?_ ?_ <;> (intro hc; (try simp only [go_sem, hz0]); (try simp at hc); try (exfalso; omega))) | with_reducible refine And.intro (by first | omega | (unfold inI; omega)) ?_)
    all_goals first
      | (exfalso; rw [bP_true (by trivial)] at hc; cases hc; done)
      | (exfalso; simp_all; done)
      | (refine retQ_ret rfl rfl (by simp [rowsOf, lk]) ?_; rfl)

theorem own : ownKnob Tryz.prog.godebug = none := by kernel_rfl
theorem laidOut : laidOutB Tryz.prog = true := by kernel_rfl
set_option linter.unusedVariables false in
set_option maxRecDepth 100000 in
theorem lifted (os : Os) (started : os.Started) (H : Type) (enc : TypeId × Value → H) :
    ReturnsInHanded {} Tryz.checked os 5 .any (Rows.fnExactBestInquirySpec.pre6 enc Tryz.prog Tryz.f5 Rows.fnExactBestInquiryRow.domain false) (Rows.fnExactBestInquirySpec.post enc Tryz.prog Tryz.f5 false true false false) := by
  refine returnsInHanded_of_change (C := Tryz.checked) own started (by kernel_rfl) Tryz.func5
    (ChangeSpec.witness6 (enc := enc) (C := Tryz.checked) false ⟨#[], #[.agg #[.slice none 0 0, .slice none 0 0, .int .i64 0, .int .i64 0, .int .i64 0, .int .i64 0], .agg #[.slice none 0 0, .slice none 0 0, .slice none 0 0, .int .i64 0, .int .i64 0, .int .i64 0], .int .i64 0], []⟩ 8 (by kernel_rfl) (by kernel_rfl) (by kernel_rfl) (by kernel_rfl)) ?_
  intro W base args ds gs before hval0 hW hcnd _
  have hval : ∀ (j : Nat) t v, Tryz.f5.params[j]? = some t → args[j]? = some v → Value.okWide Tryz.prog W .any base t v := hval0
  have hW' := hW
  obtain ⟨p, q, hA0, hV, rfl, hfz, hnd⟩ := hW
  have hA : DataW.TrodAll enc Tryz.prog W 0 (fun _ => true) true Tryz.f5.params.toList args.toList ds p := hA0
  rw [Tryz.params5] at hA hval
  obtain ⟨v0, vs0, d0, ds0, p0, q0, hargs, rfl, rfl, h0, r0⟩ := trodAll_cons hA
  obtain ⟨v1, vs1, d1, ds1, p1, q1, rfl, rfl, rfl, h1, r1⟩ := trodAll_cons r0
  obtain ⟨v2, vs2, d2, ds2, p2, q2, rfl, rfl, rfl, h2, r2⟩ := trodAll_cons r1
  obtain ⟨rfl, rfl, rfl⟩ := trodAll_nil r2
  obtain rfl : args = #[v0, v1, v2] := by cases args; simp_all
  obtain ⟨rfl, rfl⟩ := trodVars_none hV
  have k0 := h0
  have lt0 := below_lt k0
  obtain ⟨cs0, rfl, cz0⟩ := okWide_struct Tryz.underlying25 (hval 0 25 v0 rfl rfl)
  obtain ⟨fuel0, hf0⟩ := h0
  obtain ⟨x0, m0, rd0⟩ := open_code.2 _ _ _ hf0
  have R0 := R_of_crd rd0
  clear hf0
  have k1 := h1
  have lt1 := below_lt k1
  obtain ⟨cs1, rfl, cz1⟩ := okWide_struct Tryz.underlying33 (hval 1 33 v1 rfl rfl)
  obtain ⟨fuel1, hf1⟩ := h1
  obtain ⟨x1, m1, rd1⟩ := open_perf.2 _ _ _ hf1
  have R1 := R_of_crd rd1
  clear hf1
  obtain ⟨a2, rfl, rfl, rfl, w2⟩ := open_int Tryz.underlying3 (hval 2 3 v2 rfl rfl) h2
  clear hA0 hval0
  refine (mwalk (law_BestInquiry_ok x0 m0 x1 m1 a2 (inI_of_wf w2)) W _ rfl (args3 R0 R1 (R_int W a2))).mono fun e W' ⟨he, bel⟩ => ?_
  subst he
  exact ⟨_, rfl, _, _, _, [], _, [], hW', trodAll_mk1 (shut_bool Tryz.underlying4 _), (trodAll_cons_mk (Below.trod laidOut (by kernel_rfl) (of_decide_eq_true (by kernel_rfl)) k0 bel lt0) (trodAll_cons_mk (Below.trod laidOut (by kernel_rfl) (of_decide_eq_true (by kernel_rfl)) k1 bel lt1) (trodAll_cons_mk (shut_int Tryz.underlying3 w2) trodAll_mk0))), rfl, bel.frame _, fun h => by cases h⟩
theorem over : Rows.fnExactBestInquiryRow.holds Tryz.pinned (OpenSpec.ofChange Rows.fnExactBestInquirySpec) :=
  OpenClaim.holds_of_wide 5 Tryz.f5 rfl rfl rfl rfl rfl rfl rfl ⟨rfl, rfl, rfl, rfl, rfl⟩ rfl rfl rfl rfl rfl (by kernel_rfl) Tryz.func5 (by kernel_rfl)
    (of_decide_eq_true (by kernel_rfl)) (by unfold Func.isWrapper; first | (rw [if_pos (by decide +kernel)]; kernel_rfl) | (rw [if_neg (by decide +kernel)]; exact ⟨rfl, rfl⟩))
    (fun os started H enc _ => lifted os started H enc)
theorem proved : Rows.FnExactBestInquirySaid := over
end Go.Proofs.YtphakidbddamfaaGreat.lawBestInquiry
