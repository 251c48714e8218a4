/-
  The best inquiry: the program's function and the reference's, in the abstract machine.
-/
import Derived.Test.YtphakidbddamfaaGreatZMz
import Derived.Test.YtphakidbddamfaaGreatZMo
import Derived.Test.YtphakidbddamfaaGreatZJd
set_option linter.unusedSimpArgs false
set_option linter.unusedVariables false
set_option maxHeartbeats 2000000
set_option maxRecDepth 100000
namespace Go.Proofs.YtphakidbddamfaaGreat
open Go.RowKit

/-- what the reference keeps where nothing was found -/
def spB (b : List Int) : List Int := if b = [] then [0, 0, 0] else b
theorem bestS_yes {c : CodeD} {p : PerfD} {f m v : Int} {b x : List Int} (hv : scW c p f x = v) (h : m < v) : bestS c p f (m, b) x = (v, x) := by unfold bestS; rw [hv, if_pos h]
theorem bestS_no {c : CodeD} {p : PerfD} {f m v : Int} {b x : List Int} (hv : scW c p f x = v) (h : ¬ m < v) : bestS c p f (m, b) x = (m, b) := by unfold bestS; rw [hv, if_neg h]
theorem impl_BestInquiry_ok (c : CodeD) (p : PerfD) (f : Int) (hcf : CdFit 1048576 c) (hpf : PfFit 1048576 p) : FnEq Tryz.prog 24 [.agg c.cs, .agg p.cs, .d (.int .i64 f)] [.d (.int .i64 ((ansBestInquiry c p f).getD (0, 0, 0)).1), .d (.int .i64 ((ansBestInquiry c p f).getD (0, 0, 0)).2.1), .d (.int .i64 ((ansBestInquiry c p f).getD (0, 0, 0)).2.2), .d (.bool (ansBestInquiry c p f).isSome)] := by
  have hs0 := canScore_ok c p f hcf hpf
  refine fn_ok G_ok Tryz.func24 rfl rfl ?_; simp only [Tryz.ntmps24, List.length_cons, List.length_nil, Nat.reduceAdd, Nat.reduceSub, enm]
  by_cases hA : AskP c p f
  · have hb := bP_true hA
    have hv := hA.1.2.1
    have hs2 := segmentScore_ok c p f hA
    have ho := eq_dataI (otherCalls_ok p.items hv)
    simp only [List.map_cons, List.map_nil, RV.data] at ho
    have hlen := callsW_len hv
    have hmem : ∀ x ∈ callsW p.items, ∃ i k m : Int, x = [i, k, m] ∧ HasNm p.items i k ∧ 0 ≤ m ∧ m ≤ 3 := fun x hx => (callsW_mem hx).nm hv
    have hans : ansBestInquiry c p f = optP (AskP c p f ∧ bestW c p f ≠ []) ((bestW c p f).getD 0 0, (bestW c p f).getD 1 0, (bestW c p f).getD 2 0) := rfl
    have hbw : bestW c p f = (bestTo c p f (callsW p.items) (callsW p.items).length).2 := rfl
    have hbin := bestTo_in c p f (callsW p.items) (callsW p.items).length
    generalize callsW p.items = w at ho hlen hmem hbw hbin
    repeat' (first | ((with_reducible first | (refine hK _ ?_; clear hK K) | refine stq fun K' hK' => ?_ | refine stc ?_); try simp only [go_sem, hb]) | (with_reducible first | refine stp ?_ | (refine hK' _ ?_; clear hK' K') | refine kN kl24 fun K hK => ?_ | refine kO fun K hK => ?_) | ((with_reducible first | apply CallK.eq | apply CallQ.eqs); (· with_reducible first | exact hs0 | exact hs2 | exact ho); (· first | exact rfl | (simp [RV.flat, D.sc, datI]; done)); try simp only [go_sem, hb]) | refine iB ?_ | (with_reducible refine pw_seq_drawK kl24 G_ok mixed (by kernel_rfl) (fun K hK => ?_)) | (with_reducible refine pw_draw G_ok mixed (by kernel_rfl) ?_) | (with_reducible refine pK_mk ?_ ?_ <;> (intro hc; (try simp only [go_sem, hb]); (try simp at hc); try (exfalso; omega))) | with_reducible refine And.intro (by first | omega | (unfold inI; omega)) ?_)
    all_goals first
      | (exfalso; omega)
      | skip
    refine pw_freeze 11 rfl rfl rfl ?_
    simp only [go_sem]
    refine pw_loop_over [6, 7, 8, 9, 10, 11, 13, 14, 29, 30, 31, 32, 33, 34, 35, 36, 37, 38, 39, 40, 41, 42, 43, 44, 45, 46, 47, 48, 49, 50, 51, 52, 53, 54] (fun k : Nat => [(29, .d (.int .i64 (k : Int))), (10, .d (.int .i64 (bestTo c p f w k).1)), (11, .d (.lst 1 ((bestTo c p f w k).2.map datI))), (3, .bptr 0 0), (4, .bptr 1 0), (24, .und)]) (fun k => [(0, .box 42 c.cs), (1, .box 48 p.cs)]) 2 (fun k => k ≤ w.length) (fun k => w.length - k) 0 (Nat.zero_le _) (fits_mk [] (by simp [renL_d, bdL_d, sg, over, wipe, wl, memN, ins, rm, lk, fitFr, fit1, ren, renL, bd, bdL, app, fitHp, hget, renB, bdB, bestTo_zero] <;> omega)) ?_
    intro k hk; simp only [over, wipe, wl, memN, ins, rm, if_true, if_false, Nat.reduceEqDiff, Bool.false_eq_true, reduceCtorEq]
    have ht1 : Int.toNat 1 = 1 := rfl
    have ht2 : Int.toNat 2 = 2 := rfl
    by_cases hlt : k < w.length
    · have hx := List.getElem?_eq_getElem hlt
      have hxm := List.getElem_mem hlt
      generalize w[k] = x at hx hxm
      obtain ⟨i, n, m, rfl, hN, hm1, hm2⟩ := hmem x hxm
      have hc1 := eq_dataI (withCall_ok p.items i n m hpf.1.1 hpf.1.2 hv hN)
      simp only [List.map_cons, List.map_nil, RV.data] at hc1
      have hs1 := scoreWith_ok c p f _ (ask_one (i := i) (k := n) hA hm1 hm2)
      have hsc : scW c p f [i, n, m] = segW c (withI p (stepI p.items (oneI i n m))) f := rfl
      have hsu := bestTo_succ (c := c) (p := p) (f := f) hx
      generalize segW c (withI p (stepI p.items (oneI i n m))) f = v at hs1 hsc
      generalize bestTo c p f w k = s at hsu ⊢
      obtain ⟨most, best⟩ := s
      repeat' (first | ((with_reducible first | (refine hK _ ?_; clear hK K) | refine stq fun K' hK' => ?_ | refine stc ?_); try simp only [go_sem, List.getElem?_map, hx, Option.map_some, datL, datI, hlt, List.map_cons, List.map_nil]) | (with_reducible first | refine stp ?_ | (refine hK' _ ?_; clear hK' K') | refine kN kl24 fun K hK => ?_ | refine kO fun K hK => ?_) | refine iB ?_ | (with_reducible refine pK_mk ?_ ?_ <;> (intro hc; (try simp only [go_sem, List.getElem?_map, hx, Option.map_some, datL, datI, hlt, List.map_cons, List.map_nil]); (try simp at hc); try (exfalso; omega))) | with_reducible refine And.intro (by first | omega | (unfold inI; omega)) ?_)
      refine pw_seq_grow kl24 mixed [[3], [4], [2], [4], [36], [13], [38], [39], [13], [41], [42], [13], [44], [45], [37, 40, 43, 46], [33, 34, 35, 47], [48]] 67 rfl (by decide +kernel) (fun K hK => ?_)
      refine grow_quiet G_ok (fun KP hKP => ?_)
      simp only [go_sem, restr, Nat.zero_add, Int.toNat_natCast, Nat.mul_one, datI, ht1, ht2]
      repeat (first | (with_reducible refine hKP _ ?_; clear hKP KP) | with_reducible refine And.intro (by first | omega | (unfold inI; omega)) ?_ | (with_reducible refine pK_mk (fun hc => ?_) (fun hc => ?_) <;> (try simp only [go_sem, restr, Nat.zero_add, Int.toNat_natCast, Nat.mul_one, datI, ht1, ht2]) <;> (try simp at hc) <;> (try (exfalso; omega))))
      try simp only [go_sem, restr, Nat.zero_add, Int.toNat_natCast, Nat.mul_one, datI, ht1, ht2]
      refine grow_quiet G_ok (fun KP hKP => ?_)
      simp only [go_sem, restr, Nat.zero_add, Int.toNat_natCast, Nat.mul_one, datI, ht1, ht2]
      repeat (first | (with_reducible refine hKP _ ?_; clear hKP KP) | with_reducible refine And.intro (by first | omega | (unfold inI; omega)) ?_ | (with_reducible refine pK_mk (fun hc => ?_) (fun hc => ?_) <;> (try simp only [go_sem, restr, Nat.zero_add, Int.toNat_natCast, Nat.mul_one, datI, ht1, ht2]) <;> (try simp at hc) <;> (try (exfalso; omega))))
      try simp only [go_sem, restr, Nat.zero_add, Int.toNat_natCast, Nat.mul_one, datI, ht1, ht2]
      refine grow_quiet G_ok (fun KP hKP => ?_)
      simp only [go_sem, restr, Nat.zero_add, Int.toNat_natCast, Nat.mul_one, datI, ht1, ht2]
      repeat (first | (with_reducible refine hKP _ ?_; clear hKP KP) | with_reducible refine And.intro (by first | omega | (unfold inI; omega)) ?_ | (with_reducible refine pK_mk (fun hc => ?_) (fun hc => ?_) <;> (try simp only [go_sem, restr, Nat.zero_add, Int.toNat_natCast, Nat.mul_one, datI, ht1, ht2]) <;> (try simp at hc) <;> (try (exfalso; omega))))
      try simp only [go_sem, restr, Nat.zero_add, Int.toNat_natCast, Nat.mul_one, datI, ht1, ht2]
      refine grow_quiet G_ok (fun KP hKP => ?_)
      simp only [go_sem, restr, Nat.zero_add, Int.toNat_natCast, Nat.mul_one, datI, ht1, ht2]
      repeat (first | (with_reducible refine hKP _ ?_; clear hKP KP) | with_reducible refine And.intro (by first | omega | (unfold inI; omega)) ?_ | (with_reducible refine pK_mk (fun hc => ?_) (fun hc => ?_) <;> (try simp only [go_sem, restr, Nat.zero_add, Int.toNat_natCast, Nat.mul_one, datI, ht1, ht2]) <;> (try simp at hc) <;> (try (exfalso; omega))))
      try simp only [go_sem, restr, Nat.zero_add, Int.toNat_natCast, Nat.mul_one, datI, ht1, ht2]
      refine grow_quiet G_ok (fun KP hKP => ?_)
      simp only [go_sem, restr, Nat.zero_add, Int.toNat_natCast, Nat.mul_one, datI, ht1, ht2]
      repeat (first | (with_reducible refine hKP _ ?_; clear hKP KP) | with_reducible refine And.intro (by first | omega | (unfold inI; omega)) ?_ | (with_reducible refine pK_mk (fun hc => ?_) (fun hc => ?_) <;> (try simp only [go_sem, restr, Nat.zero_add, Int.toNat_natCast, Nat.mul_one, datI, ht1, ht2]) <;> (try simp at hc) <;> (try (exfalso; omega))))
      try simp only [go_sem, restr, Nat.zero_add, Int.toNat_natCast, Nat.mul_one, datI, ht1, ht2]
      refine grow_quiet G_ok (fun KP hKP => ?_)
      simp only [go_sem, restr, Nat.zero_add, Int.toNat_natCast, Nat.mul_one, datI, ht1, ht2]
      repeat (first | (with_reducible refine hKP _ ?_; clear hKP KP) | with_reducible refine And.intro (by first | omega | (unfold inI; omega)) ?_ | (with_reducible refine pK_mk (fun hc => ?_) (fun hc => ?_) <;> (try simp only [go_sem, restr, Nat.zero_add, Int.toNat_natCast, Nat.mul_one, datI, ht1, ht2]) <;> (try simp at hc) <;> (try (exfalso; omega))))
      try simp only [go_sem, restr, Nat.zero_add, Int.toNat_natCast, Nat.mul_one, datI, ht1, ht2]
      refine grow_quiet G_ok (fun KP hKP => ?_)
      simp only [go_sem, restr, Nat.zero_add, Int.toNat_natCast, Nat.mul_one, datI, ht1, ht2]
      repeat (first | (with_reducible refine hKP _ ?_; clear hKP KP) | with_reducible refine And.intro (by first | omega | (unfold inI; omega)) ?_ | (with_reducible refine pK_mk (fun hc => ?_) (fun hc => ?_) <;> (try simp only [go_sem, restr, Nat.zero_add, Int.toNat_natCast, Nat.mul_one, datI, ht1, ht2]) <;> (try simp at hc) <;> (try (exfalso; omega))))
      try simp only [go_sem, restr, Nat.zero_add, Int.toNat_natCast, Nat.mul_one, datI, ht1, ht2]
      refine grow_quiet G_ok (fun KP hKP => ?_)
      simp only [go_sem, restr, Nat.zero_add, Int.toNat_natCast, Nat.mul_one, datI, ht1, ht2]
      repeat (first | (with_reducible refine hKP _ ?_; clear hKP KP) | with_reducible refine And.intro (by first | omega | (unfold inI; omega)) ?_ | (with_reducible refine pK_mk (fun hc => ?_) (fun hc => ?_) <;> (try simp only [go_sem, restr, Nat.zero_add, Int.toNat_natCast, Nat.mul_one, datI, ht1, ht2]) <;> (try simp at hc) <;> (try (exfalso; omega))))
      try simp only [go_sem, restr, Nat.zero_add, Int.toNat_natCast, Nat.mul_one, datI, ht1, ht2]
      refine grow_quiet G_ok (fun KP hKP => ?_)
      simp only [go_sem, restr, Nat.zero_add, Int.toNat_natCast, Nat.mul_one, datI, ht1, ht2]
      repeat (first | (with_reducible refine hKP _ ?_; clear hKP KP) | with_reducible refine And.intro (by first | omega | (unfold inI; omega)) ?_ | (with_reducible refine pK_mk (fun hc => ?_) (fun hc => ?_) <;> (try simp only [go_sem, restr, Nat.zero_add, Int.toNat_natCast, Nat.mul_one, datI, ht1, ht2]) <;> (try simp at hc) <;> (try (exfalso; omega))))
      try simp only [go_sem, restr, Nat.zero_add, Int.toNat_natCast, Nat.mul_one, datI, ht1, ht2]
      refine grow_quiet G_ok (fun KP hKP => ?_)
      simp only [go_sem, restr, Nat.zero_add, Int.toNat_natCast, Nat.mul_one, datI, ht1, ht2]
      repeat (first | (with_reducible refine hKP _ ?_; clear hKP KP) | with_reducible refine And.intro (by first | omega | (unfold inI; omega)) ?_ | (with_reducible refine pK_mk (fun hc => ?_) (fun hc => ?_) <;> (try simp only [go_sem, restr, Nat.zero_add, Int.toNat_natCast, Nat.mul_one, datI, ht1, ht2]) <;> (try simp at hc) <;> (try (exfalso; omega))))
      try simp only [go_sem, restr, Nat.zero_add, Int.toNat_natCast, Nat.mul_one, datI, ht1, ht2]
      refine grow_quiet G_ok (fun KP hKP => ?_)
      simp only [go_sem, restr, Nat.zero_add, Int.toNat_natCast, Nat.mul_one, datI, ht1, ht2]
      repeat (first | (with_reducible refine hKP _ ?_; clear hKP KP) | with_reducible refine And.intro (by first | omega | (unfold inI; omega)) ?_ | (with_reducible refine pK_mk (fun hc => ?_) (fun hc => ?_) <;> (try simp only [go_sem, restr, Nat.zero_add, Int.toNat_natCast, Nat.mul_one, datI, ht1, ht2]) <;> (try simp at hc) <;> (try (exfalso; omega))))
      try simp only [go_sem, restr, Nat.zero_add, Int.toNat_natCast, Nat.mul_one, datI, ht1, ht2]
      refine grow_quiet G_ok (fun KP hKP => ?_)
      simp only [go_sem, restr, Nat.zero_add, Int.toNat_natCast, Nat.mul_one, datI, ht1, ht2]
      repeat (first | (with_reducible refine hKP _ ?_; clear hKP KP) | with_reducible refine And.intro (by first | omega | (unfold inI; omega)) ?_ | (with_reducible refine pK_mk (fun hc => ?_) (fun hc => ?_) <;> (try simp only [go_sem, restr, Nat.zero_add, Int.toNat_natCast, Nat.mul_one, datI, ht1, ht2]) <;> (try simp at hc) <;> (try (exfalso; omega))))
      try simp only [go_sem, restr, Nat.zero_add, Int.toNat_natCast, Nat.mul_one, datI, ht1, ht2]
      refine grow_quiet G_ok (fun KP hKP => ?_)
      simp only [go_sem, restr, Nat.zero_add, Int.toNat_natCast, Nat.mul_one, datI, ht1, ht2]
      repeat (first | (with_reducible refine hKP _ ?_; clear hKP KP) | with_reducible refine And.intro (by first | omega | (unfold inI; omega)) ?_ | (with_reducible refine pK_mk (fun hc => ?_) (fun hc => ?_) <;> (try simp only [go_sem, restr, Nat.zero_add, Int.toNat_natCast, Nat.mul_one, datI, ht1, ht2]) <;> (try simp at hc) <;> (try (exfalso; omega))))
      try simp only [go_sem, restr, Nat.zero_add, Int.toNat_natCast, Nat.mul_one, datI, ht1, ht2]
      refine grow_quiet G_ok (fun KP hKP => ?_)
      simp only [go_sem, restr, Nat.zero_add, Int.toNat_natCast, Nat.mul_one, datI, ht1, ht2]
      repeat (first | (with_reducible refine hKP _ ?_; clear hKP KP) | with_reducible refine And.intro (by first | omega | (unfold inI; omega)) ?_ | (with_reducible refine pK_mk (fun hc => ?_) (fun hc => ?_) <;> (try simp only [go_sem, restr, Nat.zero_add, Int.toNat_natCast, Nat.mul_one, datI, ht1, ht2]) <;> (try simp at hc) <;> (try (exfalso; omega))))
      try simp only [go_sem, restr, Nat.zero_add, Int.toNat_natCast, Nat.mul_one, datI, ht1, ht2]
      (first | (apply grow_call rfl rfl; focus (simp only [go_sem, restr, Nat.zero_add, Int.toNat_natCast, Nat.mul_one, datI, ht1, ht2]; (with_reducible first | exact hc1 | exact hs1))) | (apply grow_callA rfl rfl; focus (simp only [go_sem, restr, Nat.zero_add, Int.toNat_natCast, Nat.mul_one, datI, ht1, ht2]; (with_reducible first | exact hc1 | exact hs1))))
      focus (first | rfl | (simp only [go_sem, restr, Nat.zero_add, Int.toNat_natCast, Nat.mul_one, datI, ht1, ht2]; done) | (simp [restr, AS.get, lk, rf2, rf1, rf0]; done))
      try simp only [go_sem, restr, Nat.zero_add, Int.toNat_natCast, Nat.mul_one, datI, ht1, ht2]
      refine grow_quiet G_ok (fun KP hKP => ?_)
      simp only [go_sem, restr, Nat.zero_add, Int.toNat_natCast, Nat.mul_one, datI, ht1, ht2]
      repeat (first | (with_reducible refine hKP _ ?_; clear hKP KP) | ((with_reducible apply CallQ.eqs); (focus (with_reducible first | exact hc1 | exact hs1)); (focus (first | exact rfl | (simp [RV.flat, D.sc, datI]; done))); try simp only [go_sem, restr, Nat.zero_add, Int.toNat_natCast, Nat.mul_one, datI, ht1, ht2]) | with_reducible refine And.intro (by first | omega | (unfold inI; omega)) ?_ | (with_reducible refine pK_mk (fun hc => ?_) (fun hc => ?_) <;> (try simp only [go_sem, restr, Nat.zero_add, Int.toNat_natCast, Nat.mul_one, datI, ht1, ht2]) <;> (try simp at hc) <;> (try (exfalso; omega))))
      try simp only [go_sem, restr, Nat.zero_add, Int.toNat_natCast, Nat.mul_one, datI, ht1, ht2]
      refine grow_quiet G_ok (fun KP hKP => ?_)
      simp only [go_sem, restr, Nat.zero_add, Int.toNat_natCast, Nat.mul_one, datI, ht1, ht2]
      repeat (first | (with_reducible refine hKP _ ?_; clear hKP KP) | with_reducible refine And.intro (by first | omega | (unfold inI; omega)) ?_ | (with_reducible refine pK_mk (fun hc => ?_) (fun hc => ?_) <;> (try simp only [go_sem, restr, Nat.zero_add, Int.toNat_natCast, Nat.mul_one, datI, ht1, ht2]) <;> (try simp at hc) <;> (try (exfalso; omega))))
      try simp only [go_sem, restr, Nat.zero_add, Int.toNat_natCast, Nat.mul_one, datI, ht1, ht2]
      refine grow_nil ?_
      refine hK _ ?_
      clear hK K
      try simp only [go_sem, restr, Nat.zero_add, Int.toNat_natCast, Nat.mul_one, datI, ht1, ht2]
      by_cases hgt : most < v
      · rw [bestS_yes hsc hgt] at hsu
        repeat' (first | ((with_reducible first | (refine hK _ ?_; clear hK K) | refine stq fun K' hK' => ?_ | refine stc ?_); try simp only [go_sem, hgt]) | (with_reducible first | refine stp ?_ | (refine hK' _ ?_; clear hK' K') | refine kN kl24 fun K hK => ?_ | refine kO fun K hK => ?_) | refine iB ?_ | (with_reducible refine pw_seq_drawK kl24 G_ok mixed (by kernel_rfl) (fun K hK => ?_)) | (with_reducible refine pw_draw G_ok mixed (by kernel_rfl) ?_) | (with_reducible refine pK_mk ?_ ?_ <;> (intro hc; (try simp only [go_sem, hgt]); (try simp at hc); try (exfalso; omega))) | with_reducible refine And.intro (by first | omega | (unfold inI; omega)) ?_)
        all_goals first
          | (exfalso; omega)
          | exact ⟨k + 1, by omega, by omega, (fits_mk [] (by simp [renL_d, bdL_d, sg, over, wipe, wl, memN, ins, rm, lk, fitFr, fit1, ren, renL, bd, bdL, app, fitHp, hget, renB, bdB, hsu, datI] <;> omega))⟩
      · rw [bestS_no hsc hgt] at hsu
        repeat' (first | ((with_reducible first | (refine hK _ ?_; clear hK K) | refine stq fun K' hK' => ?_ | refine stc ?_); try simp only [go_sem, hgt]) | (with_reducible first | refine stp ?_ | (refine hK' _ ?_; clear hK' K') | refine kN kl24 fun K hK => ?_ | refine kO fun K hK => ?_) | refine iB ?_ | (with_reducible refine pw_seq_drawK kl24 G_ok mixed (by kernel_rfl) (fun K hK => ?_)) | (with_reducible refine pw_draw G_ok mixed (by kernel_rfl) ?_) | (with_reducible refine pK_mk ?_ ?_ <;> (intro hc; (try simp only [go_sem, hgt]); (try simp at hc); try (exfalso; omega))) | with_reducible refine And.intro (by first | omega | (unfold inI; omega)) ?_)
        all_goals first
          | (exfalso; omega)
          | exact ⟨k + 1, by omega, by omega, (fits_mk [] (by simp [renL_d, bdL_d, sg, over, wipe, wl, memN, ins, rm, lk, fitFr, fit1, ren, renL, bd, bdL, app, fitHp, hget, renB, bdB, hsu, datI] <;> omega))⟩
    · obtain rfl : k = w.length := by omega
      rw [← hbw]
      by_cases hz : bestW c p f = []
      · rw [hans, optP_neg fun h => h.2 hz, hz]
        repeat' (first | ((with_reducible first | (refine hK _ ?_; clear hK K) | refine stq fun K' hK' => ?_ | refine stc ?_); try simp only [go_sem]) | (with_reducible first | refine stp ?_ | (refine hK' _ ?_; clear hK' K') | refine kN kl24 fun K hK => ?_ | refine kO fun K hK => ?_) | refine iB ?_ | (with_reducible refine pw_seq_drawK kl24 G_ok mixed (by kernel_rfl) (fun K hK => ?_)) | (with_reducible refine pw_draw G_ok mixed (by kernel_rfl) ?_) | (with_reducible refine pK_mk ?_ ?_ <;> (intro hc; (try simp only [go_sem]); (try simp at hc); try (exfalso; omega))) | with_reducible refine And.intro (by first | omega | (unfold inI; omega)) ?_)
        all_goals first
          | (exfalso; omega)
          | (refine retQ_ret rfl rfl (by simp [rowsOf, lk]) ?_; rfl)
      · have hin : bestW c p f ∈ w := by
          rcases hbin with h | h
          · rw [hbw, h] at hz; exact (hz rfl).elim
          · rw [hbw]; exact h.1
        rw [hans, optP_pos ⟨hA, hz⟩]
        obtain ⟨i, n, m, he, _⟩ := hmem _ hin
        rw [he]
        repeat' (first | ((with_reducible first | (refine hK _ ?_; clear hK K) | refine stq fun K' hK' => ?_ | refine stc ?_); try simp only [go_sem, ht1, ht2, datI, List.map_cons, List.map_nil]) | (with_reducible first | refine stp ?_ | (refine hK' _ ?_; clear hK' K') | refine kN kl24 fun K hK => ?_ | refine kO fun K hK => ?_) | refine iB ?_ | (with_reducible refine pw_seq_drawK kl24 G_ok mixed (by kernel_rfl) (fun K hK => ?_)) | (with_reducible refine pw_draw G_ok mixed (by kernel_rfl) ?_) | (with_reducible refine pK_mk ?_ ?_ <;> (intro hc; (try simp only [go_sem, ht1, ht2, datI, List.map_cons, List.map_nil]); (try simp at hc); try (exfalso; omega))) | with_reducible refine And.intro (by first | omega | (unfold inI; omega)) ?_)
        all_goals first
          | (exfalso; omega)
          | (refine retQ_ret rfl rfl (by simp [rowsOf, lk]) ?_; rfl)
  · have hb := bP_false hA
    rw [show ansBestInquiry c p f = _ from optP_neg fun h => hA h.1]
    repeat' (first | ((with_reducible first | (refine hK _ ?_; clear hK K) | refine stq fun K' hK' => ?_ | refine stc ?_); try simp only [go_sem, hb]) | (with_reducible first | refine stp ?_ | (refine hK' _ ?_; clear hK' K') | refine kN kl24 fun K hK => ?_ | refine kO fun K hK => ?_) | ((with_reducible first | apply CallK.eq | apply CallQ.eqs); (· with_reducible first | exact hs0); (· first | exact rfl | (simp [RV.flat, D.sc, datI]; done)); try simp only [go_sem, hb]) | refine iB ?_ | (with_reducible refine pw_seq_drawK kl24 G_ok mixed (by kernel_rfl) (fun K hK => ?_)) | (with_reducible refine pw_draw G_ok mixed (by kernel_rfl) ?_) | (with_reducible refine pK_mk ?_ ?_ <;> (intro hc; (try simp only [go_sem, hb]); (try simp at hc); try (exfalso; omega))) | with_reducible refine And.intro (by first | omega | (unfold inI; omega)) ?_)
    all_goals first
      | (exfalso; omega)
      | (refine retQ_ret rfl rfl (by simp [rowsOf, lk]) ?_; rfl)
theorem spec_BestInquiry_ok (c : CodeD) (p : PerfD) (f : Int) (hcf : CdFit 1048576 c) (hpf : PfFit 1048576 p) : FnEq Tryz.prog 23 [.agg c.cs, .agg p.cs, .d (.int .i64 f)] [.d (.int .i64 ((ansBestInquiry c p f).getD (0, 0, 0)).1), .d (.int .i64 ((ansBestInquiry c p f).getD (0, 0, 0)).2.1), .d (.int .i64 ((ansBestInquiry c p f).getD (0, 0, 0)).2.2), .d (.bool (ansBestInquiry c p f).isSome)] := by
  have hs0 := sgAsked_ok c p f hcf hpf
  refine fn_ok G_ok Tryz.func23 rfl rfl ?_; simp only [Tryz.ntmps23, List.length_cons, List.length_nil, Nat.reduceAdd, Nat.reduceSub, enm]
  by_cases hA : AskP c p f
  · have hb := bP_true hA
    have hv := hA.1.2.1
    have hs2 := sgScore_ok c p f hA
    have ho := eq_dataI (iqAll_ok p.items hv)
    simp only [List.map_cons, List.map_nil, RV.data] at ho
    have hlen := callsW_len hv
    have hmem : ∀ x ∈ callsW p.items, ∃ i k m : Int, x = [i, k, m] ∧ HasNm p.items i k ∧ 0 ≤ m ∧ m ≤ 3 := fun x hx => (callsW_mem hx).nm hv
    have hans : ansBestInquiry c p f = optP (AskP c p f ∧ bestW c p f ≠ []) ((bestW c p f).getD 0 0, (bestW c p f).getD 1 0, (bestW c p f).getD 2 0) := rfl
    have hbw : bestW c p f = (bestTo c p f (callsW p.items) (callsW p.items).length).2 := rfl
    have hbin := bestTo_in c p f (callsW p.items) (callsW p.items).length
    generalize callsW p.items = w at ho hlen hmem hbw hbin
    repeat' (first | ((with_reducible first | (refine hK _ ?_; clear hK K) | refine stq fun K' hK' => ?_ | refine stc ?_); try simp only [go_sem, hb]) | (with_reducible first | refine stp ?_ | (refine hK' _ ?_; clear hK' K') | refine kN kl23 fun K hK => ?_ | refine kO fun K hK => ?_) | ((with_reducible first | apply CallK.eq | apply CallQ.eqs); (· with_reducible first | exact hs0 | exact hs2 | exact ho); (· first | exact rfl | (simp [RV.flat, D.sc, datI]; done)); try simp only [go_sem, hb]) | refine iB ?_ | (with_reducible refine pw_seq_drawK kl23 G_ok mixed (by kernel_rfl) (fun K hK => ?_)) | (with_reducible refine pw_draw G_ok mixed (by kernel_rfl) ?_) | (with_reducible refine pK_mk ?_ ?_ <;> (intro hc; (try simp only [go_sem, hb]); (try simp at hc); try (exfalso; omega))) | with_reducible refine And.intro (by first | omega | (unfold inI; omega)) ?_)
    all_goals first
      | (exfalso; omega)
      | skip
    refine pw_freeze 10 rfl rfl rfl ?_
    simp only [go_sem]
    refine pw_loop_over [6, 7, 8, 9, 10, 11, 12, 14, 15, 30, 31, 32, 33, 34, 35, 36, 37, 38, 39, 40, 41, 42, 43, 44, 45, 46, 47, 48, 49, 50, 51, 52] (fun k : Nat => [(30, .d (.int .i64 (k : Int))), (11, .d (.int .i64 (bestTo c p f w k).1)), (10, .d (.lst 1 ((spB (bestTo c p f w k).2).map datI))), (12, .d (.bool (!(bestTo c p f w k).2.isEmpty))), (3, .bptr 0 0), (4, .bptr 1 0), (21, .und)]) (fun k => [(0, .box 42 c.cs), (1, .box 48 p.cs)]) 2 (fun k => k ≤ w.length) (fun k => w.length - k) 0 (Nat.zero_le _) (fits_mk [] (by simp [renL_d, bdL_d, sg, over, wipe, wl, memN, ins, rm, lk, fitFr, fit1, ren, renL, bd, bdL, app, fitHp, hget, renB, bdB, bestTo_zero, spB, datI] <;> omega)) ?_
    intro k hk; simp only [over, wipe, wl, memN, ins, rm, if_true, if_false, Nat.reduceEqDiff, Bool.false_eq_true, reduceCtorEq]
    have ht1 : Int.toNat 1 = 1 := rfl
    have ht2 : Int.toNat 2 = 2 := rfl
    by_cases hlt : k < w.length
    · have hx := List.getElem?_eq_getElem hlt
      have hxm := List.getElem_mem hlt
      generalize w[k] = x at hx hxm
      obtain ⟨i, n, m, rfl, hN, hm1, hm2⟩ := hmem x hxm
      have hs1 := iqWith_ok c p f i n m hpf hA hN hm1 hm2
      have hsc : scW c p f [i, n, m] = segW c (withI p (stepI p.items (oneI i n m))) f := rfl
      have hsu := bestTo_succ (c := c) (p := p) (f := f) hx
      generalize segW c (withI p (stepI p.items (oneI i n m))) f = v at hs1 hsc
      generalize bestTo c p f w k = s at hsu ⊢
      obtain ⟨most, best⟩ := s
      by_cases hgt : most < v
      · rw [bestS_yes hsc hgt] at hsu
        repeat' (first | ((with_reducible first | (refine hK _ ?_; clear hK K) | refine stq fun K' hK' => ?_ | refine stc ?_); try simp only [go_sem, List.getElem?_map, hx, Option.map_some, datL, datI, hlt, List.map_cons, List.map_nil, ht1, ht2, hgt]) | (with_reducible first | refine stp ?_ | (refine hK' _ ?_; clear hK' K') | refine kN kl23 fun K hK => ?_ | refine kO fun K hK => ?_) | ((with_reducible first | apply CallK.eq | apply CallQ.eqs); (· with_reducible first | exact hs1); (· first | exact rfl | (simp [RV.flat, D.sc, datI]; done)); try simp only [go_sem, List.getElem?_map, hx, Option.map_some, datL, datI, hlt, List.map_cons, List.map_nil, ht1, ht2, hgt]) | refine iB ?_ | (with_reducible refine pw_seq_drawK kl23 G_ok mixed (by kernel_rfl) (fun K hK => ?_)) | (with_reducible refine pw_draw G_ok mixed (by kernel_rfl) ?_) | (with_reducible refine pK_mk ?_ ?_ <;> (intro hc; (try simp only [go_sem, List.getElem?_map, hx, Option.map_some, datL, datI, hlt, List.map_cons, List.map_nil, ht1, ht2, hgt]); (try simp at hc); try (exfalso; omega))) | with_reducible refine And.intro (by first | omega | (unfold inI; omega)) ?_)
        all_goals first
          | (exfalso; omega)
          | exact ⟨k + 1, by omega, by omega, (fits_mk [] (by simp [renL_d, bdL_d, sg, over, wipe, wl, memN, ins, rm, lk, fitFr, fit1, ren, renL, bd, bdL, app, fitHp, hget, renB, bdB, hsu, datI, spB] <;> omega))⟩
      · rw [bestS_no hsc hgt] at hsu
        repeat' (first | ((with_reducible first | (refine hK _ ?_; clear hK K) | refine stq fun K' hK' => ?_ | refine stc ?_); try simp only [go_sem, List.getElem?_map, hx, Option.map_some, datL, datI, hlt, List.map_cons, List.map_nil, ht1, ht2, hgt]) | (with_reducible first | refine stp ?_ | (refine hK' _ ?_; clear hK' K') | refine kN kl23 fun K hK => ?_ | refine kO fun K hK => ?_) | ((with_reducible first | apply CallK.eq | apply CallQ.eqs); (· with_reducible first | exact hs1); (· first | exact rfl | (simp [RV.flat, D.sc, datI]; done)); try simp only [go_sem, List.getElem?_map, hx, Option.map_some, datL, datI, hlt, List.map_cons, List.map_nil, ht1, ht2, hgt]) | refine iB ?_ | (with_reducible refine pw_seq_drawK kl23 G_ok mixed (by kernel_rfl) (fun K hK => ?_)) | (with_reducible refine pw_draw G_ok mixed (by kernel_rfl) ?_) | (with_reducible refine pK_mk ?_ ?_ <;> (intro hc; (try simp only [go_sem, List.getElem?_map, hx, Option.map_some, datL, datI, hlt, List.map_cons, List.map_nil, ht1, ht2, hgt]); (try simp at hc); try (exfalso; omega))) | with_reducible refine And.intro (by first | omega | (unfold inI; omega)) ?_)
        all_goals first
          | (exfalso; omega)
          | exact ⟨k + 1, by omega, by omega, (fits_mk [] (by simp [renL_d, bdL_d, sg, over, wipe, wl, memN, ins, rm, lk, fitFr, fit1, ren, renL, bd, bdL, app, fitHp, hget, renB, bdB, hsu, datI] <;> omega))⟩
    · obtain rfl : k = w.length := by omega
      rw [← hbw]
      by_cases hz : bestW c p f = []
      · rw [hans, optP_neg fun h => h.2 hz, hz]
        repeat' (first | ((with_reducible first | (refine hK _ ?_; clear hK K) | refine stq fun K' hK' => ?_ | refine stc ?_); try simp only [go_sem, spB, datI, ht1, ht2, List.map_cons, List.map_nil]) | (with_reducible first | refine stp ?_ | (refine hK' _ ?_; clear hK' K') | refine kN kl23 fun K hK => ?_ | refine kO fun K hK => ?_) | refine iB ?_ | (with_reducible refine pw_seq_drawK kl23 G_ok mixed (by kernel_rfl) (fun K hK => ?_)) | (with_reducible refine pw_draw G_ok mixed (by kernel_rfl) ?_) | (with_reducible refine pK_mk ?_ ?_ <;> (intro hc; (try simp only [go_sem, spB, datI, ht1, ht2, List.map_cons, List.map_nil]); (try simp at hc); try (exfalso; omega))) | with_reducible refine And.intro (by first | omega | (unfold inI; omega)) ?_)
        all_goals first
          | (exfalso; omega)
          | (refine retQ_ret rfl rfl (by simp [rowsOf, lk]) ?_; rfl)
      · have hin : bestW c p f ∈ w := by
          rcases hbin with h | h
          · rw [hbw, h] at hz; exact (hz rfl).elim
          · rw [hbw]; exact h.1
        rw [hans, optP_pos ⟨hA, hz⟩]
        obtain ⟨i, n, m, he, _⟩ := hmem _ hin
        rw [he]
        rw [show spB [i, n, m] = [i, n, m] from if_neg (by simp)]
        repeat' (first | ((with_reducible first | (refine hK _ ?_; clear hK K) | refine stq fun K' hK' => ?_ | refine stc ?_); try simp only [go_sem, ht1, ht2, datI, List.map_cons, List.map_nil, List.isEmpty_cons, Bool.not_false]) | (with_reducible first | refine stp ?_ | (refine hK' _ ?_; clear hK' K') | refine kN kl23 fun K hK => ?_ | refine kO fun K hK => ?_) | refine iB ?_ | (with_reducible refine pw_seq_drawK kl23 G_ok mixed (by kernel_rfl) (fun K hK => ?_)) | (with_reducible refine pw_draw G_ok mixed (by kernel_rfl) ?_) | (with_reducible refine pK_mk ?_ ?_ <;> (intro hc; (try simp only [go_sem, ht1, ht2, datI, List.map_cons, List.map_nil, List.isEmpty_cons, Bool.not_false]); (try simp at hc); try (exfalso; omega))) | with_reducible refine And.intro (by first | omega | (unfold inI; omega)) ?_)
        all_goals first
          | (exfalso; omega)
          | (refine retQ_ret rfl rfl (by simp [rowsOf, lk]) ?_; rfl)
  · have hb := bP_false hA
    rw [show ansBestInquiry c p f = _ from optP_neg fun h => hA h.1]
    repeat' (first | ((with_reducible first | (refine hK _ ?_; clear hK K) | refine stq fun K' hK' => ?_ | refine stc ?_); try simp only [go_sem, hb]) | (with_reducible first | refine stp ?_ | (refine hK' _ ?_; clear hK' K') | refine kN kl23 fun K hK => ?_ | refine kO fun K hK => ?_) | ((with_reducible first | apply CallK.eq | apply CallQ.eqs); (· with_reducible first | exact hs0); (· first | exact rfl | (simp [RV.flat, D.sc, datI]; done)); try simp only [go_sem, hb]) | refine iB ?_ | (with_reducible refine pw_seq_drawK kl23 G_ok mixed (by kernel_rfl) (fun K hK => ?_)) | (with_reducible refine pw_draw G_ok mixed (by kernel_rfl) ?_) | (with_reducible refine pK_mk ?_ ?_ <;> (intro hc; (try simp only [go_sem, hb]); (try simp at hc); try (exfalso; omega))) | with_reducible refine And.intro (by first | omega | (unfold inI; omega)) ?_)
    all_goals first
      | (exfalso; omega)
      | (refine retQ_ret rfl rfl (by simp [rowsOf, lk]) ?_; rfl)
end Go.Proofs.YtphakidbddamfaaGreat
