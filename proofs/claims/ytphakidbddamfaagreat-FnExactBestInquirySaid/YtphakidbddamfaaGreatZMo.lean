/-
  What an inquiry gains: the program's function, in the abstract machine.
-/
import Derived.Test.YtphakidbddamfaaGreatZJa
import Derived.Test.YtphakidbddamfaaGreatZGr
import Derived.Test.YtphakidbddamfaaGreatZOrd
set_option linter.unusedSimpArgs false
set_option linter.unusedVariables false
set_option maxHeartbeats 2000000
set_option maxRecDepth 100000
namespace Go.Proofs.YtphakidbddamfaaGreat
open Go.RowKit

theorem impl_InquiryGain_ok (c : CodeD) (p : PerfD) (f : Int) (x : InquiryD) (hcf : CdFit 1048576 c) (hpf : PfFit 1048576 p) : FnEq Tryz.prog 15 [.agg c.cs, .agg p.cs, .d (.int .i64 f), .agg [.d (.int .i64 x.tick), .d (.int .i64 x.item), .d (.int .i64 x.name), .d (.int .i64 x.mark), .d (.bool x.acc)]] [.d (.int .i64 ((ansInquiryGain c p f x).getD 0)), .d (.bool (ansInquiryGain c p f x).isSome)] := by
  have hs0 := canScore_ok c p f hcf hpf
  refine fn_ok G_ok Tryz.func15 rfl rfl ?_; simp only [Tryz.ntmps15, List.length_cons, List.length_nil, Nat.reduceAdd, Nat.reduceSub, enm]
  by_cases hA : AskP c p f
  · have hb := bP_true hA
    have hd := decided_ok p.items [x] hpf.1.1 hpf.1.2 hA.1.2.1 (by simp)
    simp only [List.map_cons, List.map_nil, InquiryD.dat] at hd
    by_cases hI : InqsOk p.items [x]
    · have hx0 := hI 0 x rfl
      have hN : HasNm p.items x.item x.name := hx0.2.2.2.1
      have hne : (itTo p.items [x] [x].length).length ≠ 0 := by
        obtain ⟨_, _, y, hy, _⟩ := hN
        have := (List.getElem?_eq_some_iff.1 hy).1
        rw [itTo_len]; omega
      rw [decR_yes hI, show rvI (itTo p.items [x] [x].length) = _ from if_neg hne, show decide ((([x] : List InquiryD).length : Int) ≤ 20) = true from by simp] at hd
      rw [show ansInquiryGain c p f x = _ from optP_pos ⟨hA, hI⟩]
      have hw := eq_dataI (withCall_ok p.items x.item x.name x.mark hpf.1.1 hpf.1.2 hA.1.2.1 hN)
      simp only [List.map_cons, List.map_nil, RV.data] at hw
      have hA1 := ask_one (i := x.item) (k := x.name) hA hx0.2.2.2.2.1 hx0.2.2.2.2.2.1
      have hs1 := scoreWith_ok c p f _ hA1
      have hs2 := segmentScore_ok c p f hA
      have hb3 := segW_bd hA
      have hb4 := segW_bd hA1
      generalize segW c p f = u at hs2 hb3
      generalize segW c (withI p (stepI p.items (oneI x.item x.name x.mark))) f = v at hs1 hb4
      repeat' (first | ((with_reducible first | (refine hK _ ?_; clear hK K) | refine stq fun K' hK' => ?_ | refine stc ?_); try simp only [go_sem, hb]) | (with_reducible first | refine stp ?_ | (refine hK' _ ?_; clear hK' K') | refine kN kl15 fun K hK => ?_ | refine kO fun K hK => ?_) | ((with_reducible apply CallK.eq); (· with_reducible first | exact hs0 | exact hd); (· simp [RV.flat, D.sc, datI]); try simp only [go_sem, hb]) | (with_reducible refine pK_mk ?_ ?_ <;> (intro hc; (try simp only [go_sem, hb]); (try simp at hc); try (exfalso; omega))) | with_reducible refine And.intro (by first | omega | (unfold inI; omega)) ?_)
      all_goals first
        | (exfalso; omega)
        | skip
      refine pw_seq_grow kl15 mixed [[4], [5], [2], [5], [30], [7], [32], [7], [34], [7], [36], [31, 33, 35, 37], [27, 28, 29, 38], [4], [5], [2], [40, 41, 42], [39, 43], [44], []] 45 rfl (by decide +kernel) (fun K hK => ?_)
      refine grow_quiet G_ok (fun KP hKP => ?_)
      simp only [go_sem, restr, Nat.zero_add, Int.toNat_natCast, Nat.mul_one]
      repeat (first | (with_reducible refine hKP _ ?_; clear hKP KP) | with_reducible refine And.intro (by first | omega | (unfold inI; omega)) ?_ | (with_reducible refine pK_mk (fun hc => ?_) (fun hc => ?_) <;> (try simp only [go_sem, restr, Nat.zero_add, Int.toNat_natCast, Nat.mul_one]) <;> (try simp at hc) <;> (try (exfalso; omega))))
      try simp only [go_sem, restr, Nat.zero_add, Int.toNat_natCast, Nat.mul_one]
      refine grow_quiet G_ok (fun KP hKP => ?_)
      simp only [go_sem, restr, Nat.zero_add, Int.toNat_natCast, Nat.mul_one]
      repeat (first | (with_reducible refine hKP _ ?_; clear hKP KP) | with_reducible refine And.intro (by first | omega | (unfold inI; omega)) ?_ | (with_reducible refine pK_mk (fun hc => ?_) (fun hc => ?_) <;> (try simp only [go_sem, restr, Nat.zero_add, Int.toNat_natCast, Nat.mul_one]) <;> (try simp at hc) <;> (try (exfalso; omega))))
      try simp only [go_sem, restr, Nat.zero_add, Int.toNat_natCast, Nat.mul_one]
      refine grow_quiet G_ok (fun KP hKP => ?_)
      simp only [go_sem, restr, Nat.zero_add, Int.toNat_natCast, Nat.mul_one]
      repeat (first | (with_reducible refine hKP _ ?_; clear hKP KP) | with_reducible refine And.intro (by first | omega | (unfold inI; omega)) ?_ | (with_reducible refine pK_mk (fun hc => ?_) (fun hc => ?_) <;> (try simp only [go_sem, restr, Nat.zero_add, Int.toNat_natCast, Nat.mul_one]) <;> (try simp at hc) <;> (try (exfalso; omega))))
      try simp only [go_sem, restr, Nat.zero_add, Int.toNat_natCast, Nat.mul_one]
      refine grow_quiet G_ok (fun KP hKP => ?_)
      simp only [go_sem, restr, Nat.zero_add, Int.toNat_natCast, Nat.mul_one]
      repeat (first | (with_reducible refine hKP _ ?_; clear hKP KP) | with_reducible refine And.intro (by first | omega | (unfold inI; omega)) ?_ | (with_reducible refine pK_mk (fun hc => ?_) (fun hc => ?_) <;> (try simp only [go_sem, restr, Nat.zero_add, Int.toNat_natCast, Nat.mul_one]) <;> (try simp at hc) <;> (try (exfalso; omega))))
      try simp only [go_sem, restr, Nat.zero_add, Int.toNat_natCast, Nat.mul_one]
      refine grow_quiet G_ok (fun KP hKP => ?_)
      simp only [go_sem, restr, Nat.zero_add, Int.toNat_natCast, Nat.mul_one]
      repeat (first | (with_reducible refine hKP _ ?_; clear hKP KP) | with_reducible refine And.intro (by first | omega | (unfold inI; omega)) ?_ | (with_reducible refine pK_mk (fun hc => ?_) (fun hc => ?_) <;> (try simp only [go_sem, restr, Nat.zero_add, Int.toNat_natCast, Nat.mul_one]) <;> (try simp at hc) <;> (try (exfalso; omega))))
      try simp only [go_sem, restr, Nat.zero_add, Int.toNat_natCast, Nat.mul_one]
      refine grow_quiet G_ok (fun KP hKP => ?_)
      simp only [go_sem, restr, Nat.zero_add, Int.toNat_natCast, Nat.mul_one]
      repeat (first | (with_reducible refine hKP _ ?_; clear hKP KP) | with_reducible refine And.intro (by first | omega | (unfold inI; omega)) ?_ | (with_reducible refine pK_mk (fun hc => ?_) (fun hc => ?_) <;> (try simp only [go_sem, restr, Nat.zero_add, Int.toNat_natCast, Nat.mul_one]) <;> (try simp at hc) <;> (try (exfalso; omega))))
      try simp only [go_sem, restr, Nat.zero_add, Int.toNat_natCast, Nat.mul_one]
      refine grow_quiet G_ok (fun KP hKP => ?_)
      simp only [go_sem, restr, Nat.zero_add, Int.toNat_natCast, Nat.mul_one]
      repeat (first | (with_reducible refine hKP _ ?_; clear hKP KP) | with_reducible refine And.intro (by first | omega | (unfold inI; omega)) ?_ | (with_reducible refine pK_mk (fun hc => ?_) (fun hc => ?_) <;> (try simp only [go_sem, restr, Nat.zero_add, Int.toNat_natCast, Nat.mul_one]) <;> (try simp at hc) <;> (try (exfalso; omega))))
      try simp only [go_sem, restr, Nat.zero_add, Int.toNat_natCast, Nat.mul_one]
      refine grow_quiet G_ok (fun KP hKP => ?_)
      simp only [go_sem, restr, Nat.zero_add, Int.toNat_natCast, Nat.mul_one]
      repeat (first | (with_reducible refine hKP _ ?_; clear hKP KP) | with_reducible refine And.intro (by first | omega | (unfold inI; omega)) ?_ | (with_reducible refine pK_mk (fun hc => ?_) (fun hc => ?_) <;> (try simp only [go_sem, restr, Nat.zero_add, Int.toNat_natCast, Nat.mul_one]) <;> (try simp at hc) <;> (try (exfalso; omega))))
      try simp only [go_sem, restr, Nat.zero_add, Int.toNat_natCast, Nat.mul_one]
      refine grow_quiet G_ok (fun KP hKP => ?_)
      simp only [go_sem, restr, Nat.zero_add, Int.toNat_natCast, Nat.mul_one]
      repeat (first | (with_reducible refine hKP _ ?_; clear hKP KP) | with_reducible refine And.intro (by first | omega | (unfold inI; omega)) ?_ | (with_reducible refine pK_mk (fun hc => ?_) (fun hc => ?_) <;> (try simp only [go_sem, restr, Nat.zero_add, Int.toNat_natCast, Nat.mul_one]) <;> (try simp at hc) <;> (try (exfalso; omega))))
      try simp only [go_sem, restr, Nat.zero_add, Int.toNat_natCast, Nat.mul_one]
      refine grow_quiet G_ok (fun KP hKP => ?_)
      simp only [go_sem, restr, Nat.zero_add, Int.toNat_natCast, Nat.mul_one]
      repeat (first | (with_reducible refine hKP _ ?_; clear hKP KP) | with_reducible refine And.intro (by first | omega | (unfold inI; omega)) ?_ | (with_reducible refine pK_mk (fun hc => ?_) (fun hc => ?_) <;> (try simp only [go_sem, restr, Nat.zero_add, Int.toNat_natCast, Nat.mul_one]) <;> (try simp at hc) <;> (try (exfalso; omega))))
      try simp only [go_sem, restr, Nat.zero_add, Int.toNat_natCast, Nat.mul_one]
      refine grow_quiet G_ok (fun KP hKP => ?_)
      simp only [go_sem, restr, Nat.zero_add, Int.toNat_natCast, Nat.mul_one]
      repeat (first | (with_reducible refine hKP _ ?_; clear hKP KP) | with_reducible refine And.intro (by first | omega | (unfold inI; omega)) ?_ | (with_reducible refine pK_mk (fun hc => ?_) (fun hc => ?_) <;> (try simp only [go_sem, restr, Nat.zero_add, Int.toNat_natCast, Nat.mul_one]) <;> (try simp at hc) <;> (try (exfalso; omega))))
      try simp only [go_sem, restr, Nat.zero_add, Int.toNat_natCast, Nat.mul_one]
      (first | (apply grow_call rfl rfl; focus (simp only [go_sem, restr, Nat.zero_add, Int.toNat_natCast, Nat.mul_one]; (with_reducible first | exact hw | exact hs1 | exact hs2))) | (apply grow_callA rfl rfl; focus (simp only [go_sem, restr, Nat.zero_add, Int.toNat_natCast, Nat.mul_one]; (with_reducible first | exact hw | exact hs1 | exact hs2))))
      focus (first | rfl | (simp only [go_sem, restr, Nat.zero_add, Int.toNat_natCast, Nat.mul_one]; done) | (simp [restr, AS.get, lk, rf2, rf1, rf0]; done))
      try simp only [go_sem, restr, Nat.zero_add, Int.toNat_natCast, Nat.mul_one]
      refine grow_quiet G_ok (fun KP hKP => ?_)
      simp only [go_sem, restr, Nat.zero_add, Int.toNat_natCast, Nat.mul_one]
      repeat (first | (with_reducible refine hKP _ ?_; clear hKP KP) | ((with_reducible apply CallQ.eqs); (focus (with_reducible first | exact hw | exact hs1 | exact hs2)); (focus (first | exact rfl | (simp [RV.flat, D.sc, datI]; done))); try simp only [go_sem, restr, Nat.zero_add, Int.toNat_natCast, Nat.mul_one]) | with_reducible refine And.intro (by first | omega | (unfold inI; omega)) ?_ | (with_reducible refine pK_mk (fun hc => ?_) (fun hc => ?_) <;> (try simp only [go_sem, restr, Nat.zero_add, Int.toNat_natCast, Nat.mul_one]) <;> (try simp at hc) <;> (try (exfalso; omega))))
      try simp only [go_sem, restr, Nat.zero_add, Int.toNat_natCast, Nat.mul_one]
      refine grow_quiet G_ok (fun KP hKP => ?_)
      simp only [go_sem, restr, Nat.zero_add, Int.toNat_natCast, Nat.mul_one]
      repeat (first | (with_reducible refine hKP _ ?_; clear hKP KP) | with_reducible refine And.intro (by first | omega | (unfold inI; omega)) ?_ | (with_reducible refine pK_mk (fun hc => ?_) (fun hc => ?_) <;> (try simp only [go_sem, restr, Nat.zero_add, Int.toNat_natCast, Nat.mul_one]) <;> (try simp at hc) <;> (try (exfalso; omega))))
      try simp only [go_sem, restr, Nat.zero_add, Int.toNat_natCast, Nat.mul_one]
      refine grow_quiet G_ok (fun KP hKP => ?_)
      simp only [go_sem, restr, Nat.zero_add, Int.toNat_natCast, Nat.mul_one]
      repeat (first | (with_reducible refine hKP _ ?_; clear hKP KP) | with_reducible refine And.intro (by first | omega | (unfold inI; omega)) ?_ | (with_reducible refine pK_mk (fun hc => ?_) (fun hc => ?_) <;> (try simp only [go_sem, restr, Nat.zero_add, Int.toNat_natCast, Nat.mul_one]) <;> (try simp at hc) <;> (try (exfalso; omega))))
      try simp only [go_sem, restr, Nat.zero_add, Int.toNat_natCast, Nat.mul_one]
      refine grow_quiet G_ok (fun KP hKP => ?_)
      simp only [go_sem, restr, Nat.zero_add, Int.toNat_natCast, Nat.mul_one]
      repeat (first | (with_reducible refine hKP _ ?_; clear hKP KP) | with_reducible refine And.intro (by first | omega | (unfold inI; omega)) ?_ | (with_reducible refine pK_mk (fun hc => ?_) (fun hc => ?_) <;> (try simp only [go_sem, restr, Nat.zero_add, Int.toNat_natCast, Nat.mul_one]) <;> (try simp at hc) <;> (try (exfalso; omega))))
      try simp only [go_sem, restr, Nat.zero_add, Int.toNat_natCast, Nat.mul_one]
      refine grow_quiet G_ok (fun KP hKP => ?_)
      simp only [go_sem, restr, Nat.zero_add, Int.toNat_natCast, Nat.mul_one]
      repeat (first | (with_reducible refine hKP _ ?_; clear hKP KP) | ((with_reducible apply CallQ.eqs); (focus (with_reducible first | exact hw | exact hs1 | exact hs2)); (focus (first | exact rfl | (simp [RV.flat, D.sc, datI]; done))); try simp only [go_sem, restr, Nat.zero_add, Int.toNat_natCast, Nat.mul_one]) | with_reducible refine And.intro (by first | omega | (unfold inI; omega)) ?_ | (with_reducible refine pK_mk (fun hc => ?_) (fun hc => ?_) <;> (try simp only [go_sem, restr, Nat.zero_add, Int.toNat_natCast, Nat.mul_one]) <;> (try simp at hc) <;> (try (exfalso; omega))))
      try simp only [go_sem, restr, Nat.zero_add, Int.toNat_natCast, Nat.mul_one]
      refine grow_quiet G_ok (fun KP hKP => ?_)
      simp only [go_sem, restr, Nat.zero_add, Int.toNat_natCast, Nat.mul_one]
      repeat (first | (with_reducible refine hKP _ ?_; clear hKP KP) | with_reducible refine And.intro (by first | omega | (unfold inI; omega)) ?_ | (with_reducible refine pK_mk (fun hc => ?_) (fun hc => ?_) <;> (try simp only [go_sem, restr, Nat.zero_add, Int.toNat_natCast, Nat.mul_one]) <;> (try simp at hc) <;> (try (exfalso; omega))))
      try simp only [go_sem, restr, Nat.zero_add, Int.toNat_natCast, Nat.mul_one]
      refine grow_quiet G_ok (fun KP hKP => ?_)
      simp only [go_sem, restr, Nat.zero_add, Int.toNat_natCast, Nat.mul_one]
      repeat (first | (with_reducible refine hKP _ ?_; clear hKP KP) | with_reducible refine And.intro (by first | omega | (unfold inI; omega)) ?_ | (with_reducible refine pK_mk (fun hc => ?_) (fun hc => ?_) <;> (try simp only [go_sem, restr, Nat.zero_add, Int.toNat_natCast, Nat.mul_one]) <;> (try simp at hc) <;> (try (exfalso; omega))))
      try simp only [go_sem, restr, Nat.zero_add, Int.toNat_natCast, Nat.mul_one]
      refine grow_quiet G_ok (fun KP hKP => ?_)
      simp only [go_sem, restr, Nat.zero_add, Int.toNat_natCast, Nat.mul_one]
      repeat (first | (with_reducible refine hKP _ ?_; clear hKP KP) | with_reducible refine And.intro (by first | omega | (unfold inI; omega)) ?_ | (with_reducible refine pK_mk (fun hc => ?_) (fun hc => ?_) <;> (try simp only [go_sem, restr, Nat.zero_add, Int.toNat_natCast, Nat.mul_one]) <;> (try simp at hc) <;> (try (exfalso; omega))))
      try simp only [go_sem, restr, Nat.zero_add, Int.toNat_natCast, Nat.mul_one]
      refine grow_nil ?_
      refine hK _ ?_
      clear hK K
      try simp only [go_sem, restr, Nat.zero_add, Int.toNat_natCast, Nat.mul_one]
      repeat' (first | ((with_reducible first | (refine hK _ ?_; clear hK K) | refine stq fun K' hK' => ?_ | refine stc ?_); try simp only [go_sem]) | (with_reducible first | refine stp ?_ | (refine hK' _ ?_; clear hK' K') | refine kN kl15 fun K hK => ?_ | refine kO fun K hK => ?_) | (with_reducible refine pK_mk ?_ ?_ <;> (intro hc; (try simp only [go_sem]); (try simp at hc); try (exfalso; omega))) | with_reducible refine And.intro (by first | omega | (unfold inI; omega)) ?_)
      refine retQ_ret rfl rfl (by simp [rowsOf, lk]) ?_; rfl
    · rw [decR_no hI] at hd
      rw [show ansInquiryGain c p f x = _ from optP_neg fun h => hI h.2]
      repeat' (first | ((with_reducible first | (refine hK _ ?_; clear hK K) | refine stq fun K' hK' => ?_ | refine stc ?_); try simp only [go_sem, hb]) | (with_reducible first | refine stp ?_ | (refine hK' _ ?_; clear hK' K') | refine kN kl15 fun K hK => ?_ | refine kO fun K hK => ?_) | ((with_reducible apply CallK.eq); (· with_reducible first | exact hs0 | exact hd); (· simp [RV.flat, D.sc, datI]); try simp only [go_sem, hb]) | (with_reducible refine pK_mk ?_ ?_ <;> (intro hc; (try simp only [go_sem, hb]); (try simp at hc); try (exfalso; omega))) | with_reducible refine And.intro (by first | omega | (unfold inI; omega)) ?_)
      all_goals first
        | (exfalso; omega)
        | (refine retQ_ret rfl rfl (by simp [rowsOf, lk]) ?_; rfl)
  · have hb := bP_false hA
    rw [show ansInquiryGain c p f x = _ from optP_neg fun h => hA h.1]
    repeat' (first | ((with_reducible first | (refine hK _ ?_; clear hK K) | refine stq fun K' hK' => ?_ | refine stc ?_); try simp only [go_sem, hb]) | (with_reducible first | refine stp ?_ | (refine hK' _ ?_; clear hK' K') | refine kN kl15 fun K hK => ?_ | refine kO fun K hK => ?_) | ((with_reducible apply CallK.eq); (· with_reducible first | exact hs0); (· simp [RV.flat, D.sc, datI]); try simp only [go_sem, hb]) | (with_reducible refine pK_mk ?_ ?_ <;> (intro hc; (try simp only [go_sem, hb]); (try simp at hc); try (exfalso; omega))) | with_reducible refine And.intro (by first | omega | (unfold inI; omega)) ?_)
    all_goals first
      | (exfalso; omega)
      | (refine retQ_ret rfl rfl (by simp [rowsOf, lk]) ?_; rfl)
end Go.Proofs.YtphakidbddamfaaGreat

/-
  The abstract machine: a struct with two nil lists of its own. No program is named here.
-/
namespace Go.Proofs.YtphakidbddamfaaGreat
open Go.RowKit

/-- zero cells: the first nil list is one row of the call's own, the next is another -/
def nilL (i i' : Nat) : List D → List PV
  | [] => []
  | .lst _ [] :: r => .row i 0 :: r.map (nilP i')
  | d :: r => .d d :: nilL i i' r
theorem nilL_cons (i i' : Nat) (d : D) (r : List D) : (∃ sz, d = .lst sz [] ∧ nilL i i' (d :: r) = .row i 0 :: r.map (nilP i')) ∨ nilL i i' (d :: r) = .d d :: nilL i i' r := by
  rcases d with _ | _ | _ | ⟨sz, es⟩
  · exact .inr rfl
  · exact .inr rfl
  · exact .inr rfl
  · cases es with
    | nil => exact .inl ⟨sz, rfl, rfl⟩
    | cons e es => exact .inr rfl
theorem nilL_len (i i' : Nat) : ∀ z : List D, (nilL i i' z).length = z.length
  | [] => rfl
  | d :: r => by
    rcases nilL_cons i i' d r with ⟨sz, _, h⟩ | h
    · rw [h]; simp
    · rw [h, List.length_cons, nilL_len i i' r, List.length_cons]
theorem nilL_get {i i' : Nat} {m : Nat → Option Loc} {X : Nat → Prop} {w : World} (hm : m i = some .nil) (hm' : m i' = some .nil) : ∀ {z : List D} {j : Nat} {x : PV}, (nilL i i' z)[j]? = some x → ∃ d, z[j]? = some d ∧ ∀ u, zEq d u = true → R m X w x u
  | [], j, x, h => by simp [nilL] at h
  | d :: r, j, x, h => by
    rcases nilL_cons i i' d r with ⟨sz, rfl, e⟩ | e
    · rw [e] at h
      cases j with
      | zero => cases h; exact ⟨_, rfl, fun u hu => by rw [zEq_lst hu]; exact .rowN _ hm⟩
      | succ j =>
        rw [List.getElem?_cons_succ, List.getElem?_map] at h
        cases hj : r[j]? with
        | none => rw [hj] at h; cases h
        | some d => rw [hj] at h; cases h; exact ⟨d, by simpa using hj, fun u hu => zEq_nil hu hm'⟩
    · rw [e] at h
      cases j with
      | zero => cases h; exact ⟨_, rfl, fun u hu => .d _ _ (zEq_rd hu w X)⟩
      | succ j => obtain ⟨d', h1, h2⟩ := nilL_get hm hm' (z := r) (j := j) h; exact ⟨d', by simpa using h1, h2⟩
section rules
variable {P : Program} {o : Oper} {s : AS} {K : AS → Prop}
/-- a struct, field by field; its two nil lists are rows of the call's own -/
theorem po_build_nil2 {t : TypeId} {parts : Array (Nat × Operand)} {n : Nat} {fs : List (Nat × Nat)} {z : List D} {cs : List PV} (ty : TypeId) (sz : Nat) (ty' : TypeId) (sz' : Nat) (ho : o.op = .build t parts) (ht : tiB P t (.st n fs z) = true)
    (hf : fillPV (fs[·]?) (nilL s.nx (s.nx + 1) z) (parts.toList.map fun p => (p.1, s.get p.2)) = some cs) (hK : K (AS.put ⟨s.fr, (s.nx + 1, .row ty' sz' []) :: (s.nx, .row ty sz []) :: s.hp, s.nx + 2⟩ o.dst (.agg cs))) : PO P o s K :=
  PO.mk fun X0 w0 m a w hs => by
    have hg := (hs.ghost ty sz).ghost ty' sz'
    obtain ⟨⟨fields, h1, h2, h3⟩, i, v, h4, h5, h6, h7, h8⟩ := tiB_st ht
    obtain ⟨g1, g2⟩ := zB_nil h7
    have hm1 : (upd (upd m s.nx .nil) (s.nx + 1) .nil).loc s.nx = some .nil := by rw [upd_ne _ _ (by omega)]; exact upd_same _ _ _
    have hm2 : (upd (upd m s.nx .nil) (s.nx + 1) .nil).loc (s.nx + 1) = some .nil := upd_same _ _ _
    have hplace : fields.toList.mapM (fun f => (P.info? f.type).map fun i => (f.offset, i.size)) = some fs := by
      refine mapM_eq _ _ (by simpa using h2) fun j f p hf hp => ?_
      obtain ⟨q1, q2, i', q3, q4⟩ := h3 j f p (by simpa using hf) hp
      rw [q3]
      simp [q1, q4]
    obtain ⟨arr', r1, r2, r3, r4⟩ := fill_run (m := (upd (upd m s.nx .nil) (s.nx + 1) .nil).loc) (X := Owned X0 (upd (upd m s.nx .nil) (s.nx + 1) .nil) ((s.nx + 1, .row ty' sz' []) :: (s.nx, .row ty sz []) :: s.hp)) (w := w) (fs[·]?) _ (parts.toList.map fun p => (p.1, a.eval p.2)) _ _ v.cells hf (by simp) (fun j x u hx hu => by
      rw [List.getElem?_map] at hx hu
      cases hj : parts.toList[j]? with
      | none => rw [hj] at hx; cases hx
      | some p =>
        rw [hj] at hx hu
        cases hx
        cases hu
        have e : AS.get ⟨s.fr, (s.nx + 1, .row ty' sz' []) :: (s.nx, .row ty sz []) :: s.hp, s.nx + 1 + 1⟩ p.2 = s.get p.2 := by cases p.2 <;> rfl
        have h9 := hg.get p.2
        rw [e] at h9
        exact h9) (by rw [nilL_len]; exact g1) (fun j x u hx hu => by
      obtain ⟨d, hd, hR⟩ := nilL_get (X := Owned X0 (upd (upd m s.nx .nil) (s.nx + 1) .nil) ((s.nx + 1, .row ty' sz' []) :: (s.nx, .row ty sz []) :: s.hp)) (w := w) hm1 hm2 hx
      have h9 := g2 j d u hd hu
      exact ⟨hR u h9, .inr (zEq_rd h9 w (fun _ => False)).one⟩)
    refine ⟨.agg arr', w, _, _, .agg cs, ?_, hg, .agg _ _ r2 fun j x u hx hu => (r4 j x u hx hu).1, hK⟩
    have hbuilt : P.built t (parts.map fun p => (p.1, a.eval p.2)).toList = some arr' := by
      unfold Program.built
      simp only [h4, h1, h6, hplace]
      simpa using r1
    have hrun := run_build (P := P) w t (parts.map fun p => (p.1, a.eval p.2)) arr' hbuilt
    simp only [execOp, ho, Sem.run_bind]
    rw [hrun]
    rfl
/-- a row of scalars is a row that owns its parts -/
theorem pw_deepen {Q : Exit → AS → Prop} {c : Code} {s : AS} (id : Nat) {ty : TypeId} {sz : Nat} {es : List (List D)} (hg : hget s.hp id = some (.row ty sz es)) (hfl : flatE es) (h : PW P c Q ⟨s.fr, hset s.hp id (.deep 0 ty sz es), s.nx⟩) : PW P c Q s := by
  intro X0 w0 m a w hs
  obtain ⟨l, hl, hok⟩ := hs.hp id _ hg
  have hdp : DpOk w (fun _ => False) ty sz es (some l) := by
    cases l with
    | nil => exact ⟨hok, fun _ h => h⟩
    | blk b c =>
      obtain ⟨arr, hh, hc⟩ := hok
      exact ⟨fun h => h, arr, hh, hc.1, hc.2.1, hc.2.2.1, hc.2.2.2.1, fun _ _ _ => False, fun _ _ _ h => h, fun _ _ _ _ _ h => h.elim, fun k e j d v he hd hv => (hc.2.2.2.2 k e j d v he hd hv).tr (hfl e (List.mem_of_getElem? he) d (List.mem_of_getElem? hd))⟩
  refine h X0 w0 (upd m id l fun _ => False) a w ?_
  refine hs.changeD (i := id) (blk' := .deep 0 ty sz es) (F' := fun _ => False) (fun b => l.at b) (.inr hl) (by rw [hget_hset]; simp [hg]) (fun id' hne blk hb => by rw [hget_hset, if_neg hne] at hb; exact hb) rfl (fun id' par k j hne ha' => ?_) (Nat.le_refl _) (hs.lt_nx hl) (KeepB.refl _ _) (fun _ _ _ => rfl) (fun b ⟨c, hb⟩ => ⟨id, _, hg, ⟨c, by rw [hl, hb]⟩, .inl rfl⟩) (fun b hb => ?_) (fun p e => by cases e) (fun p ty' sz' es' e => ?_) fun _ => trivial
  · rw [hget_hset, if_neg hne] at ha'
    obtain ⟨q, ty', sz', es2, _, _, _, _, _, _, a1, _⟩ := hs.al id' par k j ha'
    have hpar : par ≠ id := fun e => by subst e; rw [hg] at a1; cases a1
    exact .inl ⟨hpar, by rw [hget_hset, if_neg hpar]⟩
  · rcases hb with ⟨c, hc⟩ | hf
    · rw [upd_same] at hc
      have hat : l.at b := ⟨c, Option.some.inj hc⟩
      have := hs.own id _ b hg ⟨c, by rw [hl]; exact hc⟩
      exact ⟨this.1, this.2, .inr hat⟩
    · rw [upd_ft] at hf
      exact hf.elim
  · cases e
    exact hdp
end rules
end Go.Proofs.YtphakidbddamfaaGreat
