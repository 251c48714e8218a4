/- For all bytes, what the law FnRanked draws and asks holds: it returns true: the statement's row, proved. No conditions. -/
import Derived.Test.YthkkpiodligmiaaRows
import Derived.Test.YthkkpiodligmiaaRa
import Derived.Test.YthkkpiodligmiaaCv
import Derived.Test.YthkkpiodligmiaaQh
set_option linter.unusedSimpArgs false
set_option linter.unusedVariables false
set_option maxHeartbeats 2000000
set_option maxRecDepth 100000
namespace Go.Proofs.Ythkkpiodligmiaa.lawRanked
open Go.ChangeShapes Go.WideShapes Go.ChangeAt Go.RowKit Go.Deep

theorem fdata {P : Program} {f : FuncId} {args : List PV} {rs : List RV} (h : FnEq P f args rs) : FnEq P f args (rs.map RV.data) := FnOK.data (h.mono fun _ e => by rw [e])
set_option maxHeartbeats 20000000 in
theorem law_FnRanked_ok (xs0 : List Int) (m0 : xs0.length ≤ maxLen ∧ ∀ x ∈ xs0, 0 ≤ x ∧ x ≤ 255) (xs1 : List Int) (m1 : xs1.length ≤ maxLen ∧ ∀ x ∈ xs1, 0 ≤ x ∧ x ≤ 255) : FnEq Try.prog 3 [.d (.lst 1 (xs0.map datY)), .d (.lst 1 (xs1.map datY))] [.d (.bool true)] := by
  have hT : bP True = true := bP_true trivial
  have hm0 := m0.1
  have hm1 := m1.1
  unfold maxLen at hm0 hm1
  refine fn_ok G_ok Try.func3 rfl rfl ?_; simp only [Try.ntmps3, List.length_cons, List.length_nil, Nat.reduceAdd, Nat.reduceSub, enm]
  repeat' (first | with_reducible refine stop_seq (id := 1) ?_ | with_reducible refine stop_one (id := 1) ?_ | ((with_reducible first | refine execL_step (fun K' hK' => ?_) | refine quietL_step (fun K' hK' => ?_)); (first | with_reducible refine s_none rfl ?_ | refine s_some2 rfl ?_); simp only [go_sem]) | (with_reducible refine hK' _ ?_; clear hK' K') | (with_reducible refine hK _ ?_; clear hK K; try simp only [go_sem]) | with_reducible (first | refine stp ?_ | refine pw_seq_opsK kl3 G_ok (fun K hK => ?_) | refine pw_ops G_ok (fun K hK => ?_)) | refine inBlockA_other (by decide) ?_ | (with_reducible refine pw_seq_drawK kl3 G_ok mixed (by kernel_rfl) (fun K hK => ?_)) | (with_reducible refine pw_draw G_ok mixed (by kernel_rfl) ?_) | (with_reducible refine pK_mk (fun hc => ?_) (fun hc => ?_) <;> (try simp only [go_sem]) <;> (try simp at hc) <;> (try (exfalso; omega))) | ((first | refine pw_seq (pw_cond rfl (fun hc => ?_) (fun hc => ?_)) | refine pw_cond rfl (fun hc => ?_) (fun hc => ?_)) <;> (try simp at hc) <;> (try (exfalso; omega))) | with_reducible refine And.intro (by first | omega | (unfold inI; omega) | exact andI_inI _) ?_)
  unfold Stop
  refine pw_seq (pw_region ?_)
  refine exec_sound G_ok ?_
  simp only [go_sem]
  refine exec_sound G_ok ?_
  simp only [go_sem]
  refine exec_sound G_ok ?_
  simp only [go_sem]
  refine exec_sound G_ok ?_
  simp only [go_sem]
  refine PQ.po (pq_addW rfl rfl rfl ?_)
  refine exec_sound G_ok ?_
  simp only [go_sem]
  refine thenA_normal ?_
  generalize IntKind.i64.wrap ((xs0.length : Int) + (xs1.length : Int)) = W
  by_cases hb : 1048576 < W
  · repeat' (first | ((with_reducible first | refine execL_step (fun K' hK' => ?_) | refine quietL_step (fun K' hK' => ?_)); (first | with_reducible refine s_none rfl ?_ | refine s_some2 rfl ?_); simp only [go_sem, hb]) | (with_reducible refine hK' _ ?_; clear hK' K') | (with_reducible refine hK _ ?_; clear hK K; try simp only [go_sem, hb]) | with_reducible (first | refine stp ?_ | refine pw_seq_opsK kl3 G_ok (fun K hK => ?_) | refine pw_ops G_ok (fun K hK => ?_)) | refine inBlockA_other (by decide) ?_ | (with_reducible refine pw_seq_drawK kl3 G_ok mixed (by kernel_rfl) (fun K hK => ?_)) | (with_reducible refine pw_draw G_ok mixed (by kernel_rfl) ?_) | (with_reducible refine pK_mk (fun hc => ?_) (fun hc => ?_) <;> (try simp only [go_sem, hb]) <;> (try simp at hc) <;> (try (exfalso; omega))) | ((first | refine pw_seq (pw_cond rfl (fun hc => ?_) (fun hc => ?_)) | refine pw_cond rfl (fun hc => ?_) (fun hc => ?_)) <;> (try simp at hc) <;> (try (exfalso; omega))) | with_reducible refine And.intro (by first | omega | (unfold inI; omega) | exact andI_inI _) ?_)
    all_goals first
      | (exfalso; omega)
      | (refine retQ_ret rfl rfl (by simp [rowsOf, lk]) ?_; rfl)
  · repeat' (first | ((with_reducible first | refine execL_step (fun K' hK' => ?_) | refine quietL_step (fun K' hK' => ?_)); (first | with_reducible refine s_none rfl ?_ | refine s_some2 rfl ?_); simp only [go_sem, hb]) | (with_reducible refine hK' _ ?_; clear hK' K') | (with_reducible refine hK _ ?_; clear hK K; try simp only [go_sem, hb]) | with_reducible (first | refine stp ?_ | refine pw_seq_opsK kl3 G_ok (fun K hK => ?_) | refine pw_ops G_ok (fun K hK => ?_)) | refine inBlockA_other (by decide) ?_ | (with_reducible refine pw_seq_drawK kl3 G_ok mixed (by kernel_rfl) (fun K hK => ?_)) | (with_reducible refine pw_draw G_ok mixed (by kernel_rfl) ?_) | (with_reducible refine pK_mk (fun hc => ?_) (fun hc => ?_) <;> (try simp only [go_sem, hb]) <;> (try simp at hc) <;> (try (exfalso; omega))) | ((first | refine pw_seq (pw_cond rfl (fun hc => ?_) (fun hc => ?_)) | refine pw_cond rfl (fun hc => ?_) (fun hc => ?_)) <;> (try simp at hc) <;> (try (exfalso; omega))) | with_reducible refine And.intro (by first | omega | (unfold inI; omega) | exact andI_inI _) ?_)
    all_goals first
      | (exfalso; omega)
      | skip
    refine CallK.of (drawOrder_ok xs0 m0.2 hm0) ?_; rintro _ ⟨l, hl, rfl⟩; refine ⟨(fun h => by cases h), ?_⟩; try simp only [go_sem]
    have hl41 := hl.1
    have hlk : ∀ r ∈ l, r.scores.length ≤ 1048576 := fun r hr => Nat.le_trans (hl.2 r hr).2.2.1 (by decide)
    have ho1 := fdata (impl_OrderOfResults_ok l (by omega) hlk)
    have ho2 := fdata (spec_OrderOfResults_ok l (by omega) hlk)
    have hp1 := fdata (impl_PlacesOfResults_ok l (by omega) hlk)
    have hp2 := fdata (spec_PlacesOfResults_ok l (by omega) hlk)
    have hpa := AreResults_ok l (by omega) hlk
    obtain ⟨hol, hoe, hof⟩ := order_facts l
    obtain ⟨hpl, hpe, hpf⟩ := places_facts l
    rw [hoe] at ho1 ho2
    rw [hpe] at hp1 hp2
    simp only [List.map_cons, List.map_nil, RV.data] at ho1 ho2 hp1 hp2
    generalize (ansOrderOfResults l).getD [] = o at ho1 ho2 hol hof
    generalize (ansPlacesOfResults l).getD [] = p at hp1 hp2 hpl hpf
    generalize bP (ResultsOk l) = ok at ho1 ho2 hp1 hp2 hof hpf hpa
    repeat' (first | ((with_reducible first | refine execL_step (fun K' hK' => ?_) | refine quietL_step (fun K' hK' => ?_)); (first | with_reducible refine s_none rfl ?_ | refine s_some2 rfl ?_); simp only [go_sem]) | (with_reducible refine hK' _ ?_; clear hK' K') | (with_reducible refine hK _ ?_; clear hK K; try simp only [go_sem]) | with_reducible (first | refine stp ?_ | refine pw_seq_opsK kl3 G_ok (fun K hK => ?_) | refine pw_ops G_ok (fun K hK => ?_)) | ((with_reducible first | apply CallK.eq | apply CallQ.eqs); (focus (with_reducible first | exact ho1 | exact ho2 | exact hp1 | exact hp2)); (focus (first | exact rfl | (simp [RV.flat, D.sc, datI]; done))); try simp only [go_sem]) | refine inBlockA_other (by decide) ?_ | (with_reducible refine pw_seq_drawK kl3 G_ok mixed (by kernel_rfl) (fun K hK => ?_)) | (with_reducible refine pw_draw G_ok mixed (by kernel_rfl) ?_) | (with_reducible refine pK_mk (fun hc => ?_) (fun hc => ?_) <;> (try simp only [go_sem]) <;> (try simp at hc) <;> (try (exfalso; omega))) | ((first | refine pw_seq (pw_cond rfl (fun hc => ?_) (fun hc => ?_)) | refine pw_cond rfl (fun hc => ?_) (fun hc => ?_)) <;> (try simp at hc) <;> (try (exfalso; omega))) | with_reducible refine And.intro (by first | omega | (unfold inI; omega) | exact andI_inI _) ?_)
    refine CallK.of (drawCompare_ok xs1 m1.2 hm1) ?_; rintro _ ⟨a, b, ⟨hra, hrb⟩, rfl⟩; refine ⟨(fun h => by cases h), ?_⟩; try simp only [go_sem]
    have hal := hra.2.2.1
    have hbl := hrb.2.2.1
    have hc1 := impl_CompareResults_ok a b (by omega) (by omega)
    have hc2 := spec_CompareResults_ok a b (by omega) (by omega)
    have hc3 := impl_CompareResults_ok b a (by omega) (by omega)
    have hta := impl_TotalOfResult_ok a (by omega)
    have htb := impl_TotalOfResult_ok b (by omega)
    obtain ⟨hcb, hcf⟩ := compare_facts a b
    generalize (ansCompareResults a b).getD 0 = n at hc1 hc2 hcb hcf
    generalize (ansCompareResults a b).isSome = three at hc1 hc2 hcf
    repeat' (first | ((with_reducible first | refine execL_step (fun K' hK' => ?_) | refine quietL_step (fun K' hK' => ?_)); (first | with_reducible refine s_none rfl ?_ | refine s_some2 rfl ?_); simp only [go_sem]) | (with_reducible refine hK' _ ?_; clear hK' K') | (with_reducible refine hK _ ?_; clear hK K; try simp only [go_sem]) | with_reducible (first | refine stp ?_ | refine pw_seq_opsK kl3 G_ok (fun K hK => ?_) | refine pw_ops G_ok (fun K hK => ?_)) | ((with_reducible first | apply CallK.eq | apply CallQ.eqs); (focus (with_reducible first | exact hc1 | exact hc2)); (focus (first | exact rfl | (simp [RV.flat, D.sc, datI]; done))); try simp only [go_sem]) | refine inBlockA_other (by decide) ?_ | (with_reducible refine pw_seq_drawK kl3 G_ok mixed (by kernel_rfl) (fun K hK => ?_)) | (with_reducible refine pw_draw G_ok mixed (by kernel_rfl) ?_) | (with_reducible refine pK_mk (fun hc => ?_) (fun hc => ?_) <;> (try simp only [go_sem]) <;> (try simp at hc) <;> (try (exfalso; omega))) | ((first | refine pw_seq (pw_cond rfl (fun hc => ?_) (fun hc => ?_)) | refine pw_cond rfl (fun hc => ?_) (fun hc => ?_)) <;> (try simp at hc) <;> (try (exfalso; omega))) | with_reducible refine And.intro (by first | omega | (unfold inI; omega) | exact andI_inI _) ?_)
    refine CallK.of (drawTied_ok xs1 m1.2 hm1) ?_; rintro _ ⟨m, i, ⟨hm, him, hix⟩, rfl⟩; refine ⟨(fun h => by cases h), ?_⟩; try simp only [go_sem]
    have hm41 := hm.1
    have hmk : ∀ r ∈ m, r.scores.length ≤ 1048576 := fun r hr => Nat.le_trans (hm.2 r hr).2.2.1 (by decide)
    have ht1 := fdata (impl_TiedWith_ok m i (by omega) hmk)
    have ht2 := fdata (spec_TiedWith_ok m i (by omega) hmk)
    simp only [List.map_cons, List.map_nil, RV.data] at ht1 ht2
    obtain ⟨htl, htf⟩ := tied_facts m i
    generalize (ansTiedWith m i).getD [] = t at ht1 ht2 htl htf
    generalize (ansTiedWith m i).isSome = five at ht1 ht2 htf
    repeat' (first | ((with_reducible first | refine execL_step (fun K' hK' => ?_) | refine quietL_step (fun K' hK' => ?_)); (first | with_reducible refine s_none rfl ?_ | refine s_some2 rfl ?_); simp only [go_sem]) | (with_reducible refine hK' _ ?_; clear hK' K') | (with_reducible refine hK _ ?_; clear hK K; try simp only [go_sem]) | with_reducible (first | refine stp ?_ | refine pw_seq_opsK kl3 G_ok (fun K hK => ?_) | refine pw_ops G_ok (fun K hK => ?_)) | ((with_reducible first | apply CallK.eq | apply CallQ.eqs); (focus (with_reducible first | exact ht1 | exact ht2)); (focus (first | exact rfl | (simp [RV.flat, D.sc, datI]; done))); try simp only [go_sem]) | refine inBlockA_other (by decide) ?_ | (with_reducible refine pw_seq_drawK kl3 G_ok mixed (by kernel_rfl) (fun K hK => ?_)) | (with_reducible refine pw_draw G_ok mixed (by kernel_rfl) ?_) | (with_reducible refine pK_mk (fun hc => ?_) (fun hc => ?_) <;> (try simp only [go_sem]) <;> (try simp at hc) <;> (try (exfalso; omega))) | ((first | refine pw_seq (pw_cond rfl (fun hc => ?_) (fun hc => ?_)) | refine pw_cond rfl (fun hc => ?_) (fun hc => ?_)) <;> (try simp at hc) <;> (try (exfalso; omega))) | with_reducible refine And.intro (by first | omega | (unfold inI; omega) | exact andI_inI _) ?_)
    refine CallK.of (drawTotal_ok xs1 m1.2 hm1) ?_; rintro _ ⟨r, hr, rfl⟩; refine ⟨(fun h => by cases h), ?_⟩; try simp only [go_sem]
    have hrl := hr.2.2.1
    have hr1 := impl_TotalOfResult_ok r (by omega)
    have hr2 := spec_TotalOfResult_ok r (by omega)
    generalize ((ansTotalOfResult r).getD (0, 0)).1 = tx at hr1 hr2
    generalize ((ansTotalOfResult r).getD (0, 0)).2 = ty at hr1 hr2
    generalize (ansTotalOfResult r).isSome = seven at hr1 hr2
    repeat' (first | with_reducible refine stop_seq (id := 17) ?_ | with_reducible refine stop_one (id := 17) ?_ | ((with_reducible first | refine execL_step (fun K' hK' => ?_) | refine quietL_step (fun K' hK' => ?_)); (first | with_reducible refine s_none rfl ?_ | refine s_some2 rfl ?_); simp only [go_sem]) | (with_reducible refine hK' _ ?_; clear hK' K') | (with_reducible refine hK _ ?_; clear hK K; try simp only [go_sem]) | with_reducible (first | refine stp ?_ | refine pw_seq_opsK kl3 G_ok (fun K hK => ?_) | refine pw_ops G_ok (fun K hK => ?_)) | ((with_reducible first | apply CallK.eq | apply CallQ.eqs); (focus (with_reducible first | exact hr1 | exact hr2)); (focus (first | exact rfl | (simp [RV.flat, D.sc, datI]; done))); try simp only [go_sem]) | refine inBlockA_other (by decide) ?_ | (with_reducible refine pw_seq_drawK kl3 G_ok mixed (by kernel_rfl) (fun K hK => ?_)) | (with_reducible refine pw_draw G_ok mixed (by kernel_rfl) ?_) | (with_reducible refine pK_mk (fun hc => ?_) (fun hc => ?_) <;> (try simp only [go_sem]) <;> (try simp at hc) <;> (try (exfalso; omega))) | ((first | refine pw_seq (pw_cond rfl (fun hc => ?_) (fun hc => ?_)) | refine pw_cond rfl (fun hc => ?_) (fun hc => ?_)) <;> (try simp at hc) <;> (try (exfalso; omega))) | with_reducible refine And.intro (by first | omega | (unfold inI; omega) | exact andI_inI _) ?_)
    unfold Stop
    obtain ⟨N, hN⟩ : ∃ N : Nat, N = 0 := ⟨0, rfl⟩
    refine (fun (key2 : ∀ N : Nat, N = 0 → PW Try.prog ?c2 ?Q2 ⟨⟨408, [(5, .d (.lst 2 (l.map ResultD.dat))), (7, .d (.bool ok)), (8, .d (.lst 1 (o.map datI))), (12, .d (.lst 1 (p.map datI)))]⟩, [], 0⟩) => ?m2) ?k2
    case m2 =>
      refine (fun (key1 : ∀ N : Nat, N = 0 → PW Try.prog ?c1 ?Q1 ⟨⟨408, [(5, .d (.lst 2 (l.map ResultD.dat))), (7, .d (.bool ok)), (8, .d (.lst 1 (o.map datI))), (12, .d (.lst 1 (p.map datI))), (20, .d (.lst 2 (m.map ResultD.dat))), (21, .d (.int .i64 i)), (23, .d (.bool five)), (24, .d (.lst 1 (t.map datI)))]⟩, [], 0⟩) => ?m1) ?k1
      case m1 =>
        simp only [List.append_eq, List.cons_append, List.nil_append]
        cases three
        · repeat' (first | with_reducible refine stop_seq (id := 25) ?_ | with_reducible refine stop_one (id := 25) ?_ | ((with_reducible first | refine execL_step (fun K' hK' => ?_) | refine quietL_step (fun K' hK' => ?_)); (first | with_reducible refine s_none rfl ?_ | refine s_some2 rfl ?_); simp only [go_sem, hT, bne_self_eq_false]) | (with_reducible refine hK' _ ?_; clear hK' K') | (with_reducible refine hK _ ?_; clear hK K; try simp only [go_sem, hT, bne_self_eq_false]) | with_reducible (first | refine stp ?_ | refine pw_seq_opsK kl3 G_ok (fun K hK => ?_) | refine pw_ops G_ok (fun K hK => ?_)) | ((with_reducible first | apply CallK.eq | apply CallQ.eqs); (focus (with_reducible first | exact hpa | exact qInts_ok o o (by omega) (by omega) | exact qInts_ok p p (by omega) (by omega) | exact qInts_ok t t (by omega) (by omega))); (focus (first | exact rfl | (simp [RV.flat, D.sc, datI]; done))); try simp only [go_sem, hT, bne_self_eq_false]) | refine inBlockA_other (by decide) ?_ | (with_reducible refine pw_seq_drawK kl3 G_ok mixed (by kernel_rfl) (fun K hK => ?_)) | (with_reducible refine pw_draw G_ok mixed (by kernel_rfl) ?_) | (with_reducible refine pK_mk (fun hc => ?_) (fun hc => ?_) <;> (try simp only [go_sem, hT, bne_self_eq_false]) <;> (try simp at hc) <;> (try (exfalso; omega))) | ((first | refine pw_seq (pw_cond rfl (fun hc => ?_) (fun hc => ?_)) | refine pw_cond rfl (fun hc => ?_) (fun hc => ?_)) <;> (try simp at hc) <;> (try (exfalso; omega))) | with_reducible refine And.intro (by first | omega | (unfold inI; omega) | exact andI_inI _) ?_)
          all_goals first
            | (exfalso; omega)
            | skip
          unfold Stop
          have h := key1 N hN
          refine pw_fits (s0 := ⟨⟨408, [(5, .d (.lst 2 (l.map ResultD.dat))), (7, .d (.bool ok)), (8, .d (.lst 1 (o.map datI))), (12, .d (.lst 1 (p.map datI))), (20, .d (.lst 2 (m.map ResultD.dat))), (21, .d (.int .i64 i)), (23, .d (.bool five)), (24, .d (.lst 1 (t.map datI)))]⟩, [], 0⟩) (fits_mk [] (by simp [renL_d, bdL_d, sg, over, wipe, wl, memN, ins, rm, lk, fitFr, fit1, ren, renL, bd, bdL, app, fitHp, hget, renB, bdB] <;> omega)) ?_
          exact h
        · obtain ⟨hback, hat, hbt, hs1, hs2⟩ := hcf rfl
          obtain ⟨_, hat', hbt', hs3, hs4⟩ := (compare_facts b a).2 (by rw [hback]; rfl)
          rw [hback] at hc3 hs3 hs4
          rw [hat] at hta
          rw [hbt] at htb
          simp only [Option.getD_some, Option.isSome_some] at hc3 hta htb hs3 hs4
          have hng : (0 : Int) - n = -n := by omega
          generalize scCnt a.scores = ca at hta hs1 hs2 hs3 hs4
          generalize scCnt b.scores = cb at htb hs1 hs2 hs3 hs4
          generalize scSum a.scores = sa at hta hs1 hs3
          generalize scSum b.scores = sb at htb hs1 hs3
          clear hat hbt hat' hbt'
          repeat' (first | with_reducible refine stop_seq (id := 25) ?_ | with_reducible refine stop_one (id := 25) ?_ | ((with_reducible first | refine execL_step (fun K' hK' => ?_) | refine quietL_step (fun K' hK' => ?_)); (first | with_reducible refine s_none rfl ?_ | refine s_some2 rfl ?_); simp only [go_sem, hT, hng, bne_self_eq_false]) | (with_reducible refine hK' _ ?_; clear hK' K') | (with_reducible refine hK _ ?_; clear hK K; try simp only [go_sem, hT, hng, bne_self_eq_false]) | with_reducible (first | refine stp ?_ | refine pw_seq_opsK kl3 G_ok (fun K hK => ?_) | refine pw_ops G_ok (fun K hK => ?_)) | ((with_reducible first | apply CallK.eq | apply CallQ.eqs); (focus (with_reducible first | exact hpa | exact hc3 | exact hta | exact htb | exact qInts_ok o o (by omega) (by omega) | exact qInts_ok p p (by omega) (by omega) | exact qInts_ok t t (by omega) (by omega))); (focus (first | exact rfl | (simp [RV.flat, D.sc, datI]; done))); try simp only [go_sem, hT, hng, bne_self_eq_false]) | refine inBlockA_other (by decide) ?_ | (with_reducible refine pw_seq_drawK kl3 G_ok mixed (by kernel_rfl) (fun K hK => ?_)) | (with_reducible refine pw_draw G_ok mixed (by kernel_rfl) ?_) | (with_reducible refine pK_mk (fun hc => ?_) (fun hc => ?_) <;> (try simp only [go_sem, hT, hng, bne_self_eq_false]) <;> (try simp at hc) <;> (try (exfalso; omega))) | ((first | refine pw_seq (pw_cond rfl (fun hc => ?_) (fun hc => ?_)) | refine pw_cond rfl (fun hc => ?_) (fun hc => ?_)) <;> (try simp at hc) <;> (try (exfalso; omega))) | with_reducible refine And.intro (by first | omega | (unfold inI; omega) | exact andI_inI _) ?_)
          all_goals first
            | (exfalso; omega)
            | skip
          all_goals
            unfold Stop
            have h := key1 N hN
            refine pw_fits (s0 := ⟨⟨408, [(5, .d (.lst 2 (l.map ResultD.dat))), (7, .d (.bool ok)), (8, .d (.lst 1 (o.map datI))), (12, .d (.lst 1 (p.map datI))), (20, .d (.lst 2 (m.map ResultD.dat))), (21, .d (.int .i64 i)), (23, .d (.bool five)), (24, .d (.lst 1 (t.map datI)))]⟩, [], 0⟩) (fits_mk [] (by simp [renL_d, bdL_d, sg, over, wipe, wl, memN, ins, rm, lk, fitFr, fit1, ren, renL, bd, bdL, app, fitHp, hget, renB, bdB] <;> omega)) ?_
            exact h
      case k1 =>
        intro _ _
        cases five
        · repeat' (first | with_reducible refine stop_seq (id := 36) ?_ | with_reducible refine stop_one (id := 36) ?_ | ((with_reducible first | refine execL_step (fun K' hK' => ?_) | refine quietL_step (fun K' hK' => ?_)); (first | with_reducible refine s_none rfl ?_ | refine s_some2 rfl ?_); simp only [go_sem]) | (with_reducible refine hK' _ ?_; clear hK' K') | (with_reducible refine hK _ ?_; clear hK K; try simp only [go_sem]) | with_reducible (first | refine stp ?_ | refine pw_seq_opsK kl3 G_ok (fun K hK => ?_) | refine pw_ops G_ok (fun K hK => ?_)) | refine inBlockA_other (by decide) ?_ | (with_reducible refine pw_seq_drawK kl3 G_ok mixed (by kernel_rfl) (fun K hK => ?_)) | (with_reducible refine pw_draw G_ok mixed (by kernel_rfl) ?_) | (with_reducible refine pK_mk (fun hc => ?_) (fun hc => ?_) <;> (try simp only [go_sem]) <;> (try simp at hc) <;> (try (exfalso; omega))) | ((first | refine pw_seq (pw_cond rfl (fun hc => ?_) (fun hc => ?_)) | refine pw_cond rfl (fun hc => ?_) (fun hc => ?_)) <;> (try simp at hc) <;> (try (exfalso; omega))) | with_reducible refine And.intro (by first | omega | (unfold inI; omega) | exact andI_inI _) ?_)
          unfold Stop
          have h := key2 N hN
          refine pw_fits (s0 := ⟨⟨408, [(5, .d (.lst 2 (l.map ResultD.dat))), (7, .d (.bool ok)), (8, .d (.lst 1 (o.map datI))), (12, .d (.lst 1 (p.map datI)))]⟩, [], 0⟩) (fits_mk [] (by simp [renL_d, bdL_d, sg, over, wipe, wl, memN, ins, rm, lk, fitFr, fit1, ren, renL, bd, bdL, app, fitHp, hget, renB, bdB] <;> omega)) ?_
          exact h
        · obtain ⟨⟨hv, hi0, hi1⟩, rfl⟩ := htf rfl
          obtain ⟨i, rfl⟩ : ∃ j : Nat, i = (j : Int) := ⟨i.toNat, by omega⟩
          have hm40 := hv.1
          have hz := List.getElem?_eq_getElem (show i < m.length by omega)
          generalize m[i] = z at hz
          have hq1 := fdata (impl_PlacesOfResults_ok m (by omega) hmk)
          have hq2 := fdata (spec_PlacesOfResults_ok m (by omega) hmk)
          rw [show ansPlacesOfResults m = some _ from optP_pos hv] at hq1 hq2
          simp only [List.map_cons, List.map_nil, RV.data, Option.getD_some, Option.isSome_some] at hq1 hq2
          simp only [Int.toNat_natCast] at htl ⊢
          have hqh := qHas_ok (ixN (tieB m i) m.length) (i : Int) (by omega)
          rw [tie_self hv hz] at hqh
          have hpz := plcL_get hz
          have hpm := plcL_full m
          have hpx : ∀ {k : Nat} {x : ResultD}, m[k]? = some x → (plcL m m.length)[k]? = some (plcR m x) := plcL_get
          generalize hT' : ixN (tieB m i) m.length = T at hqh htl
          have htp : ∀ {k : Nat} {x : ResultD}, m[k]? = some x → bP ((k : Int) ∈ T) = decide (plcR m x = plcR m z) := fun hx => by rw [← hT']; exact tie_place hv hx hz
          generalize plcL m m.length = P at hq1 hq2 hpz hpm hpx
          repeat' (first | ((with_reducible first | refine execL_step (fun K' hK' => ?_) | refine quietL_step (fun K' hK' => ?_)); (first | with_reducible refine s_none rfl ?_ | refine s_some2 rfl ?_); simp only [go_sem, hT, bne_self_eq_false]) | (with_reducible refine hK' _ ?_; clear hK' K') | (with_reducible refine hK _ ?_; clear hK K; try simp only [go_sem, hT, bne_self_eq_false]) | with_reducible (first | refine stp ?_ | refine pw_seq_opsK kl3 G_ok (fun K hK => ?_) | refine pw_ops G_ok (fun K hK => ?_)) | ((with_reducible first | apply CallK.eq | apply CallQ.eqs); (focus (with_reducible first | exact hq1 | exact hq2 | exact hqh | exact qInts_ok P P (by omega) (by omega))); (focus (first | exact rfl | (simp [RV.flat, D.sc, datI]; done))); try simp only [go_sem, hT, bne_self_eq_false]) | refine inBlockA_other (by decide) ?_ | (with_reducible refine pw_seq_drawK kl3 G_ok mixed (by kernel_rfl) (fun K hK => ?_)) | (with_reducible refine pw_draw G_ok mixed (by kernel_rfl) ?_) | (with_reducible refine pK_mk (fun hc => ?_) (fun hc => ?_) <;> (try simp only [go_sem, hT, bne_self_eq_false]) <;> (try simp at hc) <;> (try (exfalso; omega))) | ((first | refine pw_seq (pw_cond rfl (fun hc => ?_) (fun hc => ?_)) | refine pw_cond rfl (fun hc => ?_) (fun hc => ?_)) <;> (try simp at hc) <;> (try (exfalso; omega))) | with_reducible refine And.intro (by first | omega | (unfold inI; omega) | exact andI_inI _) ?_)
          all_goals first
            | (exfalso; omega)
            | skip
          refine pw_loop_over [4, 45, 46, 293, 294, 295, 296, 297, 298, 299, 300, 301, 302, 303, 304, 305, 306, 307, 308] (fun k : Nat => [(293, .d (.int .i64 (k : Int)))]) (fun k : Nat => []) 0 (fun k : Nat => k ≤ P.length) (fun k : Nat => P.length - k) 0 (Nat.zero_le _) (fits_mk [] (by simp [renL_d, bdL_d, sg, over, wipe, wl, memN, ins, rm, lk, fitFr, fit1, ren, renL, bd, bdL, app, fitHp, hget, renB, bdB] <;> omega)) ?_
          intro k hk
          simp only [over, wipe, wl, memN, ins, rm, if_true, if_false, Nat.reduceEqDiff, Bool.false_eq_true, reduceCtorEq]
          by_cases hlt : k < P.length
          · have hx := List.getElem?_eq_getElem (show k < m.length by omega)
            generalize m[k] = x at hx
            have hqk := qHas_ok T (k : Int) (by omega)
            rw [htp hx] at hqk
            have hpk := hpx hx
            generalize plcR m x = px at hqk hpk
            by_cases hpp : px = plcR m z
            · have hb1 : (px == plcR m z) = true := by simpa using hpp
              rw [decide_eq_true hpp] at hqk
              repeat' (first | ((with_reducible first | refine execL_step (fun K' hK' => ?_) | refine quietL_step (fun K' hK' => ?_)); (first | with_reducible refine s_none rfl ?_ | refine s_some2 rfl ?_); simp only [go_sem, List.getElem?_map, hpk, hpz, hb1, Option.map_some, datI, bne_self_eq_false, Int.toNat_natCast]) | (with_reducible refine hK' _ ?_; clear hK' K') | (with_reducible refine hK _ ?_; clear hK K; try simp only [go_sem, List.getElem?_map, hpk, hpz, hb1, Option.map_some, datI, bne_self_eq_false, Int.toNat_natCast]) | with_reducible (first | refine stp ?_ | refine pw_seq_opsK kl3 G_ok (fun K hK => ?_) | refine pw_ops G_ok (fun K hK => ?_)) | ((with_reducible first | apply CallK.eq | apply CallQ.eqs); (focus (with_reducible first | exact hqk)); (focus (first | exact rfl | (simp [RV.flat, D.sc, datI]; done))); try simp only [go_sem, List.getElem?_map, hpk, hpz, hb1, Option.map_some, datI, bne_self_eq_false, Int.toNat_natCast]) | refine inBlockA_other (by decide) ?_ | (with_reducible refine pw_seq_drawK kl3 G_ok mixed (by kernel_rfl) (fun K hK => ?_)) | (with_reducible refine pw_draw G_ok mixed (by kernel_rfl) ?_) | (with_reducible refine pK_mk (fun hc => ?_) (fun hc => ?_) <;> (try simp only [go_sem, List.getElem?_map, hpk, hpz, hb1, Option.map_some, datI, bne_self_eq_false, Int.toNat_natCast]) <;> (try simp at hc) <;> (try (exfalso; omega))) | ((first | refine pw_seq (pw_cond rfl (fun hc => ?_) (fun hc => ?_)) | refine pw_cond rfl (fun hc => ?_) (fun hc => ?_)) <;> (try simp at hc) <;> (try (exfalso; omega))) | with_reducible refine And.intro (by first | omega | (unfold inI; omega) | exact andI_inI _) ?_)
              all_goals first
                | (exfalso; omega)
                | skip
              exact ⟨k + 1, by omega, by omega, (fits_mk [] (by simp [renL_d, bdL_d, sg, over, wipe, wl, memN, ins, rm, lk, fitFr, fit1, ren, renL, bd, bdL, app, fitHp, hget, renB, bdB] <;> omega))⟩
            · have hb1 : (px == plcR m z) = false := by simpa using hpp
              rw [decide_eq_false hpp] at hqk
              repeat' (first | ((with_reducible first | refine execL_step (fun K' hK' => ?_) | refine quietL_step (fun K' hK' => ?_)); (first | with_reducible refine s_none rfl ?_ | refine s_some2 rfl ?_); simp only [go_sem, List.getElem?_map, hpk, hpz, hb1, Option.map_some, datI, bne_self_eq_false, Int.toNat_natCast]) | (with_reducible refine hK' _ ?_; clear hK' K') | (with_reducible refine hK _ ?_; clear hK K; try simp only [go_sem, List.getElem?_map, hpk, hpz, hb1, Option.map_some, datI, bne_self_eq_false, Int.toNat_natCast]) | with_reducible (first | refine stp ?_ | refine pw_seq_opsK kl3 G_ok (fun K hK => ?_) | refine pw_ops G_ok (fun K hK => ?_)) | ((with_reducible first | apply CallK.eq | apply CallQ.eqs); (focus (with_reducible first | exact hqk)); (focus (first | exact rfl | (simp [RV.flat, D.sc, datI]; done))); try simp only [go_sem, List.getElem?_map, hpk, hpz, hb1, Option.map_some, datI, bne_self_eq_false, Int.toNat_natCast]) | refine inBlockA_other (by decide) ?_ | (with_reducible refine pw_seq_drawK kl3 G_ok mixed (by kernel_rfl) (fun K hK => ?_)) | (with_reducible refine pw_draw G_ok mixed (by kernel_rfl) ?_) | (with_reducible refine pK_mk (fun hc => ?_) (fun hc => ?_) <;> (try simp only [go_sem, List.getElem?_map, hpk, hpz, hb1, Option.map_some, datI, bne_self_eq_false, Int.toNat_natCast]) <;> (try simp at hc) <;> (try (exfalso; omega))) | ((first | refine pw_seq (pw_cond rfl (fun hc => ?_) (fun hc => ?_)) | refine pw_cond rfl (fun hc => ?_) (fun hc => ?_)) <;> (try simp at hc) <;> (try (exfalso; omega))) | with_reducible refine And.intro (by first | omega | (unfold inI; omega) | exact andI_inI _) ?_)
              all_goals first
                | (exfalso; omega)
                | skip
              exact ⟨k + 1, by omega, by omega, (fits_mk [] (by simp [renL_d, bdL_d, sg, over, wipe, wl, memN, ins, rm, lk, fitFr, fit1, ren, renL, bd, bdL, app, fitHp, hget, renB, bdB] <;> omega))⟩
          · repeat' (first | with_reducible refine stop_seq (id := 36) ?_ | with_reducible refine stop_one (id := 36) ?_ | ((with_reducible first | refine execL_step (fun K' hK' => ?_) | refine quietL_step (fun K' hK' => ?_)); (first | with_reducible refine s_none rfl ?_ | refine s_some2 rfl ?_); simp only [go_sem]) | (with_reducible refine hK' _ ?_; clear hK' K') | (with_reducible refine hK _ ?_; clear hK K; try simp only [go_sem]) | with_reducible (first | refine stp ?_ | refine pw_seq_opsK kl3 G_ok (fun K hK => ?_) | refine pw_ops G_ok (fun K hK => ?_)) | refine inBlockA_other (by decide) ?_ | (with_reducible refine pw_seq_drawK kl3 G_ok mixed (by kernel_rfl) (fun K hK => ?_)) | (with_reducible refine pw_draw G_ok mixed (by kernel_rfl) ?_) | (with_reducible refine pK_mk (fun hc => ?_) (fun hc => ?_) <;> (try simp only [go_sem]) <;> (try simp at hc) <;> (try (exfalso; omega))) | ((first | refine pw_seq (pw_cond rfl (fun hc => ?_) (fun hc => ?_)) | refine pw_cond rfl (fun hc => ?_) (fun hc => ?_)) <;> (try simp at hc) <;> (try (exfalso; omega))) | with_reducible refine And.intro (by first | omega | (unfold inI; omega) | exact andI_inI _) ?_)
            unfold Stop
            have h := key2 N hN
            refine pw_fits (s0 := ⟨⟨408, [(5, .d (.lst 2 (l.map ResultD.dat))), (7, .d (.bool ok)), (8, .d (.lst 1 (o.map datI))), (12, .d (.lst 1 (p.map datI)))]⟩, [], 0⟩) (fits_mk [] (by simp [renL_d, bdL_d, sg, over, wipe, wl, memN, ins, rm, lk, fitFr, fit1, ren, renL, bd, bdL, app, fitHp, hget, renB, bdB] <;> omega)) ?_
            exact h
    case k2 =>
      intro _ _
      cases ok
      · repeat' (first | ((with_reducible first | refine execL_step (fun K' hK' => ?_) | refine quietL_step (fun K' hK' => ?_)); (first | with_reducible refine s_none rfl ?_ | refine s_some2 rfl ?_); simp only [go_sem]) | (with_reducible refine hK' _ ?_; clear hK' K') | (with_reducible refine hK _ ?_; clear hK K; try simp only [go_sem]) | with_reducible (first | refine stp ?_ | refine pw_seq_opsK kl3 G_ok (fun K hK => ?_) | refine pw_ops G_ok (fun K hK => ?_)) | refine inBlockA_other (by decide) ?_ | (with_reducible refine pw_seq_drawK kl3 G_ok mixed (by kernel_rfl) (fun K hK => ?_)) | (with_reducible refine pw_draw G_ok mixed (by kernel_rfl) ?_) | (with_reducible refine pK_mk (fun hc => ?_) (fun hc => ?_) <;> (try simp only [go_sem]) <;> (try simp at hc) <;> (try (exfalso; omega))) | ((first | refine pw_seq (pw_cond rfl (fun hc => ?_) (fun hc => ?_)) | refine pw_cond rfl (fun hc => ?_) (fun hc => ?_)) <;> (try simp at hc) <;> (try (exfalso; omega))) | with_reducible refine And.intro (by first | omega | (unfold inI; omega) | exact andI_inI _) ?_)
        refine retQ_ret rfl rfl (by simp [rowsOf, lk]) ?_; rfl
      · obtain ⟨hv, rfl⟩ := hpf rfl
        obtain rfl := hof rfl
        have hov := ordZ_len l l.length
        have hpv := plcL_full l
        have hl40 := hv.1
        repeat' (first | ((with_reducible first | refine execL_step (fun K' hK' => ?_) | refine quietL_step (fun K' hK' => ?_)); (first | with_reducible refine s_none rfl ?_ | refine s_some2 rfl ?_); simp only [go_sem]) | (with_reducible refine hK' _ ?_; clear hK' K') | (with_reducible refine hK _ ?_; clear hK K; try simp only [go_sem]) | with_reducible (first | refine stp ?_ | refine pw_seq_opsK kl3 G_ok (fun K hK => ?_) | refine pw_ops G_ok (fun K hK => ?_)) | refine inBlockA_other (by decide) ?_ | (with_reducible refine pw_seq_drawK kl3 G_ok mixed (by kernel_rfl) (fun K hK => ?_)) | (with_reducible refine pw_draw G_ok mixed (by kernel_rfl) ?_) | (with_reducible refine pK_mk (fun hc => ?_) (fun hc => ?_) <;> (try simp only [go_sem]) <;> (try simp at hc) <;> (try (exfalso; omega))) | ((first | refine pw_seq (pw_cond rfl (fun hc => ?_) (fun hc => ?_)) | refine pw_cond rfl (fun hc => ?_) (fun hc => ?_)) <;> (try simp at hc) <;> (try (exfalso; omega))) | with_reducible refine And.intro (by first | omega | (unfold inI; omega) | exact andI_inI _) ?_)
        refine pw_loop_over [4, 47, 48, 49, 50, 51, 313, 314, 315, 316, 317, 318, 319, 320, 321, 322, 323, 324, 325, 326, 327, 328, 329, 330, 331, 332, 333, 334, 335, 336, 337, 338, 339, 340, 341, 342, 343, 344, 345, 346, 347, 348, 349, 350, 351, 352, 353, 354, 355, 356, 357, 358, 359, 360, 361, 362, 363, 364, 365, 366, 367, 368, 369, 370, 371, 372, 373, 374, 375, 376, 377, 378, 379, 380, 381, 382, 383, 384, 385, 386, 387, 388, 389, 390, 391, 392, 393, 394, 395, 396, 397, 398, 399, 400, 401, 402] (fun k : Nat => [(313, .d (.int .i64 (k : Int)))]) (fun k : Nat => []) 0 (fun k : Nat => k ≤ (ordZ l l.length).length) (fun k : Nat => (ordZ l l.length).length - k) 0 (Nat.zero_le _) (fits_mk [] (by simp [renL_d, bdL_d, sg, over, wipe, wl, memN, ins, rm, lk, fitFr, fit1, ren, renL, bd, bdL, app, fitHp, hget, renB, bdB] <;> omega)) ?_
        intro k hk
        simp only [over, wipe, wl, memN, ins, rm, if_true, if_false, Nat.reduceEqDiff, Bool.false_eq_true, reduceCtorEq]
        by_cases hlt : k < (ordZ l l.length).length
        · have hj := List.getElem?_eq_getElem hlt
          generalize (ordZ l l.length)[k] = j at hj
          have hji := ord_at hj
          have hz := hji.at_
          have hpj := ord_place hv hj
          obtain ⟨j, rfl⟩ : ∃ i : Nat, j = (i : Int) := ⟨j.toNat, by have := hji.1; omega⟩
          rw [Int.toNat_natCast] at hz
          have hpz := plcL_get hz
          by_cases hk0 : k = 0
          · subst hk0
            generalize resAt l (j : Int) = z at hz hpj hpz
            repeat' (first | ((with_reducible first | refine execL_step (fun K' hK' => ?_) | refine quietL_step (fun K' hK' => ?_)); (first | with_reducible refine s_none rfl ?_ | refine s_some2 rfl ?_); simp only [go_sem, List.getElem?_map, hj, hz, hpz, Option.map_some, datI, ResultD.dat, Int.toNat_natCast]) | (with_reducible refine hK' _ ?_; clear hK' K') | (with_reducible refine hK _ ?_; clear hK K; try simp only [go_sem, List.getElem?_map, hj, hz, hpz, Option.map_some, datI, ResultD.dat, Int.toNat_natCast]) | with_reducible (first | refine stp ?_ | refine pw_seq_opsK kl3 G_ok (fun K hK => ?_) | refine pw_ops G_ok (fun K hK => ?_)) | refine inBlockA_other (by decide) ?_ | (with_reducible refine pw_seq_drawK kl3 G_ok mixed (by kernel_rfl) (fun K hK => ?_)) | (with_reducible refine pw_draw G_ok mixed (by kernel_rfl) ?_) | (with_reducible refine pK_mk (fun hc => ?_) (fun hc => ?_) <;> (try simp only [go_sem, List.getElem?_map, hj, hz, hpz, Option.map_some, datI, ResultD.dat, Int.toNat_natCast]) <;> (try simp at hc) <;> (try (exfalso; omega))) | ((first | refine pw_seq (pw_cond rfl (fun hc => ?_) (fun hc => ?_)) | refine pw_cond rfl (fun hc => ?_) (fun hc => ?_)) <;> (try simp at hc) <;> (try (exfalso; omega))) | with_reducible refine And.intro (by first | omega | (unfold inI; omega) | exact andI_inI _) ?_)
            all_goals first
              | (exfalso; omega)
              | (exfalso; rw [hc] at hlt; exact absurd hlt (by simp))
              | exact ⟨0 + 1, by omega, by omega, (fits_mk [] (by simp [renL_d, bdL_d, sg, over, wipe, wl, memN, ins, rm, lk, fitFr, fit1, ren, renL, bd, bdL, app, fitHp, hget, renB, bdB] <;> omega))⟩
          · obtain ⟨k, rfl⟩ : ∃ i, k = i + 1 := ⟨k - 1, by omega⟩
            have hb := List.getElem?_eq_getElem (show k < (ordZ l l.length).length by omega)
            generalize (ordZ l l.length)[k] = b at hb
            have hbi := ord_at hb
            have hx := hbi.at_
            obtain ⟨hn1, hn2, hn3⟩ := ord_next hv hb hj
            obtain ⟨b, rfl⟩ : ∃ i : Nat, b = (i : Int) := ⟨b.toNat, by have := hbi.1; omega⟩
            rw [Int.toNat_natCast] at hx
            have hpx := plcL_get hx
            generalize resAt l (j : Int) = z at hz hpj hpz hn1 hn2 hn3
            generalize resAt l (b : Int) = x at hx hpx hn1 hn2 hn3
            have hxv := hv.at_ hx
            have hzv := hv.at_ hz
            have hcq := impl_CompareResults_ok x z (hlk x (List.mem_of_getElem? hx)) (hlk z (List.mem_of_getElem? hz))
            rw [show ansCompareResults x z = some _ from optP_pos ⟨hxv.1, hzv.1, by omega⟩] at hcq
            simp only [Option.getD_some, Option.isSome_some] at hcq
            generalize cmpR x z = c at hcq hn1 hn2 hn3
            generalize plcR l x = px at hpx hn2
            generalize plcR l z = pz at hpz hpj hn2 hn3
            have e2 : ((k + 1 : Nat) : Int) - 1 = (k : Int) := by omega
            rcases Int.lt_or_eq_of_le hn1 with hc0 | hc0
            · have hn3 := hn3 hc0
              subst hn3
              repeat' (first | ((with_reducible first | refine execL_step (fun K' hK' => ?_) | refine quietL_step (fun K' hK' => ?_)); (first | with_reducible refine s_none rfl ?_ | refine s_some2 rfl ?_); simp only [go_sem, List.getElem?_map, hj, hb, hz, hx, hpz, hpx, e2, Option.map_some, datI, ResultD.dat, Int.toNat_natCast]) | (with_reducible refine hK' _ ?_; clear hK' K') | (with_reducible refine hK _ ?_; clear hK K; try simp only [go_sem, List.getElem?_map, hj, hb, hz, hx, hpz, hpx, e2, Option.map_some, datI, ResultD.dat, Int.toNat_natCast]) | with_reducible (first | refine stp ?_ | refine pw_seq_opsK kl3 G_ok (fun K hK => ?_) | refine pw_ops G_ok (fun K hK => ?_)) | ((with_reducible first | apply CallK.eq | apply CallQ.eqs); (focus (with_reducible first | exact hcq)); (focus (first | exact rfl | (simp [RV.flat, D.sc, datI]; done))); try simp only [go_sem, List.getElem?_map, hj, hb, hz, hx, hpz, hpx, e2, Option.map_some, datI, ResultD.dat, Int.toNat_natCast]) | refine inBlockA_other (by decide) ?_ | (with_reducible refine pw_seq_drawK kl3 G_ok mixed (by kernel_rfl) (fun K hK => ?_)) | (with_reducible refine pw_draw G_ok mixed (by kernel_rfl) ?_) | (with_reducible refine pK_mk (fun hc => ?_) (fun hc => ?_) <;> (try simp only [go_sem, List.getElem?_map, hj, hb, hz, hx, hpz, hpx, e2, Option.map_some, datI, ResultD.dat, Int.toNat_natCast]) <;> (try simp at hc) <;> (try (exfalso; omega))) | ((first | refine pw_seq (pw_cond rfl (fun hc => ?_) (fun hc => ?_)) | refine pw_cond rfl (fun hc => ?_) (fun hc => ?_)) <;> (try simp at hc) <;> (try (exfalso; omega))) | with_reducible refine And.intro (by first | omega | (unfold inI; omega) | exact andI_inI _) ?_)
              all_goals first
                | (exfalso; omega)
                | skip
              exact ⟨k + 1 + 1, by omega, by omega, (fits_mk [] (by simp [renL_d, bdL_d, sg, over, wipe, wl, memN, ins, rm, lk, fitFr, fit1, ren, renL, bd, bdL, app, fitHp, hget, renB, bdB] <;> omega))⟩
            · subst hc0
              obtain ⟨hsk, rfl⟩ := hn2 rfl
              repeat' (first | ((with_reducible first | refine execL_step (fun K' hK' => ?_) | refine quietL_step (fun K' hK' => ?_)); (first | with_reducible refine s_none rfl ?_ | refine s_some2 rfl ?_); simp only [go_sem, List.getElem?_map, hj, hb, hz, hx, hpz, hpx, e2, Option.map_some, datI, ResultD.dat, Int.toNat_natCast]) | (with_reducible refine hK' _ ?_; clear hK' K') | (with_reducible refine hK _ ?_; clear hK K; try simp only [go_sem, List.getElem?_map, hj, hb, hz, hx, hpz, hpx, e2, Option.map_some, datI, ResultD.dat, Int.toNat_natCast]) | with_reducible (first | refine stp ?_ | refine pw_seq_opsK kl3 G_ok (fun K hK => ?_) | refine pw_ops G_ok (fun K hK => ?_)) | ((with_reducible first | apply CallK.eq | apply CallQ.eqs); (focus (with_reducible first | exact hcq)); (focus (first | exact rfl | (simp [RV.flat, D.sc, datI]; done))); try simp only [go_sem, List.getElem?_map, hj, hb, hz, hx, hpz, hpx, e2, Option.map_some, datI, ResultD.dat, Int.toNat_natCast]) | refine inBlockA_other (by decide) ?_ | (with_reducible refine pw_seq_drawK kl3 G_ok mixed (by kernel_rfl) (fun K hK => ?_)) | (with_reducible refine pw_draw G_ok mixed (by kernel_rfl) ?_) | (with_reducible refine pK_mk (fun hc => ?_) (fun hc => ?_) <;> (try simp only [go_sem, List.getElem?_map, hj, hb, hz, hx, hpz, hpx, e2, Option.map_some, datI, ResultD.dat, Int.toNat_natCast]) <;> (try simp at hc) <;> (try (exfalso; omega))) | ((first | refine pw_seq (pw_cond rfl (fun hc => ?_) (fun hc => ?_)) | refine pw_cond rfl (fun hc => ?_) (fun hc => ?_)) <;> (try simp at hc) <;> (try (exfalso; omega))) | with_reducible refine And.intro (by first | omega | (unfold inI; omega) | exact andI_inI _) ?_)
              all_goals first
                | (exfalso; omega)
                | skip
              exact ⟨k + 1 + 1, by omega, by omega, (fits_mk [] (by simp [renL_d, bdL_d, sg, over, wipe, wl, memN, ins, rm, lk, fitFr, fit1, ren, renL, bd, bdL, app, fitHp, hget, renB, bdB] <;> omega))⟩
        · repeat' (first | ((with_reducible first | refine execL_step (fun K' hK' => ?_) | refine quietL_step (fun K' hK' => ?_)); (first | with_reducible refine s_none rfl ?_ | refine s_some2 rfl ?_); simp only [go_sem, hov]) | (with_reducible refine hK' _ ?_; clear hK' K') | (with_reducible refine hK _ ?_; clear hK K; try simp only [go_sem, hov]) | with_reducible (first | refine stp ?_ | refine pw_seq_opsK kl3 G_ok (fun K hK => ?_) | refine pw_ops G_ok (fun K hK => ?_)) | refine inBlockA_other (by decide) ?_ | (with_reducible refine pw_seq_drawK kl3 G_ok mixed (by kernel_rfl) (fun K hK => ?_)) | (with_reducible refine pw_draw G_ok mixed (by kernel_rfl) ?_) | (with_reducible refine pK_mk (fun hc => ?_) (fun hc => ?_) <;> (try simp only [go_sem, hov]) <;> (try simp at hc) <;> (try (exfalso; omega))) | ((first | refine pw_seq (pw_cond rfl (fun hc => ?_) (fun hc => ?_)) | refine pw_cond rfl (fun hc => ?_) (fun hc => ?_)) <;> (try simp at hc) <;> (try (exfalso; omega))) | with_reducible refine And.intro (by first | omega | (unfold inI; omega) | exact andI_inI _) ?_)
          refine retQ_ret rfl rfl (by simp [rowsOf, lk]) ?_; rfl

theorem own : ownKnob Try.prog.godebug = none := by kernel_rfl
theorem laidOut : laidOutB Try.prog = true := by kernel_rfl
set_option linter.unusedVariables false in
set_option maxRecDepth 100000 in
theorem lifted (os : Os) (started : os.Started) (H : Type) (enc : TypeId × Value → H) :
    ReturnsInHanded {} Try.checked os 3 .any (Rows.fnRankedSpec.pre6 enc Try.prog Try.f3 Rows.fnRankedRow.domain false) (Rows.fnRankedSpec.post enc Try.prog Try.f3 false true false false) := by
  refine returnsInHanded_of_change (C := Try.checked) own started (by kernel_rfl) Try.func3
    (ChangeSpec.witness6 (enc := enc) (C := Try.checked) false ⟨#[], #[.slice none 0 0, .slice none 0 0], []⟩ 8 (by kernel_rfl) (by kernel_rfl) (by kernel_rfl) (by kernel_rfl)) ?_
  intro W base args ds gs before hval0 hW hcnd _
  have hval : ∀ (j : Nat) t v, Try.f3.params[j]? = some t → args[j]? = some v → Value.okWide Try.prog W .any base t v := hval0
  have hW' := hW
  obtain ⟨p, q, hA0, hV, rfl, hfz, hnd⟩ := hW
  have hA : DataW.TrodAll enc Try.prog W 0 (fun _ => true) true Try.f3.params.toList args.toList ds p := hA0
  rw [Try.params3] at hA hval
  obtain ⟨v0, vs0, d0, ds0, p0, q0, hargs, rfl, rfl, h0, r0⟩ := trodAll_cons hA
  obtain ⟨v1, vs1, d1, ds1, p1, q1, rfl, rfl, rfl, h1, r1⟩ := trodAll_cons r0
  obtain ⟨rfl, rfl, rfl⟩ := trodAll_nil r1
  obtain rfl : args = #[v0, v1] := by cases args; simp_all
  obtain ⟨rfl, rfl⟩ := trodVars_none hV
  have k0 := h0
  have lt0 := below_lt k0
  obtain ⟨s0, len0, cap0, rfl⟩ := okWide_slice Try.underlying22 (hval 0 22 v0 rfl rfl)
  obtain ⟨fuel0, hf0⟩ := h0
  obtain ⟨x0, m0, rd0⟩ := open_bytes.2 _ _ _ hf0
  have R0 := R_of_crd1 rfl rd0
  clear hf0
  have k1 := h1
  have lt1 := below_lt k1
  obtain ⟨s1, len1, cap1, rfl⟩ := okWide_slice Try.underlying22 (hval 1 22 v1 rfl rfl)
  obtain ⟨fuel1, hf1⟩ := h1
  obtain ⟨x1, m1, rd1⟩ := open_bytes.2 _ _ _ hf1
  have R1 := R_of_crd1 rfl rd1
  clear hf1
  clear hA0 hval0
  refine (mwalk (law_FnRanked_ok x0 m0 x1 m1) W _ rfl (args2 R0 R1)).mono fun e W' ⟨he, bel⟩ => ?_
  subst he
  exact ⟨_, rfl, _, _, _, [], _, [], hW', trodAll_mk1 (shut_bool Try.underlying4 _), (trodAll_cons_mk (Below.trod laidOut (by kernel_rfl) (of_decide_eq_true (by kernel_rfl)) k0 bel lt0) (trodAll_cons_mk (Below.trod laidOut (by kernel_rfl) (of_decide_eq_true (by kernel_rfl)) k1 bel lt1) trodAll_mk0)), rfl, bel.frame _, fun h => by cases h⟩
theorem over : Rows.fnRankedRow.holds Try.pinned (OpenSpec.ofChange Rows.fnRankedSpec) :=
  OpenClaim.holds_of_wide 3 Try.f3 rfl rfl rfl rfl rfl rfl rfl ⟨rfl, rfl, rfl, rfl, rfl⟩ rfl rfl rfl rfl rfl (by kernel_rfl) Try.func3 (by kernel_rfl)
    (of_decide_eq_true (by kernel_rfl)) (by unfold Func.isWrapper; first | (rw [if_pos (by decide +kernel)]; kernel_rfl) | (rw [if_neg (by decide +kernel)]; exact ⟨rfl, rfl⟩))
    (fun os started H enc _ => lifted os started H enc)
theorem proved : Rows.FnRankedSaid := over
end Go.Proofs.Ythkkpiodligmiaa.lawRanked
