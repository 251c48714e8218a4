/- For all bytes, what the law FnQualified draws and asks holds: it returns true: the statement's row, proved. No conditions. -/
import Derived.Test.YthkkpiodligmiaaRows
import Derived.Test.YthkkpiodligmiaaQx
import Derived.Test.YthkkpiodligmiaaSd
import Derived.Test.YthkkpiodligmiaaPi
import Derived.Test.YthkkpiodligmiaaCy
set_option linter.unusedSimpArgs false
set_option linter.unusedVariables false
set_option maxHeartbeats 2000000
set_option maxRecDepth 100000
namespace Go.Proofs.Ythkkpiodligmiaa.lawQualified
open Go.ChangeShapes Go.WideShapes Go.ChangeAt Go.RowKit Go.Deep

set_option maxHeartbeats 20000000 in
theorem law_FnQualified_ok (xs0 : List Int) (m0 : xs0.length ≤ maxLen ∧ ∀ x ∈ xs0, 0 ≤ x ∧ x ≤ 255) (xs1 : List Int) (m1 : xs1.length ≤ maxLen ∧ ∀ x ∈ xs1, 0 ≤ x ∧ x ≤ 255) : FnEq Try.prog 5 [.d (.lst 1 (xs0.map datY)), .d (.lst 1 (xs1.map datY))] [.d (.bool true)] := by
  have hT : bP True = true := bP_true trivial
  have hbig := big_ok xs0 xs1 m0.1 m1.1
  refine fn_ok G_ok Try.func5 rfl rfl ?_; simp only [Try.ntmps5, List.length_cons, List.length_nil, Nat.reduceAdd, Nat.reduceSub, enm]
  by_cases hb : 1048576 < xs0.length + xs1.length
  · rw [decide_eq_true hb] at hbig
    repeat' (first | ((with_reducible first | refine execL_step (fun K' hK' => ?_)); (first | with_reducible refine s_none rfl ?_ | refine s_some2 rfl ?_); simp only [go_sem]) | (with_reducible refine hK' _ ?_; clear hK' K') | (with_reducible refine hK _ ?_; clear hK K; try simp only [go_sem]) | with_reducible (first | refine stp ?_ | refine pw_seq_opsK kl5 G_ok (fun K hK => ?_) | refine pw_ops G_ok (fun K hK => ?_)) | ((with_reducible first | apply CallK.eq); (focus (with_reducible first | exact hbig)); (focus (first | exact rfl | (simp [RV.flat, D.sc, datI]; done))); try simp only [go_sem]) | refine inBlockA_other (by decide) ?_ | (with_reducible refine pK_mk (fun hc => ?_) (fun hc => ?_) <;> (try simp only [go_sem]) <;> (try simp at hc) <;> (try (exfalso; omega))) | ((first | refine pw_seq (pw_cond rfl (fun hc => ?_) (fun hc => ?_)) | refine pw_cond rfl (fun hc => ?_) (fun hc => ?_)) <;> (try simp at hc) <;> (try (exfalso; omega))) | with_reducible refine And.intro (by first | omega | (unfold inI; omega) | exact andI_inI _) ?_)
    refine retQ_ret rfl rfl (by simp [rowsOf, lk]) ?_; rfl
  · rw [decide_eq_false hb] at hbig
    repeat' (first | ((with_reducible first | refine execL_step (fun K' hK' => ?_)); (first | with_reducible refine s_none rfl ?_ | refine s_some2 rfl ?_); simp only [go_sem]) | (with_reducible refine hK' _ ?_; clear hK' K') | (with_reducible refine hK _ ?_; clear hK K; try simp only [go_sem]) | with_reducible (first | refine stp ?_ | refine pw_seq_opsK kl5 G_ok (fun K hK => ?_) | refine pw_ops G_ok (fun K hK => ?_)) | ((with_reducible first | apply CallK.eq); (focus (with_reducible first | exact hbig)); (focus (first | exact rfl | (simp [RV.flat, D.sc, datI]; done))); try simp only [go_sem]) | refine inBlockA_other (by decide) ?_ | (with_reducible refine pK_mk (fun hc => ?_) (fun hc => ?_) <;> (try simp only [go_sem]) <;> (try simp at hc) <;> (try (exfalso; omega))) | ((first | refine pw_seq (pw_cond rfl (fun hc => ?_) (fun hc => ?_)) | refine pw_cond rfl (fun hc => ?_) (fun hc => ?_)) <;> (try simp at hc) <;> (try (exfalso; omega))) | with_reducible refine And.intro (by first | omega | (unfold inI; omega) | exact andI_inI _) ?_)
    refine CallK.of (drawQualified_ok xs0 m0.2 (by omega)) ?_; rintro _ ⟨l, n, ⟨hl, hn0, hn1⟩, rfl⟩; refine ⟨(fun h => by cases h), ?_⟩; try simp only [go_sem]
    have hl41 := hl.1
    have hlk : ∀ r ∈ l, r.scores.length ≤ 1048576 := fun r hr => Nat.le_trans (hl.2 r hr).2.2.1 (by decide)
    have hq1 := eq_data (impl_QualifiedFor_ok l n (by omega) hlk)
    have hq2 := eq_data (spec_QualifiedFor_ok l n (by omega) hlk)
    have he1 := eq_data (impl_EdgeOf_ok l n (by omega) hlk)
    have he2 := eq_data (spec_EdgeOf_ok l n (by omega) hlk)
    simp only [List.map_cons, List.map_nil, RV.data] at hq1 hq2 he1 he2
    obtain ⟨⟨hwl, hel⟩, hone, hqf⟩ := qualified_facts l n
    generalize (ansQualifiedFor l n).getD [] = w at hq1 hq2 hwl hone hqf
    generalize (ansQualifiedFor l n).isSome = ok at hq1 hq2 hone hqf
    generalize ((ansEdgeOf l n).getD (0, [])).2 = e at he1 he2 hel hqf
    generalize ((ansEdgeOf l n).getD (0, [])).1 = pl at he1 he2 hqf
    generalize (ansEdgeOf l n).isSome = one at he1 he2 hone hqf
    repeat' (first | with_reducible refine stop_seq (id := 4) ?_ | with_reducible refine stop_one (id := 4) ?_ | ((with_reducible first | refine execL_step (fun K' hK' => ?_)); (first | with_reducible refine s_none rfl ?_ | refine s_some2 rfl ?_); simp only [go_sem]) | (with_reducible refine hK' _ ?_; clear hK' K') | (with_reducible refine hK _ ?_; clear hK K; try simp only [go_sem]) | with_reducible (first | refine stp ?_ | refine pw_seq_opsK kl5 G_ok (fun K hK => ?_) | refine pw_ops G_ok (fun K hK => ?_)) | refine inBlockA_other (by decide) ?_ | (with_reducible refine pK_mk (fun hc => ?_) (fun hc => ?_) <;> (try simp only [go_sem]) <;> (try simp at hc) <;> (try (exfalso; omega))) | ((first | refine pw_seq (pw_cond rfl (fun hc => ?_) (fun hc => ?_)) | refine pw_cond rfl (fun hc => ?_) (fun hc => ?_)) <;> (try simp at hc) <;> (try (exfalso; omega))) | with_reducible refine And.intro (by first | omega | (unfold inI; omega) | exact andI_inI _) ?_)
    unfold Stop
    obtain ⟨N, hN⟩ : ∃ N : Nat, N = 0 := ⟨0, rfl⟩
    refine (fun (key1 : ∀ N : Nat, N = 0 → PW Try.prog ?c1 ?Q1 ⟨⟨348, [(1, .d (.lst 1 (xs1.map datY)))]⟩, [], 0⟩) => ?m1) ?k1
    case m1 =>
      cases ok
      · simp only [Bool.false_and] at hone
        subst hone
        repeat' (first | with_reducible refine stop_seq (id := 22) ?_ | with_reducible refine stop_one (id := 22) ?_ | ((with_reducible first | refine execL_step (fun K' hK' => ?_)); (first | with_reducible refine s_none rfl ?_ | refine s_some2 rfl ?_); simp only [go_sem, hT, bne_self_eq_false]) | (with_reducible refine hK' _ ?_; clear hK' K') | (with_reducible refine hK _ ?_; clear hK K; try simp only [go_sem, hT, bne_self_eq_false]) | with_reducible (first | refine stp ?_ | refine pw_seq_opsK kl5 G_ok (fun K hK => ?_) | refine pw_ops G_ok (fun K hK => ?_)) | ((with_reducible first | apply CallK.eq); (focus (with_reducible first | exact hq1 | exact hq2 | exact he1 | exact he2 | exact sameInts_ok w w (by omega) (by omega) | exact sameInts_ok e e (by omega) (by omega))); (focus (first | exact rfl | (simp [RV.flat, D.sc, datI]; done))); try simp only [go_sem, hT, bne_self_eq_false]) | refine inBlockA_other (by decide) ?_ | (with_reducible refine pK_mk (fun hc => ?_) (fun hc => ?_) <;> (try simp only [go_sem, hT, bne_self_eq_false]) <;> (try simp at hc) <;> (try (exfalso; omega))) | ((first | refine pw_seq (pw_cond rfl (fun hc => ?_) (fun hc => ?_)) | refine pw_cond rfl (fun hc => ?_) (fun hc => ?_)) <;> (try simp at hc) <;> (try (exfalso; omega))) | with_reducible refine And.intro (by first | omega | (unfold inI; omega) | exact andI_inI _) ?_)
        all_goals first
          | (exfalso; omega)
          | skip
        unfold Stop
        have h := key1 N hN
        refine pw_fits (s0 := ⟨⟨348, [(1, .d (.lst 1 (xs1.map datY)))]⟩, [], 0⟩) (fits_mk [] (by simp [renL_d, bdL_d, sg, over, wipe, wl, memN, ins, rm, lk, fitFr, fit1, ren, renL, bd, bdL, app, fitHp, hget, renB, bdB] <;> omega)) ?_
        exact h
      · obtain ⟨hv, hqf⟩ := hqf rfl
        have hp1 := eq_data (impl_PlacesOfResults_ok l (by omega) hlk)
        have hp2 := eq_data (spec_PlacesOfResults_ok l (by omega) hlk)
        rw [show ansPlacesOfResults l = some _ from optP_pos hv] at hp1 hp2
        simp only [List.map_cons, List.map_nil, RV.data, Option.getD_some, Option.isSome_some] at hp1 hp2
        have hpf := plcL_full l
        have hpx : ∀ {k : Nat} {x : ResultD}, l[k]? = some x → (plcL l l.length)[k]? = some (plcR l x) := plcL_get
        generalize plcL l l.length = P at hp1 hp2 hpf hpx
        simp only [Bool.true_and] at hone
        by_cases hw0 : 0 < w.length
        · have hd : decide ((0 : Int) < (w.length : Int)) = true := decide_eq_true (by omega)
          rw [decide_eq_true hw0] at hone
          subst hone
          repeat' (first | ((with_reducible first | refine execL_step (fun K' hK' => ?_)); (first | with_reducible refine s_none rfl ?_ | refine s_some2 rfl ?_); simp only [go_sem, hT, hd, bne_self_eq_false]) | (with_reducible refine hK' _ ?_; clear hK' K') | (with_reducible refine hK _ ?_; clear hK K; try simp only [go_sem, hT, hd, bne_self_eq_false]) | with_reducible (first | refine stp ?_ | refine pw_seq_opsK kl5 G_ok (fun K hK => ?_) | refine pw_ops G_ok (fun K hK => ?_)) | ((with_reducible first | apply CallK.eq); (focus (with_reducible first | exact hq1 | exact hq2 | exact he1 | exact he2 | exact hp1 | exact hp2 | exact sameInts_ok w w (by omega) (by omega) | exact sameInts_ok e e (by omega) (by omega) | exact sameInts_ok P P (by omega) (by omega))); (focus (first | exact rfl | (simp [RV.flat, D.sc, datI]; done))); try simp only [go_sem, hT, hd, bne_self_eq_false]) | refine inBlockA_other (by decide) ?_ | (with_reducible refine pK_mk (fun hc => ?_) (fun hc => ?_) <;> (try simp only [go_sem, hT, hd, bne_self_eq_false]) <;> (try simp at hc) <;> (try (exfalso; omega))) | ((first | refine pw_seq (pw_cond rfl (fun hc => ?_) (fun hc => ?_)) | refine pw_cond rfl (fun hc => ?_) (fun hc => ?_)) <;> (try simp at hc) <;> (try (exfalso; omega))) | with_reducible refine And.intro (by first | omega | (unfold inI; omega) | exact andI_inI _) ?_)
          all_goals first
            | (exfalso; omega)
            | skip
          refine pw_loop_over [4, 21, 22, 23, 141, 142, 143, 144, 145, 146, 147, 148, 149, 150, 151, 152, 153, 154, 155, 156, 157, 158, 159, 160, 161, 162, 163, 164, 165, 166, 167, 168, 169, 170, 171, 172, 173, 174, 175, 176, 177, 178, 179, 180, 181, 182, 183, 184] (fun k : Nat => [(141, .d (.int .i64 (k : Int)))]) (fun k : Nat => []) 0 (fun k : Nat => k ≤ l.length) (fun k : Nat => l.length - k) 0 (Nat.zero_le _) (fits_mk [] (by simp [renL_d, bdL_d, sg, over, wipe, wl, memN, ins, rm, lk, fitFr, fit1, ren, renL, bd, bdL, app, fitHp, hget, renB, bdB] <;> omega)) ?_
          intro k hk
          simp only [over, wipe, wl, memN, ins, rm, if_true, if_false, Nat.reduceEqDiff, Bool.false_eq_true, reduceCtorEq]
          by_cases hlt : k < l.length
          · have hx := List.getElem?_eq_getElem (show k < l.length by omega)
            generalize l[k] = x at hx
            obtain ⟨hx0, hxw, hxe⟩ := hqf hx
            have hxe := hxe rfl
            have hPx := hpx hx
            have hi1 := pIn_ok w x.skater (by omega)
            have hi2 := pIn_ok e x.skater (by omega)
            rw [hxw] at hi1
            rw [hxe] at hi2
            generalize plcR l x = px at hPx hi1 hi2
            generalize x.scores.getD 0 0 = f0 at hx0 hi1 hi2
            clear hxw hxe
            by_cases hA : px ≤ n <;> by_cases hB : 0 ≤ f0 <;> by_cases hC : px = pl
            all_goals
              simp only [hA, hB, hC, decide_true, decide_false, Bool.and_self, Bool.and_true, Bool.true_and, Bool.and_false, Bool.false_and] at hi1 hi2
            all_goals
              repeat' (first | ((with_reducible first | refine execL_step (fun K' hK' => ?_)); (first | with_reducible refine s_none rfl ?_ | refine s_some2 rfl ?_); simp only [go_sem, List.getElem?_map, hx, hx0, hPx, hA, hB, hC, Option.map_some, datI, ResultD.dat, Int.toNat_natCast, bne_self_eq_false]) | (with_reducible refine hK' _ ?_; clear hK' K') | (with_reducible refine hK _ ?_; clear hK K; try simp only [go_sem, List.getElem?_map, hx, hx0, hPx, hA, hB, hC, Option.map_some, datI, ResultD.dat, Int.toNat_natCast, bne_self_eq_false]) | with_reducible (first | refine stp ?_ | refine pw_seq_opsK kl5 G_ok (fun K hK => ?_) | refine pw_ops G_ok (fun K hK => ?_)) | ((with_reducible first | apply CallK.eq); (focus (with_reducible first | exact hi1 | exact hi2)); (focus (first | exact rfl | (simp [RV.flat, D.sc, datI]; done))); try simp only [go_sem, List.getElem?_map, hx, hx0, hPx, hA, hB, hC, Option.map_some, datI, ResultD.dat, Int.toNat_natCast, bne_self_eq_false]) | refine inBlockA_other (by decide) ?_ | (with_reducible refine pK_mk (fun hc => ?_) (fun hc => ?_) <;> (try simp only [go_sem, List.getElem?_map, hx, hx0, hPx, hA, hB, hC, Option.map_some, datI, ResultD.dat, Int.toNat_natCast, bne_self_eq_false]) <;> (try simp at hc) <;> (try (exfalso; omega))) | ((first | refine pw_seq (pw_cond rfl (fun hc => ?_) (fun hc => ?_)) | refine pw_cond rfl (fun hc => ?_) (fun hc => ?_)) <;> (try simp at hc) <;> (try (exfalso; omega))) | with_reducible refine And.intro (by first | omega | (unfold inI; omega) | exact andI_inI _) ?_)
            all_goals first
              | (exfalso; omega)
              | exact ⟨k + 1, by omega, by omega, (fits_mk [] (by simp [renL_d, bdL_d, sg, over, wipe, wl, memN, ins, rm, lk, fitFr, fit1, ren, renL, bd, bdL, app, fitHp, hget, renB, bdB] <;> omega))⟩
          · repeat' (first | with_reducible refine stop_seq (id := 22) ?_ | with_reducible refine stop_one (id := 22) ?_ | ((with_reducible first | refine execL_step (fun K' hK' => ?_)); (first | with_reducible refine s_none rfl ?_ | refine s_some2 rfl ?_); simp only [go_sem]) | (with_reducible refine hK' _ ?_; clear hK' K') | (with_reducible refine hK _ ?_; clear hK K; try simp only [go_sem]) | with_reducible (first | refine stp ?_ | refine pw_seq_opsK kl5 G_ok (fun K hK => ?_) | refine pw_ops G_ok (fun K hK => ?_)) | refine inBlockA_other (by decide) ?_ | (with_reducible refine pK_mk (fun hc => ?_) (fun hc => ?_) <;> (try simp only [go_sem]) <;> (try simp at hc) <;> (try (exfalso; omega))) | ((first | refine pw_seq (pw_cond rfl (fun hc => ?_) (fun hc => ?_)) | refine pw_cond rfl (fun hc => ?_) (fun hc => ?_)) <;> (try simp at hc) <;> (try (exfalso; omega))) | with_reducible refine And.intro (by first | omega | (unfold inI; omega) | exact andI_inI _) ?_)
            unfold Stop
            have h := key1 N hN
            refine pw_fits (s0 := ⟨⟨348, [(1, .d (.lst 1 (xs1.map datY)))]⟩, [], 0⟩) (fits_mk [] (by simp [renL_d, bdL_d, sg, over, wipe, wl, memN, ins, rm, lk, fitFr, fit1, ren, renL, bd, bdL, app, fitHp, hget, renB, bdB] <;> omega)) ?_
            exact h
        · have hd : decide ((0 : Int) < (w.length : Int)) = false := decide_eq_false (by omega)
          rw [decide_eq_false hw0] at hone
          subst hone
          repeat' (first | ((with_reducible first | refine execL_step (fun K' hK' => ?_)); (first | with_reducible refine s_none rfl ?_ | refine s_some2 rfl ?_); simp only [go_sem, hT, hd, bne_self_eq_false]) | (with_reducible refine hK' _ ?_; clear hK' K') | (with_reducible refine hK _ ?_; clear hK K; try simp only [go_sem, hT, hd, bne_self_eq_false]) | with_reducible (first | refine stp ?_ | refine pw_seq_opsK kl5 G_ok (fun K hK => ?_) | refine pw_ops G_ok (fun K hK => ?_)) | ((with_reducible first | apply CallK.eq); (focus (with_reducible first | exact hq1 | exact hq2 | exact he1 | exact he2 | exact hp1 | exact hp2 | exact sameInts_ok w w (by omega) (by omega) | exact sameInts_ok e e (by omega) (by omega) | exact sameInts_ok P P (by omega) (by omega))); (focus (first | exact rfl | (simp [RV.flat, D.sc, datI]; done))); try simp only [go_sem, hT, hd, bne_self_eq_false]) | refine inBlockA_other (by decide) ?_ | (with_reducible refine pK_mk (fun hc => ?_) (fun hc => ?_) <;> (try simp only [go_sem, hT, hd, bne_self_eq_false]) <;> (try simp at hc) <;> (try (exfalso; omega))) | ((first | refine pw_seq (pw_cond rfl (fun hc => ?_) (fun hc => ?_)) | refine pw_cond rfl (fun hc => ?_) (fun hc => ?_)) <;> (try simp at hc) <;> (try (exfalso; omega))) | with_reducible refine And.intro (by first | omega | (unfold inI; omega) | exact andI_inI _) ?_)
          all_goals first
            | (exfalso; omega)
            | skip
          refine pw_loop_over [4, 21, 22, 23, 141, 142, 143, 144, 145, 146, 147, 148, 149, 150, 151, 152, 153, 154, 155, 156, 157, 158, 159, 160, 161, 162, 163, 164, 165, 166, 167, 168, 169, 170, 171, 172, 173, 174, 175, 176, 177, 178, 179, 180, 181, 182, 183, 184] (fun k : Nat => [(141, .d (.int .i64 (k : Int)))]) (fun k : Nat => []) 0 (fun k : Nat => k ≤ l.length) (fun k : Nat => l.length - k) 0 (Nat.zero_le _) (fits_mk [] (by simp [renL_d, bdL_d, sg, over, wipe, wl, memN, ins, rm, lk, fitFr, fit1, ren, renL, bd, bdL, app, fitHp, hget, renB, bdB] <;> omega)) ?_
          intro k hk
          simp only [over, wipe, wl, memN, ins, rm, if_true, if_false, Nat.reduceEqDiff, Bool.false_eq_true, reduceCtorEq]
          by_cases hlt : k < l.length
          · have hx := List.getElem?_eq_getElem (show k < l.length by omega)
            generalize l[k] = x at hx
            obtain ⟨hx0, hxw, _⟩ := hqf hx
            have hPx := hpx hx
            have hi1 := pIn_ok w x.skater (by omega)
            rw [hxw] at hi1
            generalize plcR l x = px at hPx hi1
            generalize x.scores.getD 0 0 = f0 at hx0 hi1
            clear hxw
            by_cases hA : px ≤ n <;> by_cases hB : 0 ≤ f0
            all_goals
              simp only [hA, hB, decide_true, decide_false, Bool.and_self, Bool.and_true, Bool.true_and, Bool.and_false, Bool.false_and] at hi1
            all_goals
              repeat' (first | ((with_reducible first | refine execL_step (fun K' hK' => ?_)); (first | with_reducible refine s_none rfl ?_ | refine s_some2 rfl ?_); simp only [go_sem, List.getElem?_map, hx, hx0, hPx, hA, hB, Option.map_some, datI, ResultD.dat, Int.toNat_natCast, bne_self_eq_false]) | (with_reducible refine hK' _ ?_; clear hK' K') | (with_reducible refine hK _ ?_; clear hK K; try simp only [go_sem, List.getElem?_map, hx, hx0, hPx, hA, hB, Option.map_some, datI, ResultD.dat, Int.toNat_natCast, bne_self_eq_false]) | with_reducible (first | refine stp ?_ | refine pw_seq_opsK kl5 G_ok (fun K hK => ?_) | refine pw_ops G_ok (fun K hK => ?_)) | ((with_reducible first | apply CallK.eq); (focus (with_reducible first | exact hi1)); (focus (first | exact rfl | (simp [RV.flat, D.sc, datI]; done))); try simp only [go_sem, List.getElem?_map, hx, hx0, hPx, hA, hB, Option.map_some, datI, ResultD.dat, Int.toNat_natCast, bne_self_eq_false]) | refine inBlockA_other (by decide) ?_ | (with_reducible refine pK_mk (fun hc => ?_) (fun hc => ?_) <;> (try simp only [go_sem, List.getElem?_map, hx, hx0, hPx, hA, hB, Option.map_some, datI, ResultD.dat, Int.toNat_natCast, bne_self_eq_false]) <;> (try simp at hc) <;> (try (exfalso; omega))) | ((first | refine pw_seq (pw_cond rfl (fun hc => ?_) (fun hc => ?_)) | refine pw_cond rfl (fun hc => ?_) (fun hc => ?_)) <;> (try simp at hc) <;> (try (exfalso; omega))) | with_reducible refine And.intro (by first | omega | (unfold inI; omega) | exact andI_inI _) ?_)
            all_goals first
              | (exfalso; omega)
              | exact ⟨k + 1, by omega, by omega, (fits_mk [] (by simp [renL_d, bdL_d, sg, over, wipe, wl, memN, ins, rm, lk, fitFr, fit1, ren, renL, bd, bdL, app, fitHp, hget, renB, bdB] <;> omega))⟩
          · repeat' (first | with_reducible refine stop_seq (id := 22) ?_ | with_reducible refine stop_one (id := 22) ?_ | ((with_reducible first | refine execL_step (fun K' hK' => ?_)); (first | with_reducible refine s_none rfl ?_ | refine s_some2 rfl ?_); simp only [go_sem]) | (with_reducible refine hK' _ ?_; clear hK' K') | (with_reducible refine hK _ ?_; clear hK K; try simp only [go_sem]) | with_reducible (first | refine stp ?_ | refine pw_seq_opsK kl5 G_ok (fun K hK => ?_) | refine pw_ops G_ok (fun K hK => ?_)) | refine inBlockA_other (by decide) ?_ | (with_reducible refine pK_mk (fun hc => ?_) (fun hc => ?_) <;> (try simp only [go_sem]) <;> (try simp at hc) <;> (try (exfalso; omega))) | ((first | refine pw_seq (pw_cond rfl (fun hc => ?_) (fun hc => ?_)) | refine pw_cond rfl (fun hc => ?_) (fun hc => ?_)) <;> (try simp at hc) <;> (try (exfalso; omega))) | with_reducible refine And.intro (by first | omega | (unfold inI; omega) | exact andI_inI _) ?_)
            unfold Stop
            have h := key1 N hN
            refine pw_fits (s0 := ⟨⟨348, [(1, .d (.lst 1 (xs1.map datY)))]⟩, [], 0⟩) (fits_mk [] (by simp [renL_d, bdL_d, sg, over, wipe, wl, memN, ins, rm, lk, fitFr, fit1, ren, renL, bd, bdL, app, fitHp, hget, renB, bdB] <;> omega)) ?_
            exact h
    case k1 =>
      intro _ _
      repeat' (first | ((with_reducible first | refine execL_step (fun K' hK' => ?_)); (first | with_reducible refine s_none rfl ?_ | refine s_some2 rfl ?_); simp only [go_sem]) | (with_reducible refine hK' _ ?_; clear hK' K') | (with_reducible refine hK _ ?_; clear hK K; try simp only [go_sem]) | with_reducible (first | refine stp ?_ | refine pw_seq_opsK kl5 G_ok (fun K hK => ?_) | refine pw_ops G_ok (fun K hK => ?_)) | refine inBlockA_other (by decide) ?_ | (with_reducible refine pK_mk (fun hc => ?_) (fun hc => ?_) <;> (try simp only [go_sem]) <;> (try simp at hc) <;> (try (exfalso; omega))) | ((first | refine pw_seq (pw_cond rfl (fun hc => ?_) (fun hc => ?_)) | refine pw_cond rfl (fun hc => ?_) (fun hc => ?_)) <;> (try simp at hc) <;> (try (exfalso; omega))) | with_reducible refine And.intro (by first | omega | (unfold inI; omega) | exact andI_inI _) ?_)
      refine CallK.of (drawDirect_ok xs1 m1.2 (by omega)) ?_; rintro _ ⟨u, d, m, ⟨hu, hd, hm⟩, rfl⟩; refine ⟨(fun h => by cases h), ?_⟩; try simp only [go_sem]
      have hu41 := hu.1
      have huk : ∀ r ∈ u, r.scores.length ≤ 1048576 := fun r hr => Nat.le_trans (hu.2 r hr).2.2.1 (by decide)
      have hd1 := eq_data (impl_DirectAndRest_ok u d m (by omega) huk)
      have hd2 := eq_data (spec_DirectAndRest_ok u d m (by omega) huk)
      simp only [List.map_cons, List.map_nil, RV.data] at hd1 hd2
      obtain ⟨⟨hal, hbl⟩, hdf⟩ := direct_facts u d m
      generalize ((ansDirectAndRest u d m).getD ([], [])).1 = a at hd1 hd2 hal hdf
      generalize ((ansDirectAndRest u d m).getD ([], [])).2 = b at hd1 hd2 hbl hdf
      generalize (ansDirectAndRest u d m).isSome = three at hd1 hd2 hdf
      repeat' (first | with_reducible refine stop_seq (id := 23) ?_ | with_reducible refine stop_one (id := 23) ?_ | ((with_reducible first | refine execL_step (fun K' hK' => ?_)); (first | with_reducible refine s_none rfl ?_ | refine s_some2 rfl ?_); simp only [go_sem]) | (with_reducible refine hK' _ ?_; clear hK' K') | (with_reducible refine hK _ ?_; clear hK K; try simp only [go_sem]) | with_reducible (first | refine stp ?_ | refine pw_seq_opsK kl5 G_ok (fun K hK => ?_) | refine pw_ops G_ok (fun K hK => ?_)) | refine inBlockA_other (by decide) ?_ | (with_reducible refine pK_mk (fun hc => ?_) (fun hc => ?_) <;> (try simp only [go_sem]) <;> (try simp at hc) <;> (try (exfalso; omega))) | ((first | refine pw_seq (pw_cond rfl (fun hc => ?_) (fun hc => ?_)) | refine pw_cond rfl (fun hc => ?_) (fun hc => ?_)) <;> (try simp at hc) <;> (try (exfalso; omega))) | with_reducible refine And.intro (by first | omega | (unfold inI; omega) | exact andI_inI _) ?_)
      unfold Stop
      refine (fun (key2 : ∀ N : Nat, N = 0 → PW Try.prog ?c2 ?Q2 ⟨⟨348, [(1, .d (.lst 1 (xs1.map datY)))]⟩, [], 0⟩) => ?m2) ?k2
      case m2 =>
        cases three
        · repeat' (first | with_reducible refine stop_seq (id := 27) ?_ | with_reducible refine stop_one (id := 27) ?_ | ((with_reducible first | refine execL_step (fun K' hK' => ?_)); (first | with_reducible refine s_none rfl ?_ | refine s_some2 rfl ?_); simp only [go_sem, hT, bne_self_eq_false]) | (with_reducible refine hK' _ ?_; clear hK' K') | (with_reducible refine hK _ ?_; clear hK K; try simp only [go_sem, hT, bne_self_eq_false]) | with_reducible (first | refine stp ?_ | refine pw_seq_opsK kl5 G_ok (fun K hK => ?_) | refine pw_ops G_ok (fun K hK => ?_)) | ((with_reducible first | apply CallK.eq); (focus (with_reducible first | exact hd1 | exact hd2 | exact sameInts_ok a a (by omega) (by omega) | exact sameInts_ok b b (by omega) (by omega))); (focus (first | exact rfl | (simp [RV.flat, D.sc, datI]; done))); try simp only [go_sem, hT, bne_self_eq_false]) | refine inBlockA_other (by decide) ?_ | (with_reducible refine pK_mk (fun hc => ?_) (fun hc => ?_) <;> (try simp only [go_sem, hT, bne_self_eq_false]) <;> (try simp at hc) <;> (try (exfalso; omega))) | ((first | refine pw_seq (pw_cond rfl (fun hc => ?_) (fun hc => ?_)) | refine pw_cond rfl (fun hc => ?_) (fun hc => ?_)) <;> (try simp at hc) <;> (try (exfalso; omega))) | with_reducible refine And.intro (by first | omega | (unfold inI; omega) | exact andI_inI _) ?_)
          all_goals first
            | (exfalso; omega)
            | skip
          unfold Stop
          have h := key2 N hN
          refine pw_fits (s0 := ⟨⟨348, [(1, .d (.lst 1 (xs1.map datY)))]⟩, [], 0⟩) (fits_mk [] (by simp [renL_d, bdL_d, sg, over, wipe, wl, memN, ins, rm, lk, fitFr, fit1, ren, renL, bd, bdL, app, fitHp, hget, renB, bdB] <;> omega)) ?_
          exact h
        · obtain ⟨hf1, hf2, hf3⟩ := hdf rfl
          repeat' (first | with_reducible refine stop_seq (id := 27) ?_ | with_reducible refine stop_one (id := 27) ?_ | ((with_reducible first | refine execL_step (fun K' hK' => ?_)); (first | with_reducible refine s_none rfl ?_ | refine s_some2 rfl ?_); simp only [go_sem, hT, bne_self_eq_false]) | (with_reducible refine hK' _ ?_; clear hK' K') | (with_reducible refine hK _ ?_; clear hK K; try simp only [go_sem, hT, bne_self_eq_false]) | with_reducible (first | refine stp ?_ | refine pw_seq_opsK kl5 G_ok (fun K hK => ?_) | refine pw_ops G_ok (fun K hK => ?_)) | ((with_reducible first | apply CallK.eq); (focus (with_reducible first | exact hd1 | exact hd2 | exact sameInts_ok a a (by omega) (by omega) | exact sameInts_ok b b (by omega) (by omega))); (focus (first | exact rfl | (simp [RV.flat, D.sc, datI]; done))); try simp only [go_sem, hT, bne_self_eq_false]) | refine inBlockA_other (by decide) ?_ | (with_reducible refine pK_mk (fun hc => ?_) (fun hc => ?_) <;> (try simp only [go_sem, hT, bne_self_eq_false]) <;> (try simp at hc) <;> (try (exfalso; omega))) | ((first | refine pw_seq (pw_cond rfl (fun hc => ?_) (fun hc => ?_)) | refine pw_cond rfl (fun hc => ?_) (fun hc => ?_)) <;> (try simp at hc) <;> (try (exfalso; omega))) | with_reducible refine And.intro (by first | omega | (unfold inI; omega) | exact andI_inI _) ?_)
          all_goals first
            | (exfalso; omega)
            | skip
          all_goals
            unfold Stop
            have h := key2 N hN
            refine pw_fits (s0 := ⟨⟨348, [(1, .d (.lst 1 (xs1.map datY)))]⟩, [], 0⟩) (fits_mk [] (by simp [renL_d, bdL_d, sg, over, wipe, wl, memN, ins, rm, lk, fitFr, fit1, ren, renL, bd, bdL, app, fitHp, hget, renB, bdB] <;> omega)) ?_
            exact h
      case k2 =>
        intro _ _
        repeat' (first | ((with_reducible first | refine execL_step (fun K' hK' => ?_)); (first | with_reducible refine s_none rfl ?_ | refine s_some2 rfl ?_); simp only [go_sem]) | (with_reducible refine hK' _ ?_; clear hK' K') | (with_reducible refine hK _ ?_; clear hK K; try simp only [go_sem]) | with_reducible (first | refine stp ?_ | refine pw_seq_opsK kl5 G_ok (fun K hK => ?_) | refine pw_ops G_ok (fun K hK => ?_)) | refine inBlockA_other (by decide) ?_ | (with_reducible refine pK_mk (fun hc => ?_) (fun hc => ?_) <;> (try simp only [go_sem]) <;> (try simp at hc) <;> (try (exfalso; omega))) | ((first | refine pw_seq (pw_cond rfl (fun hc => ?_) (fun hc => ?_)) | refine pw_cond rfl (fun hc => ?_) (fun hc => ?_)) <;> (try simp at hc) <;> (try (exfalso; omega))) | with_reducible refine And.intro (by first | omega | (unfold inI; omega) | exact andI_inI _) ?_)
        refine CallK.of (drawSafe_ok xs1 m1.2 (by omega)) ?_; rintro _ ⟨v, i, c, k, ⟨hv, hi, hc, hk⟩, rfl⟩; refine ⟨(fun h => by cases h), ?_⟩; try simp only [go_sem]
        have hv41 := hv.1
        have hvk : ∀ r ∈ v, r.scores.length ≤ 1048576 := fun r hr => Nat.le_trans (hv.2 r hr).2.2.1 (by decide)
        have hs1 := impl_SafeScore_ok v i c k (by omega) hvk
        have hs2 := spec_SafeScore_ok v i c k (by omega) hvk
        obtain ⟨hsb, hsf⟩ := safe_facts v i c k
        generalize (ansSafeScore v i c k).getD 0 = s at hs1 hs2 hsb hsf
        generalize (ansSafeScore v i c k).isSome = five at hs1 hs2 hsf
        cases five
        · repeat' (first | ((with_reducible first | refine execL_step (fun K' hK' => ?_)); (first | with_reducible refine s_none rfl ?_ | refine s_some2 rfl ?_); simp only [go_sem, hT, bne_self_eq_false]) | (with_reducible refine hK' _ ?_; clear hK' K') | (with_reducible refine hK _ ?_; clear hK K; try simp only [go_sem, hT, bne_self_eq_false]) | with_reducible (first | refine stp ?_ | refine pw_seq_opsK kl5 G_ok (fun K hK => ?_) | refine pw_ops G_ok (fun K hK => ?_)) | ((with_reducible first | apply CallK.eq); (focus (with_reducible first | exact hs1 | exact hs2)); (focus (first | exact rfl | (simp [RV.flat, D.sc, datI]; done))); try simp only [go_sem, hT, bne_self_eq_false]) | refine inBlockA_other (by decide) ?_ | (with_reducible refine pK_mk (fun hc => ?_) (fun hc => ?_) <;> (try simp only [go_sem, hT, bne_self_eq_false]) <;> (try simp at hc) <;> (try (exfalso; omega))) | ((first | refine pw_seq (pw_cond rfl (fun hc => ?_) (fun hc => ?_)) | refine pw_cond rfl (fun hc => ?_) (fun hc => ?_)) <;> (try simp at hc) <;> (try (exfalso; omega))) | with_reducible refine And.intro (by first | omega | (unfold inI; omega) | exact andI_inI _) ?_)
          all_goals first
            | (exfalso; omega)
            | (refine retQ_ret rfl rfl (by simp [rowsOf, lk]) ?_; rfl)
        · obtain ⟨hask, x, y, hx, hy, hyb, hso, hpl⟩ := hsf rfl
          obtain ⟨i, c, rfl, rfl, hil, hcl⟩ := hask.nat
          simp only [Int.toNat_natCast] at hx hy hpl
          have hw := impl_SetScore_data v (i : Int) (c : Int) (y + s) (by omega) hvk
          rw [bP_true hso] at hw
          obtain ⟨hwv, hwl, hwp⟩ := set_places hso
          have hwk := setL_bd (i : Int) (c : Int) (y + s) hvk
          simp only [Int.toNat_natCast] at hwp
          have hq1 := eq_data (impl_PlacesOfResults_ok (setL v (i : Int) (c : Int) (y + s)) (by omega) hwk)
          have hq2 := eq_data (spec_PlacesOfResults_ok (setL v (i : Int) (c : Int) (y + s)) (by omega) hwk)
          rw [show ansPlacesOfResults (setL v (i : Int) (c : Int) (y + s)) = some _ from optP_pos hwv] at hq1 hq2
          simp only [List.map_cons, List.map_nil, RV.data, Option.getD_some, Option.isSome_some] at hq1 hq2
          have hpf := plcL_full (setL v (i : Int) (c : Int) (y + s))
          generalize setL v (i : Int) (c : Int) (y + s) = Y at hw hwv hwl hwp hwk hq1 hq2 hpf
          generalize plcL Y Y.length = R at hwp hq1 hq2 hpf
          generalize plW v i c (y + s) = z at hwp hpl
          have hRl : R.length = v.length := by omega
          repeat' (first | ((with_reducible first | refine execL_step (fun K' hK' => ?_)); (first | with_reducible refine s_none rfl ?_ | refine s_some2 rfl ?_); simp only [go_sem, hT, bne_self_eq_false, List.getElem?_map, hx, hy, hwp, Option.map_some, datI, ResultD.dat, Int.toNat_natCast]) | (with_reducible refine hK' _ ?_; clear hK' K') | (with_reducible refine hK _ ?_; clear hK K; try simp only [go_sem, hT, bne_self_eq_false, List.getElem?_map, hx, hy, hwp, Option.map_some, datI, ResultD.dat, Int.toNat_natCast]) | with_reducible (first | refine stp ?_ | refine pw_seq_opsK kl5 G_ok (fun K hK => ?_) | refine pw_ops G_ok (fun K hK => ?_)) | ((with_reducible first | apply CallK.eq); (focus (with_reducible first | exact hs1 | exact hs2 | exact hw | exact hq1 | exact hq2 | exact sameInts_ok R R (by omega) (by omega))); (focus (first | exact rfl | (simp [RV.flat, D.sc, datI]; done))); try simp only [go_sem, hT, bne_self_eq_false, List.getElem?_map, hx, hy, hwp, Option.map_some, datI, ResultD.dat, Int.toNat_natCast]) | refine inBlockA_other (by decide) ?_ | (with_reducible refine pK_mk (fun hc => ?_) (fun hc => ?_) <;> (try simp only [go_sem, hT, bne_self_eq_false, List.getElem?_map, hx, hy, hwp, Option.map_some, datI, ResultD.dat, Int.toNat_natCast]) <;> (try simp at hc) <;> (try (exfalso; omega))) | ((first | refine pw_seq (pw_cond rfl (fun hc => ?_) (fun hc => ?_)) | refine pw_cond rfl (fun hc => ?_) (fun hc => ?_)) <;> (try simp at hc) <;> (try (exfalso; omega))) | with_reducible refine And.intro (by first | omega | (unfold inI; omega) | exact andI_inI _) ?_)
          all_goals first
            | (exfalso; omega)
            | (refine retQ_ret rfl rfl (by simp [rowsOf, lk]) ?_; rfl)

theorem own : ownKnob Try.prog.godebug = none := by kernel_rfl
theorem laidOut : laidOutB Try.prog = true := by kernel_rfl
set_option linter.unusedVariables false in
set_option maxRecDepth 100000 in
theorem lifted (os : Os) (started : os.Started) (H : Type) (enc : TypeId × Value → H) :
    ReturnsInHanded {} Try.checked os 5 .any (Rows.fnQualifiedSpec.pre6 enc Try.prog Try.f5 Rows.fnQualifiedRow.domain false) (Rows.fnQualifiedSpec.post enc Try.prog Try.f5 false true false false) := by
  refine returnsInHanded_of_change (C := Try.checked) own started (by kernel_rfl) Try.func5
    (ChangeSpec.witness6 (enc := enc) (C := Try.checked) false ⟨#[], #[.slice none 0 0, .slice none 0 0], []⟩ 8 (by kernel_rfl) (by kernel_rfl) (by kernel_rfl) (by kernel_rfl)) ?_
  intro W base args ds gs before hval0 hW hcnd _
  have hval : ∀ (j : Nat) t v, Try.f5.params[j]? = some t → args[j]? = some v → Value.okWide Try.prog W .any base t v := hval0
  have hW' := hW
  obtain ⟨p, q, hA0, hV, rfl, hfz, hnd⟩ := hW
  have hA : DataW.TrodAll enc Try.prog W 0 (fun _ => true) true Try.f5.params.toList args.toList ds p := hA0
  rw [Try.params5] at hA hval
  obtain ⟨v0, vs0, d0, ds0, p0, q0, hargs, rfl, rfl, h0, r0⟩ := trodAll_cons hA
  obtain ⟨v1, vs1, d1, ds1, p1, q1, rfl, rfl, rfl, h1, r1⟩ := trodAll_cons r0
  obtain ⟨rfl, rfl, rfl⟩ := trodAll_nil r1
  obtain rfl : args = #[v0, v1] := by cases args; simp_all
  obtain ⟨rfl, rfl⟩ := trodVars_none hV
  have k0 := h0
  have lt0 := below_lt k0
  obtain ⟨s0, len0, cap0, rfl⟩ := okWide_slice Try.underlying22 (hval 0 22 v0 rfl rfl)
  obtain ⟨fuel0, hf0⟩ := h0
  obtain ⟨x0, m0, rd0⟩ := open_bytes.2 _ _ _ hf0
  have R0 := R_of_crd1 rfl rd0
  clear hf0
  have k1 := h1
  have lt1 := below_lt k1
  obtain ⟨s1, len1, cap1, rfl⟩ := okWide_slice Try.underlying22 (hval 1 22 v1 rfl rfl)
  obtain ⟨fuel1, hf1⟩ := h1
  obtain ⟨x1, m1, rd1⟩ := open_bytes.2 _ _ _ hf1
  have R1 := R_of_crd1 rfl rd1
  clear hf1
  clear hA0 hval0
  refine (mwalk (law_FnQualified_ok x0 m0 x1 m1) W _ rfl (args2 R0 R1)).mono fun e W' ⟨he, bel⟩ => ?_
  subst he
  exact ⟨_, rfl, _, _, _, [], _, [], hW', trodAll_mk1 (shut_bool Try.underlying4 _), (trodAll_cons_mk (Below.trod laidOut (by kernel_rfl) (of_decide_eq_true (by kernel_rfl)) k0 bel lt0) (trodAll_cons_mk (Below.trod laidOut (by kernel_rfl) (of_decide_eq_true (by kernel_rfl)) k1 bel lt1) trodAll_mk0)), rfl, bel.frame _, fun h => by cases h⟩
theorem over : Rows.fnQualifiedRow.holds Try.pinned (OpenSpec.ofChange Rows.fnQualifiedSpec) :=
  OpenClaim.holds_of_wide 5 Try.f5 rfl rfl rfl rfl rfl rfl rfl ⟨rfl, rfl, rfl, rfl, rfl⟩ rfl rfl rfl rfl rfl (by kernel_rfl) Try.func5 (by kernel_rfl)
    (of_decide_eq_true (by kernel_rfl)) (by unfold Func.isWrapper; first | (rw [if_pos (by decide +kernel)]; kernel_rfl) | (rw [if_neg (by decide +kernel)]; exact ⟨rfl, rfl⟩))
    (fun os started H enc _ => lifted os started H enc)
theorem proved : Rows.FnQualifiedSaid := over
end Go.Proofs.Ythkkpiodligmiaa.lawQualified
