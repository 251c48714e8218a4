/- For all bytes, what the law FnQuotas draws and asks holds: it returns true: the statement's row, proved. No conditions. -/
import Derived.Test.YthkkpiodligmiaaRows
import Derived.Test.YthkkpiodligmiaaQy
import Derived.Test.YthkkpiodligmiaaPi
import Derived.Test.YthkkpiodligmiaaPs
import Derived.Test.YthkkpiodligmiaaCz
set_option linter.unusedSimpArgs false
set_option linter.unusedVariables false
set_option maxHeartbeats 2000000
set_option maxRecDepth 100000
namespace Go.Proofs.Ythkkpiodligmiaa.lawQuotas
open Go.ChangeShapes Go.WideShapes Go.ChangeAt Go.RowKit Go.Deep

theorem fdata {P : Program} {f : FuncId} {args : List PV} {rs : List RV} (h : FnEq P f args rs) : FnEq P f args (rs.map RV.data) := FnOK.data (h.mono fun _ e => by rw [e])
theorem ResOk.first {x : ResultD} (h : ResOk x) : x.scores[0]? = some (x.scores.getD 0 0) := by
  have h1 : 0 < x.scores.length := h.2.2.2.1
  rw [List.getD_eq_getElem?_getD, List.getElem?_eq_getElem h1]; rfl
set_option maxHeartbeats 20000000 in
theorem law_FnQuotas_ok (xs0 : List Int) (m0 : xs0.length ≤ maxLen ∧ ∀ x ∈ xs0, 0 ≤ x ∧ x ≤ 255) (xs1 : List Int) (m1 : xs1.length ≤ maxLen ∧ ∀ x ∈ xs1, 0 ≤ x ∧ x ≤ 255) : FnEq Try.prog 6 [.d (.lst 1 (xs0.map datY)), .d (.lst 1 (xs1.map datY))] [.d (.bool true)] := by
  have hT : bP True = true := bP_true trivial
  have hbig := big_ok xs0 xs1 m0.1 m1.1
  refine fn_ok G_ok Try.func6 rfl rfl ?_; simp only [Try.ntmps6, List.length_cons, List.length_nil, Nat.reduceAdd, Nat.reduceSub, enm]
  by_cases hb : 1048576 < xs0.length + xs1.length
  · rw [decide_eq_true hb] at hbig
    repeat' (first | ((with_reducible first | refine execL_step (fun K' hK' => ?_)); (first | with_reducible refine s_none rfl ?_ | refine s_some2 rfl ?_); simp only [go_sem]) | (with_reducible refine hK' _ ?_; clear hK' K') | (with_reducible refine hK _ ?_; clear hK K; try simp only [go_sem]) | with_reducible (first | refine stp ?_ | refine pw_seq_opsK kl6 G_ok (fun K hK => ?_) | refine pw_ops G_ok (fun K hK => ?_)) | ((with_reducible first | apply CallK.eq); (focus (with_reducible first | exact hbig)); (focus (first | exact rfl | (simp [RV.flat, D.sc, datI]; done))); try simp only [go_sem]) | refine inBlockA_other (by decide) ?_ | (with_reducible refine pK_mk (fun hc => ?_) (fun hc => ?_) <;> (try simp only [go_sem]) <;> (try simp at hc) <;> (try (exfalso; omega))) | ((first | refine pw_seq (pw_cond rfl (fun hc => ?_) (fun hc => ?_)) | refine pw_cond rfl (fun hc => ?_) (fun hc => ?_)) <;> (try simp at hc) <;> (try (exfalso; omega))) | with_reducible refine And.intro (by first | omega | (unfold inI; omega) | exact andI_inI _) ?_)
    refine retQ_ret rfl rfl (by simp [rowsOf, lk]) ?_; rfl
  · rw [decide_eq_false hb] at hbig
    repeat' (first | ((with_reducible first | refine execL_step (fun K' hK' => ?_)); (first | with_reducible refine s_none rfl ?_ | refine s_some2 rfl ?_); simp only [go_sem]) | (with_reducible refine hK' _ ?_; clear hK' K') | (with_reducible refine hK _ ?_; clear hK K; try simp only [go_sem]) | with_reducible (first | refine stp ?_ | refine pw_seq_opsK kl6 G_ok (fun K hK => ?_) | refine pw_ops G_ok (fun K hK => ?_)) | ((with_reducible first | apply CallK.eq); (focus (with_reducible first | exact hbig)); (focus (first | exact rfl | (simp [RV.flat, D.sc, datI]; done))); try simp only [go_sem]) | refine inBlockA_other (by decide) ?_ | (with_reducible refine pK_mk (fun hc => ?_) (fun hc => ?_) <;> (try simp only [go_sem]) <;> (try simp at hc) <;> (try (exfalso; omega))) | ((first | refine pw_seq (pw_cond rfl (fun hc => ?_) (fun hc => ?_)) | refine pw_cond rfl (fun hc => ?_) (fun hc => ?_)) <;> (try simp at hc) <;> (try (exfalso; omega))) | with_reducible refine And.intro (by first | omega | (unfold inI; omega) | exact andI_inI _) ?_)
    refine CallK.of (drawQuota_ok xs0 m0.2 (by omega)) ?_; rintro _ ⟨l, c, n, q, ⟨hl, hc, hn, hq⟩, rfl⟩; refine ⟨(fun h => by cases h), ?_⟩; try simp only [go_sem]
    have hl41 := hl.1
    have hc41 := hc.1
    have hlk : ∀ r ∈ l, r.scores.length ≤ 1048576 := fun r hr => Nat.le_trans (hl.2 r hr).2.2.1 (by decide)
    have hw1 := fdata (impl_WithQuota_ok l c n q (by omega) hlk (by omega))
    have hw2 := fdata (spec_WithQuota_ok l c n q (by omega) hlk (by omega))
    have hr1 := fdata (impl_ReservesOf_ok l c n q (by omega) hlk (by omega))
    have hr2 := fdata (spec_ReservesOf_ok l c n q (by omega) hlk (by omega))
    simp only [List.map_cons, List.map_nil, RV.data] at hw1 hw2 hr1 hr2
    obtain ⟨hone, ⟨hTl, hRl⟩, hqf⟩ := quotas_facts l c n q
    rw [hone] at hr1 hr2
    generalize (ansWithQuota l c n q).getD [] = T at hw1 hw2 hTl hqf
    generalize (ansReservesOf l c n q).getD [] = R at hr1 hr2 hRl hqf
    generalize (ansWithQuota l c n q).isSome = ok at hw1 hw2 hr1 hr2 hqf
    repeat' (first | with_reducible refine stop_seq (id := 10) ?_ | with_reducible refine stop_one (id := 10) ?_ | ((with_reducible first | refine execL_step (fun K' hK' => ?_)); (first | with_reducible refine s_none rfl ?_ | refine s_some2 rfl ?_); simp only [go_sem, hT, bne_self_eq_false]) | (with_reducible refine hK' _ ?_; clear hK' K') | (with_reducible refine hK _ ?_; clear hK K; try simp only [go_sem, hT, bne_self_eq_false]) | with_reducible (first | refine stp ?_ | refine pw_seq_opsK kl6 G_ok (fun K hK => ?_) | refine pw_ops G_ok (fun K hK => ?_)) | ((with_reducible first | apply CallK.eq); (focus (with_reducible first | exact hw1 | exact hw2 | exact hr1 | exact hr2 | exact sameInts_ok T T (by omega) (by omega) | exact sameInts_ok R R (by omega) (by omega))); (focus (first | exact rfl | (simp [RV.flat, D.sc, datI]; done))); try simp only [go_sem, hT, bne_self_eq_false]) | refine inBlockA_other (by decide) ?_ | (with_reducible refine pK_mk (fun hc => ?_) (fun hc => ?_) <;> (try simp only [go_sem, hT, bne_self_eq_false]) <;> (try simp at hc) <;> (try (exfalso; omega))) | ((first | refine pw_seq (pw_cond rfl (fun hc => ?_) (fun hc => ?_)) | refine pw_cond rfl (fun hc => ?_) (fun hc => ?_)) <;> (try simp at hc) <;> (try (exfalso; omega))) | with_reducible refine And.intro (by first | omega | (unfold inI; omega) | exact andI_inI _) ?_)
    all_goals first
      | (exfalso; omega)
      | skip
    unfold Stop
    obtain ⟨N, hN⟩ : ∃ N : Nat, N = 0 := ⟨0, rfl⟩
    refine (fun (key1 : ∀ N : Nat, N = 0 → PW Try.prog ?c1 ?Q1 ⟨⟨298, [(1, .d (.lst 1 (xs1.map datY)))]⟩, [], 0⟩) => ?m1) ?k1
    case m1 =>
      cases ok
      · repeat' (first | with_reducible refine stop_seq (id := 36) ?_ | with_reducible refine stop_one (id := 36) ?_ | ((with_reducible first | refine execL_step (fun K' hK' => ?_)); (first | with_reducible refine s_none rfl ?_ | refine s_some2 rfl ?_); simp only [go_sem]) | (with_reducible refine hK' _ ?_; clear hK' K') | (with_reducible refine hK _ ?_; clear hK K; try simp only [go_sem]) | with_reducible (first | refine stp ?_ | refine pw_seq_opsK kl6 G_ok (fun K hK => ?_) | refine pw_ops G_ok (fun K hK => ?_)) | refine inBlockA_other (by decide) ?_ | (with_reducible refine pK_mk (fun hc => ?_) (fun hc => ?_) <;> (try simp only [go_sem]) <;> (try simp at hc) <;> (try (exfalso; omega))) | ((first | refine pw_seq (pw_cond rfl (fun hc => ?_) (fun hc => ?_)) | refine pw_cond rfl (fun hc => ?_) (fun hc => ?_)) <;> (try simp at hc) <;> (try (exfalso; omega))) | with_reducible refine And.intro (by first | omega | (unfold inI; omega) | exact andI_inI _) ?_)
        unfold Stop
        have h := key1 N hN
        refine pw_fits (s0 := ⟨⟨298, [(1, .d (.lst 1 (xs1.map datY)))]⟩, [], 0⟩) (fits_mk [] (by simp [renL_d, bdL_d, sg, over, wipe, wl, memN, ins, rm, lk, fitFr, fit1, ren, renL, bd, bdL, app, fitHp, hget, renB, bdB] <;> omega)) ?_
        exact h
      · obtain ⟨hv, hTn, ⟨Kc, hKc, hK20, hKs, hKb⟩, hall, hdis⟩ := hqf rfl
        have hk1 := fdata (impl_ClubCounts_ok c T (by omega) (by omega))
        have hk2 := fdata (spec_ClubCounts_ok c T (by omega) (by omega))
        rw [hKc] at hk1 hk2
        simp only [List.map_cons, List.map_nil, RV.data, Option.getD_some, Option.isSome_some] at hk1 hk2
        have hps := pSum_ok Kc (fun v hv => ⟨(hKb v hv).1, by have := (hKb v hv).2.1; omega⟩) (by omega)
        rw [hKs] at hps
        repeat' (first | ((with_reducible first | refine execL_step (fun K' hK' => ?_)); (first | with_reducible refine s_none rfl ?_ | refine s_some2 rfl ?_); simp only [go_sem, hT, bne_self_eq_false]) | (with_reducible refine hK' _ ?_; clear hK' K') | (with_reducible refine hK _ ?_; clear hK K; try simp only [go_sem, hT, bne_self_eq_false]) | with_reducible (first | refine stp ?_ | refine pw_seq_opsK kl6 G_ok (fun K hK => ?_) | refine pw_ops G_ok (fun K hK => ?_)) | ((with_reducible first | apply CallK.eq); (focus (with_reducible first | exact hk1 | exact hk2 | exact hps | exact sameInts_ok Kc Kc (by omega) (by omega))); (focus (first | exact rfl | (simp [RV.flat, D.sc, datI]; done))); try simp only [go_sem, hT, bne_self_eq_false]) | refine inBlockA_other (by decide) ?_ | (with_reducible refine pK_mk (fun hc => ?_) (fun hc => ?_) <;> (try simp only [go_sem, hT, bne_self_eq_false]) <;> (try simp at hc) <;> (try (exfalso; omega))) | ((first | refine pw_seq (pw_cond rfl (fun hc => ?_) (fun hc => ?_)) | refine pw_cond rfl (fun hc => ?_) (fun hc => ?_)) <;> (try simp at hc) <;> (try (exfalso; omega))) | with_reducible refine And.intro (by first | omega | (unfold inI; omega) | exact andI_inI _) ?_)
        all_goals first
          | (exfalso; omega)
          | skip
        refine pw_loop_over [4, 22, 155, 156, 157, 158, 159, 160, 161, 162] (fun k : Nat => [(155, .d (.int .i64 (k : Int)))]) (fun k : Nat => []) 0 (fun k : Nat => k ≤ Kc.length) (fun k : Nat => Kc.length - k) 0 (Nat.zero_le _) (fits_mk [] (by simp [renL_d, bdL_d, sg, over, wipe, wl, memN, ins, rm, lk, fitFr, fit1, ren, renL, bd, bdL, app, fitHp, hget, renB, bdB] <;> omega)) ?_
        intro k hk
        simp only [over, wipe, wl, memN, ins, rm, if_true, if_false, Nat.reduceEqDiff, Bool.false_eq_true, reduceCtorEq]
        by_cases hlt : k < Kc.length
        · have hx := List.getElem?_eq_getElem hlt
          generalize Kc[k] = v at hx
          have hvb := hKb v (List.mem_of_getElem? hx)
          repeat' (first | ((with_reducible first | refine execL_step (fun K' hK' => ?_)); (first | with_reducible refine s_none rfl ?_ | refine s_some2 rfl ?_); simp only [go_sem, List.getElem?_map, hx, Option.map_some, datI]) | (with_reducible refine hK' _ ?_; clear hK' K') | (with_reducible refine hK _ ?_; clear hK K; try simp only [go_sem, List.getElem?_map, hx, Option.map_some, datI]) | with_reducible (first | refine stp ?_ | refine pw_seq_opsK kl6 G_ok (fun K hK => ?_) | refine pw_ops G_ok (fun K hK => ?_)) | refine inBlockA_other (by decide) ?_ | (with_reducible refine pK_mk (fun hc => ?_) (fun hc => ?_) <;> (try simp only [go_sem, List.getElem?_map, hx, Option.map_some, datI]) <;> (try simp at hc) <;> (try (exfalso; omega))) | ((first | refine pw_seq (pw_cond rfl (fun hc => ?_) (fun hc => ?_)) | refine pw_cond rfl (fun hc => ?_) (fun hc => ?_)) <;> (try simp at hc) <;> (try (exfalso; omega))) | with_reducible refine And.intro (by first | omega | (unfold inI; omega) | exact andI_inI _) ?_)
          all_goals first
            | (exfalso; omega)
            | skip
          exact ⟨k + 1, by omega, by omega, (fits_mk [] (by simp [renL_d, bdL_d, sg, over, wipe, wl, memN, ins, rm, lk, fitFr, fit1, ren, renL, bd, bdL, app, fitHp, hget, renB, bdB] <;> omega))⟩
        · repeat' (first | ((with_reducible first | refine execL_step (fun K' hK' => ?_)); (first | with_reducible refine s_none rfl ?_ | refine s_some2 rfl ?_); simp only [go_sem]) | (with_reducible refine hK' _ ?_; clear hK' K') | (with_reducible refine hK _ ?_; clear hK K; try simp only [go_sem]) | with_reducible (first | refine stp ?_ | refine pw_seq_opsK kl6 G_ok (fun K hK => ?_) | refine pw_ops G_ok (fun K hK => ?_)) | refine inBlockA_other (by decide) ?_ | (with_reducible refine pK_mk (fun hc => ?_) (fun hc => ?_) <;> (try simp only [go_sem]) <;> (try simp at hc) <;> (try (exfalso; omega))) | ((first | refine pw_seq (pw_cond rfl (fun hc => ?_) (fun hc => ?_)) | refine pw_cond rfl (fun hc => ?_) (fun hc => ?_)) <;> (try simp at hc) <;> (try (exfalso; omega))) | with_reducible refine And.intro (by first | omega | (unfold inI; omega) | exact andI_inI _) ?_)
          have hc0 : cn (fun x : ResultD => decide (0 ≤ x.scores.getD 0 0)) [] = 0 := rfl
          have hpr : ∀ x : ResultD, (fun x : ResultD => decide (0 ≤ x.scores.getD 0 0)) x = decide (0 ≤ x.scores.getD 0 0) := fun _ => rfl
          generalize (fun x : ResultD => decide (0 ≤ x.scores.getD 0 0)) = pr at hall hc0 hpr
          refine pw_loop_over [4, 23, 25, 165, 166, 167, 168, 169, 170, 171, 172, 173, 174, 175, 176] (fun k : Nat => [(165, .d (.int .i64 (k : Int))), (23, .d (.int .i64 ((cn pr (l.take k) : Nat) : Int)))]) (fun k : Nat => []) 0 (fun k : Nat => k ≤ l.length) (fun k : Nat => l.length - k) 0 (Nat.zero_le _) (fits_mk [] (by simp [renL_d, bdL_d, sg, over, wipe, wl, memN, ins, rm, lk, fitFr, fit1, ren, renL, bd, bdL, app, fitHp, hget, renB, bdB, hc0] <;> omega)) ?_
          intro k hk
          simp only [over, wipe, wl, memN, ins, rm, if_true, if_false, Nat.reduceEqDiff, Bool.false_eq_true, reduceCtorEq]
          have hcl := cn_take_le pr l k
          by_cases hlt : k < l.length
          · have hx := List.getElem?_eq_getElem hlt
            generalize l[k] = x at hx
            have hx0 := ResOk.first (hv.at_ hx).1
            by_cases hp : 0 ≤ x.scores.getD 0 0
            · have hcy := cn_yes (p := pr) hx ((hpr x).trans (decide_eq_true hp))
              generalize x.scores.getD 0 0 = f0 at hx0 hp
              repeat' (first | ((with_reducible first | refine execL_step (fun K' hK' => ?_)); (first | with_reducible refine s_none rfl ?_ | refine s_some2 rfl ?_); simp only [go_sem, List.getElem?_map, hx, hx0, hp, Option.map_some, datI, ResultD.dat]) | (with_reducible refine hK' _ ?_; clear hK' K') | (with_reducible refine hK _ ?_; clear hK K; try simp only [go_sem, List.getElem?_map, hx, hx0, hp, Option.map_some, datI, ResultD.dat]) | with_reducible (first | refine stp ?_ | refine pw_seq_opsK kl6 G_ok (fun K hK => ?_) | refine pw_ops G_ok (fun K hK => ?_)) | refine inBlockA_other (by decide) ?_ | (with_reducible refine pK_mk (fun hc => ?_) (fun hc => ?_) <;> (try simp only [go_sem, List.getElem?_map, hx, hx0, hp, Option.map_some, datI, ResultD.dat]) <;> (try simp at hc) <;> (try (exfalso; omega))) | ((first | refine pw_seq (pw_cond rfl (fun hc => ?_) (fun hc => ?_)) | refine pw_cond rfl (fun hc => ?_) (fun hc => ?_)) <;> (try simp at hc) <;> (try (exfalso; omega))) | with_reducible refine And.intro (by first | omega | (unfold inI; omega) | exact andI_inI _) ?_)
              all_goals first
                | (exfalso; omega)
                | skip
              exact ⟨k + 1, by omega, by omega, (fits_mk [] (by simp [renL_d, bdL_d, sg, over, wipe, wl, memN, ins, rm, lk, fitFr, fit1, ren, renL, bd, bdL, app, fitHp, hget, renB, bdB, hcy] <;> omega))⟩
            · have hcn := cn_no (p := pr) hx ((hpr x).trans (decide_eq_false hp))
              generalize x.scores.getD 0 0 = f0 at hx0 hp
              repeat' (first | ((with_reducible first | refine execL_step (fun K' hK' => ?_)); (first | with_reducible refine s_none rfl ?_ | refine s_some2 rfl ?_); simp only [go_sem, List.getElem?_map, hx, hx0, hp, Option.map_some, datI, ResultD.dat]) | (with_reducible refine hK' _ ?_; clear hK' K') | (with_reducible refine hK _ ?_; clear hK K; try simp only [go_sem, List.getElem?_map, hx, hx0, hp, Option.map_some, datI, ResultD.dat]) | with_reducible (first | refine stp ?_ | refine pw_seq_opsK kl6 G_ok (fun K hK => ?_) | refine pw_ops G_ok (fun K hK => ?_)) | refine inBlockA_other (by decide) ?_ | (with_reducible refine pK_mk (fun hc => ?_) (fun hc => ?_) <;> (try simp only [go_sem, List.getElem?_map, hx, hx0, hp, Option.map_some, datI, ResultD.dat]) <;> (try simp at hc) <;> (try (exfalso; omega))) | ((first | refine pw_seq (pw_cond rfl (fun hc => ?_) (fun hc => ?_)) | refine pw_cond rfl (fun hc => ?_) (fun hc => ?_)) <;> (try simp at hc) <;> (try (exfalso; omega))) | with_reducible refine And.intro (by first | omega | (unfold inI; omega) | exact andI_inI _) ?_)
              all_goals first
                | (exfalso; omega)
                | skip
              exact ⟨k + 1, by omega, by omega, (fits_mk [] (by simp [renL_d, bdL_d, sg, over, wipe, wl, memN, ins, rm, lk, fitFr, fit1, ren, renL, bd, bdL, app, fitHp, hget, renB, bdB, hcn] <;> omega))⟩
          · have hfull : l.take k = l := List.take_of_length_le (by omega)
            have hadd : ((T.length + R.length : Nat) : Int) = (T.length : Int) + (R.length : Int) := by omega
            repeat' (first | ((with_reducible first | refine execL_step (fun K' hK' => ?_)); (first | with_reducible refine s_none rfl ?_ | refine s_some2 rfl ?_); simp only [go_sem, hfull, hall, hadd, bne_self_eq_false]) | (with_reducible refine hK' _ ?_; clear hK' K') | (with_reducible refine hK _ ?_; clear hK K; try simp only [go_sem, hfull, hall, hadd, bne_self_eq_false]) | with_reducible (first | refine stp ?_ | refine pw_seq_opsK kl6 G_ok (fun K hK => ?_) | refine pw_ops G_ok (fun K hK => ?_)) | refine inBlockA_other (by decide) ?_ | (with_reducible refine pK_mk (fun hc => ?_) (fun hc => ?_) <;> (try simp only [go_sem, hfull, hall, hadd, bne_self_eq_false]) <;> (try simp at hc) <;> (try (exfalso; omega))) | ((first | refine pw_seq (pw_cond rfl (fun hc => ?_) (fun hc => ?_)) | refine pw_cond rfl (fun hc => ?_) (fun hc => ?_)) <;> (try simp at hc) <;> (try (exfalso; omega))) | with_reducible refine And.intro (by first | omega | (unfold inI; omega) | exact andI_inI _) ?_)
            all_goals first
              | (exfalso; omega)
              | skip
            refine pw_loop_over [4, 27, 186, 187, 188, 189, 190, 191, 192, 193] (fun k : Nat => [(186, .d (.int .i64 (k : Int)))]) (fun k : Nat => []) 0 (fun k : Nat => k ≤ R.length) (fun k : Nat => R.length - k) 0 (Nat.zero_le _) (fits_mk [] (by simp [renL_d, bdL_d, sg, over, wipe, wl, memN, ins, rm, lk, fitFr, fit1, ren, renL, bd, bdL, app, fitHp, hget, renB, bdB] <;> omega)) ?_
            intro k hk
            simp only [over, wipe, wl, memN, ins, rm, if_true, if_false, Nat.reduceEqDiff, Bool.false_eq_true, reduceCtorEq]
            by_cases hlt : k < R.length
            · have hx := List.getElem?_eq_getElem hlt
              generalize R[k] = x at hx
              have hi := pIn_ok T x (by omega)
              rw [hdis x (List.mem_of_getElem? hx)] at hi
              repeat' (first | ((with_reducible first | refine execL_step (fun K' hK' => ?_)); (first | with_reducible refine s_none rfl ?_ | refine s_some2 rfl ?_); simp only [go_sem, List.getElem?_map, hx, Option.map_some, datI]) | (with_reducible refine hK' _ ?_; clear hK' K') | (with_reducible refine hK _ ?_; clear hK K; try simp only [go_sem, List.getElem?_map, hx, Option.map_some, datI]) | with_reducible (first | refine stp ?_ | refine pw_seq_opsK kl6 G_ok (fun K hK => ?_) | refine pw_ops G_ok (fun K hK => ?_)) | ((with_reducible first | apply CallK.eq); (focus (with_reducible first | exact hi)); (focus (first | exact rfl | (simp [RV.flat, D.sc, datI]; done))); try simp only [go_sem, List.getElem?_map, hx, Option.map_some, datI]) | refine inBlockA_other (by decide) ?_ | (with_reducible refine pK_mk (fun hc => ?_) (fun hc => ?_) <;> (try simp only [go_sem, List.getElem?_map, hx, Option.map_some, datI]) <;> (try simp at hc) <;> (try (exfalso; omega))) | ((first | refine pw_seq (pw_cond rfl (fun hc => ?_) (fun hc => ?_)) | refine pw_cond rfl (fun hc => ?_) (fun hc => ?_)) <;> (try simp at hc) <;> (try (exfalso; omega))) | with_reducible refine And.intro (by first | omega | (unfold inI; omega) | exact andI_inI _) ?_)
              exact ⟨k + 1, by omega, by omega, (fits_mk [] (by simp [renL_d, bdL_d, sg, over, wipe, wl, memN, ins, rm, lk, fitFr, fit1, ren, renL, bd, bdL, app, fitHp, hget, renB, bdB] <;> omega))⟩
            · repeat' (first | with_reducible refine stop_seq (id := 36) ?_ | with_reducible refine stop_one (id := 36) ?_ | ((with_reducible first | refine execL_step (fun K' hK' => ?_)); (first | with_reducible refine s_none rfl ?_ | refine s_some2 rfl ?_); simp only [go_sem]) | (with_reducible refine hK' _ ?_; clear hK' K') | (with_reducible refine hK _ ?_; clear hK K; try simp only [go_sem]) | with_reducible (first | refine stp ?_ | refine pw_seq_opsK kl6 G_ok (fun K hK => ?_) | refine pw_ops G_ok (fun K hK => ?_)) | refine inBlockA_other (by decide) ?_ | (with_reducible refine pK_mk (fun hc => ?_) (fun hc => ?_) <;> (try simp only [go_sem]) <;> (try simp at hc) <;> (try (exfalso; omega))) | ((first | refine pw_seq (pw_cond rfl (fun hc => ?_) (fun hc => ?_)) | refine pw_cond rfl (fun hc => ?_) (fun hc => ?_)) <;> (try simp at hc) <;> (try (exfalso; omega))) | with_reducible refine And.intro (by first | omega | (unfold inI; omega) | exact andI_inI _) ?_)
              unfold Stop
              have h := key1 N hN
              refine pw_fits (s0 := ⟨⟨298, [(1, .d (.lst 1 (xs1.map datY)))]⟩, [], 0⟩) (fits_mk [] (by simp [renL_d, bdL_d, sg, over, wipe, wl, memN, ins, rm, lk, fitFr, fit1, ren, renL, bd, bdL, app, fitHp, hget, renB, bdB] <;> omega)) ?_
              exact h
    case k1 =>
      intro _ _
      repeat' (first | ((with_reducible first | refine execL_step (fun K' hK' => ?_)); (first | with_reducible refine s_none rfl ?_ | refine s_some2 rfl ?_); simp only [go_sem]) | (with_reducible refine hK' _ ?_; clear hK' K') | (with_reducible refine hK _ ?_; clear hK K; try simp only [go_sem]) | with_reducible (first | refine stp ?_ | refine pw_seq_opsK kl6 G_ok (fun K hK => ?_) | refine pw_ops G_ok (fun K hK => ?_)) | refine inBlockA_other (by decide) ?_ | (with_reducible refine pK_mk (fun hc => ?_) (fun hc => ?_) <;> (try simp only [go_sem]) <;> (try simp at hc) <;> (try (exfalso; omega))) | ((first | refine pw_seq (pw_cond rfl (fun hc => ?_) (fun hc => ?_)) | refine pw_cond rfl (fun hc => ?_) (fun hc => ?_)) <;> (try simp at hc) <;> (try (exfalso; omega))) | with_reducible refine And.intro (by first | omega | (unfold inI; omega) | exact andI_inI _) ?_)
      refine CallK.of (drawAreClubs_ok xs1 m1.2 (by omega)) ?_; rintro _ ⟨u, v, ⟨hu, hv⟩, rfl⟩; refine ⟨(fun h => by cases h), ?_⟩; try simp only [go_sem]
      have hu41 := hu.1
      have hv41 := hv.1
      have huk : ∀ r ∈ u, r.scores.length ≤ 1048576 := fun r hr => Nat.le_trans (hu.2 r hr).2.2.1 (by decide)
      have ha1 := impl_AreClubs_ok u v (by omega) huk (by omega)
      have ha2 := spec_AreClubs_ok u v (by omega) huk (by omega)
      generalize (ansAreClubs u v).getD false = is at ha1 ha2
      generalize (ansAreClubs u v).isSome = three at ha1 ha2
      repeat' (first | ((with_reducible first | refine execL_step (fun K' hK' => ?_)); (first | with_reducible refine s_none rfl ?_ | refine s_some2 rfl ?_); simp only [go_sem]) | (with_reducible refine hK' _ ?_; clear hK' K') | (with_reducible refine hK _ ?_; clear hK K; try simp only [go_sem]) | with_reducible (first | refine stp ?_ | refine pw_seq_opsK kl6 G_ok (fun K hK => ?_) | refine pw_ops G_ok (fun K hK => ?_)) | ((with_reducible first | apply CallK.eq); (focus (with_reducible first | exact ha1 | exact ha2)); (focus (first | exact rfl | (simp [RV.flat, D.sc, datI]; done))); try simp only [go_sem]) | refine inBlockA_other (by decide) ?_ | (with_reducible refine pK_mk (fun hc => ?_) (fun hc => ?_) <;> (try simp only [go_sem]) <;> (try simp at hc) <;> (try (exfalso; omega))) | ((first | refine pw_seq (pw_cond rfl (fun hc => ?_) (fun hc => ?_)) | refine pw_cond rfl (fun hc => ?_) (fun hc => ?_)) <;> (try simp at hc) <;> (try (exfalso; omega))) | with_reducible refine And.intro (by first | omega | (unfold inI; omega) | exact andI_inI _) ?_)
      refine CallK.of (drawCounts_ok xs1 m1.2 (by omega)) ?_; rintro _ ⟨c, s, ⟨hc, hs⟩, rfl⟩; refine ⟨(fun h => by cases h), ?_⟩; try simp only [go_sem]
      have hc41 := hc.1
      have hs41 := hs.1
      have hm1 := fdata (impl_ClubCounts_ok c s (by omega) (by omega))
      have hm2 := fdata (spec_ClubCounts_ok c s (by omega) (by omega))
      simp only [List.map_cons, List.map_nil, RV.data] at hm1 hm2
      have hml := counts_len c s
      generalize (ansClubCounts c s).getD [] = M at hm1 hm2 hml
      generalize (ansClubCounts c s).isSome = five at hm1 hm2
      repeat' (first | ((with_reducible first | refine execL_step (fun K' hK' => ?_)); (first | with_reducible refine s_none rfl ?_ | refine s_some2 rfl ?_); simp only [go_sem]) | (with_reducible refine hK' _ ?_; clear hK' K') | (with_reducible refine hK _ ?_; clear hK K; try simp only [go_sem]) | with_reducible (first | refine stp ?_ | refine pw_seq_opsK kl6 G_ok (fun K hK => ?_) | refine pw_ops G_ok (fun K hK => ?_)) | ((with_reducible first | apply CallK.eq); (focus (with_reducible first | exact hm1 | exact hm2)); (focus (first | exact rfl | (simp [RV.flat, D.sc, datI]; done))); try simp only [go_sem]) | refine inBlockA_other (by decide) ?_ | (with_reducible refine pK_mk (fun hc => ?_) (fun hc => ?_) <;> (try simp only [go_sem]) <;> (try simp at hc) <;> (try (exfalso; omega))) | ((first | refine pw_seq (pw_cond rfl (fun hc => ?_) (fun hc => ?_)) | refine pw_cond rfl (fun hc => ?_) (fun hc => ?_)) <;> (try simp at hc) <;> (try (exfalso; omega))) | with_reducible refine And.intro (by first | omega | (unfold inI; omega) | exact andI_inI _) ?_)
      refine CallK.of (drawFields_ok xs1 m1.2 (by omega)) ?_; rintro _ ⟨a, b, ⟨ha, hbb⟩, rfl⟩; refine ⟨(fun h => by cases h), ?_⟩; try simp only [go_sem]
      have ha41 := ha.1
      have hb41 := hbb.1
      have hf1 := fdata (impl_FieldChanges_ok a b (by omega) (by omega))
      have hf2 := fdata (spec_FieldChanges_ok a b (by omega) (by omega))
      simp only [List.map_cons, List.map_nil, RV.data] at hf1 hf2
      obtain ⟨⟨hil, hol⟩, hff⟩ := field_facts a b
      generalize ((ansFieldChanges a b).getD ([], [])).1 = I at hf1 hf2 hil hff
      generalize ((ansFieldChanges a b).getD ([], [])).2 = O at hf1 hf2 hol hff
      generalize (ansFieldChanges a b).isSome = seven at hf1 hf2 hff
      cases seven
      · repeat' (first | ((with_reducible first | refine execL_step (fun K' hK' => ?_)); (first | with_reducible refine s_none rfl ?_ | refine s_some2 rfl ?_); simp only [go_sem, hT, bne_self_eq_false]) | (with_reducible refine hK' _ ?_; clear hK' K') | (with_reducible refine hK _ ?_; clear hK K; try simp only [go_sem, hT, bne_self_eq_false]) | with_reducible (first | refine stp ?_ | refine pw_seq_opsK kl6 G_ok (fun K hK => ?_) | refine pw_ops G_ok (fun K hK => ?_)) | ((with_reducible first | apply CallK.eq); (focus (with_reducible first | exact hf1 | exact hf2 | exact sameInts_ok M M (by omega) (by omega) | exact sameInts_ok I I (by omega) (by omega) | exact sameInts_ok O O (by omega) (by omega))); (focus (first | exact rfl | (simp [RV.flat, D.sc, datI]; done))); try simp only [go_sem, hT, bne_self_eq_false]) | refine inBlockA_other (by decide) ?_ | (with_reducible refine pK_mk (fun hc => ?_) (fun hc => ?_) <;> (try simp only [go_sem, hT, bne_self_eq_false]) <;> (try simp at hc) <;> (try (exfalso; omega))) | ((first | refine pw_seq (pw_cond rfl (fun hc => ?_) (fun hc => ?_)) | refine pw_cond rfl (fun hc => ?_) (fun hc => ?_)) <;> (try simp at hc) <;> (try (exfalso; omega))) | with_reducible refine And.intro (by first | omega | (unfold inI; omega) | exact andI_inI _) ?_)
        all_goals first
          | (exfalso; omega)
          | (refine retQ_ret rfl rfl (by simp [rowsOf, lk]) ?_; rfl)
      · have hff := hff rfl
        have hE : ((a.length : Int) + (I.length : Int) == (b.length : Int) + (O.length : Int)) = true := by simp; omega
        repeat' (first | ((with_reducible first | refine execL_step (fun K' hK' => ?_)); (first | with_reducible refine s_none rfl ?_ | refine s_some2 rfl ?_); simp only [go_sem, hT, hE, bne_self_eq_false]) | (with_reducible refine hK' _ ?_; clear hK' K') | (with_reducible refine hK _ ?_; clear hK K; try simp only [go_sem, hT, hE, bne_self_eq_false]) | with_reducible (first | refine stp ?_ | refine pw_seq_opsK kl6 G_ok (fun K hK => ?_) | refine pw_ops G_ok (fun K hK => ?_)) | ((with_reducible first | apply CallK.eq); (focus (with_reducible first | exact hf1 | exact hf2 | exact sameInts_ok M M (by omega) (by omega) | exact sameInts_ok I I (by omega) (by omega) | exact sameInts_ok O O (by omega) (by omega))); (focus (first | exact rfl | (simp [RV.flat, D.sc, datI]; done))); try simp only [go_sem, hT, hE, bne_self_eq_false]) | refine inBlockA_other (by decide) ?_ | (with_reducible refine pK_mk (fun hc => ?_) (fun hc => ?_) <;> (try simp only [go_sem, hT, hE, bne_self_eq_false]) <;> (try simp at hc) <;> (try (exfalso; omega))) | ((first | refine pw_seq (pw_cond rfl (fun hc => ?_) (fun hc => ?_)) | refine pw_cond rfl (fun hc => ?_) (fun hc => ?_)) <;> (try simp at hc) <;> (try (exfalso; omega))) | with_reducible refine And.intro (by first | omega | (unfold inI; omega) | exact andI_inI _) ?_)
        all_goals first
          | (exfalso; omega)
          | (refine retQ_ret rfl rfl (by simp [rowsOf, lk]) ?_; first | rfl | (simp; omega))

theorem own : ownKnob Try.prog.godebug = none := by kernel_rfl
theorem laidOut : laidOutB Try.prog = true := by kernel_rfl
set_option linter.unusedVariables false in
set_option maxRecDepth 100000 in
theorem lifted (os : Os) (started : os.Started) (H : Type) (enc : TypeId × Value → H) :
    ReturnsInHanded {} Try.checked os 6 .any (Rows.fnQuotasSpec.pre6 enc Try.prog Try.f6 Rows.fnQuotasRow.domain false) (Rows.fnQuotasSpec.post enc Try.prog Try.f6 false true false false) := by
  refine returnsInHanded_of_change (C := Try.checked) own started (by kernel_rfl) Try.func6
    (ChangeSpec.witness6 (enc := enc) (C := Try.checked) false ⟨#[], #[.slice none 0 0, .slice none 0 0], []⟩ 8 (by kernel_rfl) (by kernel_rfl) (by kernel_rfl) (by kernel_rfl)) ?_
  intro W base args ds gs before hval0 hW hcnd _
  have hval : ∀ (j : Nat) t v, Try.f6.params[j]? = some t → args[j]? = some v → Value.okWide Try.prog W .any base t v := hval0
  have hW' := hW
  obtain ⟨p, q, hA0, hV, rfl, hfz, hnd⟩ := hW
  have hA : DataW.TrodAll enc Try.prog W 0 (fun _ => true) true Try.f6.params.toList args.toList ds p := hA0
  rw [Try.params6] at hA hval
  obtain ⟨v0, vs0, d0, ds0, p0, q0, hargs, rfl, rfl, h0, r0⟩ := trodAll_cons hA
  obtain ⟨v1, vs1, d1, ds1, p1, q1, rfl, rfl, rfl, h1, r1⟩ := trodAll_cons r0
  obtain ⟨rfl, rfl, rfl⟩ := trodAll_nil r1
  obtain rfl : args = #[v0, v1] := by cases args; simp_all
  obtain ⟨rfl, rfl⟩ := trodVars_none hV
  have k0 := h0
  have lt0 := below_lt k0
  obtain ⟨s0, len0, cap0, rfl⟩ := okWide_slice Try.underlying22 (hval 0 22 v0 rfl rfl)
  obtain ⟨fuel0, hf0⟩ := h0
  obtain ⟨x0, m0, rd0⟩ := open_bytes.2 _ _ _ hf0
  have R0 := R_of_crd1 rfl rd0
  clear hf0
  have k1 := h1
  have lt1 := below_lt k1
  obtain ⟨s1, len1, cap1, rfl⟩ := okWide_slice Try.underlying22 (hval 1 22 v1 rfl rfl)
  obtain ⟨fuel1, hf1⟩ := h1
  obtain ⟨x1, m1, rd1⟩ := open_bytes.2 _ _ _ hf1
  have R1 := R_of_crd1 rfl rd1
  clear hf1
  clear hA0 hval0
  refine (mwalk (law_FnQuotas_ok x0 m0 x1 m1) W _ rfl (args2 R0 R1)).mono fun e W' ⟨he, bel⟩ => ?_
  subst he
  exact ⟨_, rfl, _, _, _, [], _, [], hW', trodAll_mk1 (shut_bool Try.underlying4 _), (trodAll_cons_mk (Below.trod laidOut (by kernel_rfl) (of_decide_eq_true (by kernel_rfl)) k0 bel lt0) (trodAll_cons_mk (Below.trod laidOut (by kernel_rfl) (of_decide_eq_true (by kernel_rfl)) k1 bel lt1) trodAll_mk0)), rfl, bel.frame _, fun h => by cases h⟩
theorem over : Rows.fnQuotasRow.holds Try.pinned (OpenSpec.ofChange Rows.fnQuotasSpec) :=
  OpenClaim.holds_of_wide 6 Try.f6 rfl rfl rfl rfl rfl rfl rfl ⟨rfl, rfl, rfl, rfl, rfl⟩ rfl rfl rfl rfl rfl (by kernel_rfl) Try.func6 (by kernel_rfl)
    (of_decide_eq_true (by kernel_rfl)) (by unfold Func.isWrapper; first | (rw [if_pos (by decide +kernel)]; kernel_rfl) | (rw [if_neg (by decide +kernel)]; exact ⟨rfl, rfl⟩))
    (fun os started H enc _ => lifted os started H enc)
theorem proved : Rows.FnQuotasSaid := over
end Go.Proofs.Ythkkpiodligmiaa.lawQuotas
