/- For all bytes, what the law FnNeeded draws and asks holds: it returns true: the statement's row, proved. No conditions. -/
import Derived.Test.YthkkpiodligmiaaRows
import Derived.Test.YthkkpiodligmiaaSd
import Derived.Test.YthkkpiodligmiaaNg
import Derived.Test.YthkkpiodligmiaaRn2
import Derived.Test.YthkkpiodligmiaaCv
import Derived.Test.YthkkpiodligmiaaQh
import Derived.Test.YthkkpiodligmiaaQs
set_option linter.unusedSimpArgs false
set_option linter.unusedVariables false
set_option maxHeartbeats 2000000
set_option maxRecDepth 100000
namespace Go.Proofs.Ythkkpiodligmiaa.lawNeeded
open Go.ChangeShapes Go.WideShapes Go.ChangeAt Go.RowKit Go.Deep

theorem law_FnNeeded_ok (xs0 : List Int) (m0 : xs0.length ≤ maxLen ∧ ∀ x ∈ xs0, 0 ≤ x ∧ x ≤ 255) (xs1 : List Int) (m1 : xs1.length ≤ maxLen ∧ ∀ x ∈ xs1, 0 ≤ x ∧ x ≤ 255) : FnEq Try.prog 4 [.d (.lst 1 (xs0.map datY)), .d (.lst 1 (xs1.map datY))] [.d (.bool true)] := by
  have hT : bP True = true := bP_true trivial
  have hm0 := m0.1
  have hm1 := m1.1
  unfold maxLen at hm0 hm1
  refine fn_ok G_ok Try.func4 rfl rfl ?_; simp only [Try.ntmps4, List.length_cons, List.length_nil, Nat.reduceAdd, Nat.reduceSub, enm]
  repeat' (first | with_reducible refine stop_seq (id := 1) ?_ | with_reducible refine stop_one (id := 1) ?_ | ((with_reducible first | refine execL_step (fun K' hK' => ?_) | refine quietL_step (fun K' hK' => ?_)); (first | with_reducible refine s_none rfl ?_ | refine s_some2 rfl ?_); simp only [go_sem]) | (with_reducible refine hK' _ ?_; clear hK' K') | (with_reducible refine hK _ ?_; clear hK K; try simp only [go_sem]) | with_reducible (first | refine stp ?_ | refine pw_seq_opsK kl4 G_ok (fun K hK => ?_) | refine pw_ops G_ok (fun K hK => ?_)) | refine inBlockA_other (by decide) ?_ | (with_reducible refine pw_seq_drawK kl4 G_ok mixed (by kernel_rfl) (fun K hK => ?_)) | (with_reducible refine pw_draw G_ok mixed (by kernel_rfl) ?_) | (with_reducible refine pK_mk (fun hc => ?_) (fun hc => ?_) <;> (try simp only [go_sem]) <;> (try simp at hc) <;> (try (exfalso; omega))) | ((first | refine pw_seq (pw_cond rfl (fun hc => ?_) (fun hc => ?_)) | refine pw_cond rfl (fun hc => ?_) (fun hc => ?_)) <;> (try simp at hc) <;> (try (exfalso; omega))) | with_reducible refine And.intro (by first | omega | (unfold inI; omega) | exact andI_inI _) ?_)
  unfold Stop
  refine pw_seq (pw_region ?_)
  refine exec_sound G_ok ?_
  simp only [go_sem]
  refine exec_sound G_ok ?_
  simp only [go_sem]
  refine exec_sound G_ok ?_
  simp only [go_sem]
  refine exec_sound G_ok ?_
  simp only [go_sem]
  refine PQ.po (pq_addW rfl rfl rfl ?_)
  refine exec_sound G_ok ?_
  simp only [go_sem]
  refine thenA_normal ?_
  generalize IntKind.i64.wrap ((xs0.length : Int) + (xs1.length : Int)) = W
  by_cases hb : 1048576 < W
  · repeat' (first | ((with_reducible first | refine execL_step (fun K' hK' => ?_) | refine quietL_step (fun K' hK' => ?_)); (first | with_reducible refine s_none rfl ?_ | refine s_some2 rfl ?_); simp only [go_sem, hb]) | (with_reducible refine hK' _ ?_; clear hK' K') | (with_reducible refine hK _ ?_; clear hK K; try simp only [go_sem, hb]) | with_reducible (first | refine stp ?_ | refine pw_seq_opsK kl4 G_ok (fun K hK => ?_) | refine pw_ops G_ok (fun K hK => ?_)) | refine inBlockA_other (by decide) ?_ | (with_reducible refine pw_seq_drawK kl4 G_ok mixed (by kernel_rfl) (fun K hK => ?_)) | (with_reducible refine pw_draw G_ok mixed (by kernel_rfl) ?_) | (with_reducible refine pK_mk (fun hc => ?_) (fun hc => ?_) <;> (try simp only [go_sem, hb]) <;> (try simp at hc) <;> (try (exfalso; omega))) | ((first | refine pw_seq (pw_cond rfl (fun hc => ?_) (fun hc => ?_)) | refine pw_cond rfl (fun hc => ?_) (fun hc => ?_)) <;> (try simp at hc) <;> (try (exfalso; omega))) | with_reducible refine And.intro (by first | omega | (unfold inI; omega) | exact andI_inI _) ?_)
    all_goals first
      | (exfalso; omega)
      | (refine retQ_ret rfl rfl (by simp [rowsOf, lk]) ?_; rfl)
  · repeat' (first | ((with_reducible first | refine execL_step (fun K' hK' => ?_) | refine quietL_step (fun K' hK' => ?_)); (first | with_reducible refine s_none rfl ?_ | refine s_some2 rfl ?_); simp only [go_sem, hb]) | (with_reducible refine hK' _ ?_; clear hK' K') | (with_reducible refine hK _ ?_; clear hK K; try simp only [go_sem, hb]) | with_reducible (first | refine stp ?_ | refine pw_seq_opsK kl4 G_ok (fun K hK => ?_) | refine pw_ops G_ok (fun K hK => ?_)) | refine inBlockA_other (by decide) ?_ | (with_reducible refine pw_seq_drawK kl4 G_ok mixed (by kernel_rfl) (fun K hK => ?_)) | (with_reducible refine pw_draw G_ok mixed (by kernel_rfl) ?_) | (with_reducible refine pK_mk (fun hc => ?_) (fun hc => ?_) <;> (try simp only [go_sem, hb]) <;> (try simp at hc) <;> (try (exfalso; omega))) | ((first | refine pw_seq (pw_cond rfl (fun hc => ?_) (fun hc => ?_)) | refine pw_cond rfl (fun hc => ?_) (fun hc => ?_)) <;> (try simp at hc) <;> (try (exfalso; omega))) | with_reducible refine And.intro (by first | omega | (unfold inI; omega) | exact andI_inI _) ?_)
    all_goals first
      | (exfalso; omega)
      | skip
    refine CallK.of (drawNeeded_ok xs0 m0.2 hm0) ?_; rintro _ ⟨l, i, s, p, ⟨hl, hi, hs, hp⟩, rfl⟩; refine ⟨(fun h => by cases h), ?_⟩; try simp only [go_sem]
    have hl41 := hl.1
    have hlk : ∀ r ∈ l, r.scores.length ≤ 1048576 := fun r hr => Nat.le_trans (hl.2 r hr).2.2.1 (by decide)
    have hn1 := impl_NeededFor_ok l i s p (by omega) hlk
    have hn2 := spec_NeededFor_ok l i s p (by omega) hlk
    obtain ⟨hnb, hnf⟩ := needed_facts l i s p
    generalize (ansNeededFor l i s p).getD 0 = n at hn1 hn2 hnb hnf
    generalize (ansNeededFor l i s p).isSome = ok at hn1 hn2 hnf
    repeat' (first | ((with_reducible first | refine execL_step (fun K' hK' => ?_) | refine quietL_step (fun K' hK' => ?_)); (first | with_reducible refine s_none rfl ?_ | refine s_some2 rfl ?_); simp only [go_sem]) | (with_reducible refine hK' _ ?_; clear hK' K') | (with_reducible refine hK _ ?_; clear hK K; try simp only [go_sem]) | with_reducible (first | refine stp ?_ | refine pw_seq_opsK kl4 G_ok (fun K hK => ?_) | refine pw_ops G_ok (fun K hK => ?_)) | ((with_reducible first | apply CallK.eq | apply CallQ.eqs); (focus (with_reducible first | exact hn1 | exact hn2)); (focus (first | exact rfl | (simp [RV.flat, D.sc, datI]; done))); try simp only [go_sem]) | refine inBlockA_other (by decide) ?_ | (with_reducible refine pw_seq_drawK kl4 G_ok mixed (by kernel_rfl) (fun K hK => ?_)) | (with_reducible refine pw_draw G_ok mixed (by kernel_rfl) ?_) | (with_reducible refine pK_mk (fun hc => ?_) (fun hc => ?_) <;> (try simp only [go_sem]) <;> (try simp at hc) <;> (try (exfalso; omega))) | ((first | refine pw_seq (pw_cond rfl (fun hc => ?_) (fun hc => ?_)) | refine pw_cond rfl (fun hc => ?_) (fun hc => ?_)) <;> (try simp at hc) <;> (try (exfalso; omega))) | with_reducible refine And.intro (by first | omega | (unfold inI; omega) | exact andI_inI _) ?_)
    refine CallK.of (drawSet_ok xs1 m1.2 hm1) ?_; rintro _ ⟨m, k, c, v, ⟨hm, hk, hc, hv⟩, rfl⟩; refine ⟨(fun h => by cases h), ?_⟩; try simp only [go_sem]
    have hm41 := hm.1
    have hmk : ∀ r ∈ m, r.scores.length ≤ 1048576 := fun r hr => Nat.le_trans (hm.2 r hr).2.2.1 (by decide)
    have hs1 := impl_SetScore_data m k c v (by omega) hmk
    have hs2 := spec_SetScore_data m k c v (by omega) hmk
    have hX41 := setL_len m k c v
    have hXk := setL_bd k c v hmk
    have hback : bP (SetOk m k c v) = true → SetOk m k c v := bP_iff.1
    have hset : SetOk m k c v → _ := set_back
    generalize bP (SetOk m k c v) = one at hs1 hs2 hback
    generalize setL m k c v = X at hs1 hs2 hX41 hXk hset
    repeat' (first | ((with_reducible first | refine execL_step (fun K' hK' => ?_) | refine quietL_step (fun K' hK' => ?_)); (first | with_reducible refine s_none rfl ?_ | refine s_some2 rfl ?_); simp only [go_sem]) | (with_reducible refine hK' _ ?_; clear hK' K') | (with_reducible refine hK _ ?_; clear hK K; try simp only [go_sem]) | with_reducible (first | refine stp ?_ | refine pw_seq_opsK kl4 G_ok (fun K hK => ?_) | refine pw_ops G_ok (fun K hK => ?_)) | ((with_reducible first | apply CallK.eq | apply CallQ.eqs); (focus (with_reducible first | exact hs1 | exact hs2)); (focus (first | exact rfl | (simp [RV.flat, D.sc, datI]; done))); try simp only [go_sem]) | refine inBlockA_other (by decide) ?_ | (with_reducible refine pw_seq_drawK kl4 G_ok mixed (by kernel_rfl) (fun K hK => ?_)) | (with_reducible refine pw_draw G_ok mixed (by kernel_rfl) ?_) | (with_reducible refine pK_mk (fun hc => ?_) (fun hc => ?_) <;> (try simp only [go_sem]) <;> (try simp at hc) <;> (try (exfalso; omega))) | ((first | refine pw_seq (pw_cond rfl (fun hc => ?_) (fun hc => ?_)) | refine pw_cond rfl (fun hc => ?_) (fun hc => ?_)) <;> (try simp at hc) <;> (try (exfalso; omega))) | with_reducible refine And.intro (by first | omega | (unfold inI; omega) | exact andI_inI _) ?_)
    refine CallK.of (drawPlacesIn_ok xs1 m1.2 hm1) ?_; rintro _ ⟨a, g, ⟨ha, hg⟩, rfl⟩; refine ⟨(fun h => by cases h), ?_⟩; try simp only [go_sem]
    have ha41 := ha.1
    have hak : ∀ r ∈ a, r.scores.length ≤ 1048576 := fun r hr => Nat.le_trans (ha.2 r hr).2.2.1 (by decide)
    have hp1 := eq_data (impl_PlacesIn_ok a g (by omega) hak)
    have hp2 := eq_data (spec_PlacesIn_ok a g (by omega) hak)
    simp only [List.map_cons, List.map_nil, RV.data] at hp1 hp2
    obtain ⟨hPl, hPf⟩ := placesIn_facts a g
    generalize (ansPlacesIn a g).getD [] = P at hp1 hp2 hPl hPf
    generalize (ansPlacesIn a g).isSome = three at hp1 hp2 hPf
    repeat' (first | ((with_reducible first | refine execL_step (fun K' hK' => ?_) | refine quietL_step (fun K' hK' => ?_)); (first | with_reducible refine s_none rfl ?_ | refine s_some2 rfl ?_); simp only [go_sem]) | (with_reducible refine hK' _ ?_; clear hK' K') | (with_reducible refine hK _ ?_; clear hK K; try simp only [go_sem]) | with_reducible (first | refine stp ?_ | refine pw_seq_opsK kl4 G_ok (fun K hK => ?_) | refine pw_ops G_ok (fun K hK => ?_)) | ((with_reducible first | apply CallK.eq | apply CallQ.eqs); (focus (with_reducible first | exact hp1 | exact hp2)); (focus (first | exact rfl | (simp [RV.flat, D.sc, datI]; done))); try simp only [go_sem]) | refine inBlockA_other (by decide) ?_ | (with_reducible refine pw_seq_drawK kl4 G_ok mixed (by kernel_rfl) (fun K hK => ?_)) | (with_reducible refine pw_draw G_ok mixed (by kernel_rfl) ?_) | (with_reducible refine pK_mk (fun hc => ?_) (fun hc => ?_) <;> (try simp only [go_sem]) <;> (try simp at hc) <;> (try (exfalso; omega))) | ((first | refine pw_seq (pw_cond rfl (fun hc => ?_) (fun hc => ?_)) | refine pw_cond rfl (fun hc => ?_) (fun hc => ?_)) <;> (try simp at hc) <;> (try (exfalso; omega))) | with_reducible refine And.intro (by first | omega | (unfold inI; omega) | exact andI_inI _) ?_)
    refine CallK.of (drawFlips_ok xs1 m1.2 hm1) ?_; rintro _ ⟨b, h, ⟨hb', hh⟩, rfl⟩; refine ⟨(fun h => by cases h), ?_⟩; try simp only [go_sem]
    have hb41 := hb'.1
    have hbk : ∀ r ∈ b, r.scores.length ≤ 1048576 := fun r hr => Nat.le_trans (hb'.2 r hr).2.2.1 (by decide)
    have hf1 := impl_FlipsOf_ok b h (by omega) hbk
    have hf2 := spec_FlipsOf_ok b h (by omega) hbk
    obtain ⟨hfb, hfl⟩ := flips_facts b h
    have hbb : (b.length : Int) * ((b.length : Int) - 1) ≤ 1700 := by
      have h1 : ((b.length * b.length : Nat) : Int) ≤ ((41 * 41 : Nat) : Int) := Int.ofNat_le.2 (Nat.mul_le_mul hb41 hb41)
      rw [Int.mul_sub]
      have h2 : ((b.length * b.length : Nat) : Int) = (b.length : Int) * (b.length : Int) := by simp
      omega
    generalize (ansFlipsOf b h).getD 0 = f at hf1 hf2 hfb hfl
    generalize (ansFlipsOf b h).isSome = five at hf1 hf2
    repeat' (first | with_reducible refine stop_seq (id := 17) ?_ | with_reducible refine stop_one (id := 17) ?_ | ((with_reducible first | refine execL_step (fun K' hK' => ?_) | refine quietL_step (fun K' hK' => ?_)); (first | with_reducible refine s_none rfl ?_ | refine s_some2 rfl ?_); simp only [go_sem, hT, bne_self_eq_false]) | (with_reducible refine hK' _ ?_; clear hK' K') | (with_reducible refine hK _ ?_; clear hK K; try simp only [go_sem, hT, bne_self_eq_false]) | with_reducible (first | refine stp ?_ | refine pw_seq_opsK kl4 G_ok (fun K hK => ?_) | refine pw_ops G_ok (fun K hK => ?_)) | ((with_reducible first | apply CallK.eq | apply CallQ.eqs); (focus (with_reducible first | exact hf1 | exact hf2 | exact qResults_ok X X (by omega) (by omega) hXk hXk | exact qInts_ok P P (by omega) (by omega))); (focus (first | exact rfl | (simp [RV.flat, D.sc, datI]; done))); try simp only [go_sem, hT, bne_self_eq_false]) | refine inBlockA_other (by decide) ?_ | (with_reducible refine pw_seq_drawK kl4 G_ok mixed (by kernel_rfl) (fun K hK => ?_)) | (with_reducible refine pw_draw G_ok mixed (by kernel_rfl) ?_) | (with_reducible refine pK_mk (fun hc => ?_) (fun hc => ?_) <;> (try simp only [go_sem, hT, bne_self_eq_false]) <;> (try simp at hc) <;> (try (exfalso; omega))) | ((first | refine pw_seq (pw_cond rfl (fun hc => ?_) (fun hc => ?_)) | refine pw_cond rfl (fun hc => ?_) (fun hc => ?_)) <;> (try simp at hc) <;> (try (exfalso; omega))) | with_reducible refine And.intro (by first | omega | (unfold inI; omega) | exact andI_inI _) ?_)
    all_goals first
      | (exfalso; omega)
      | skip
    unfold Stop
    obtain ⟨N, hN⟩ : ∃ N : Nat, N = 0 := ⟨0, rfl⟩
    refine (fun (key2 : ∀ N : Nat, N = 0 → PW Try.prog ?c2 ?Q2 ⟨⟨342, [(5, .d (.lst 2 (l.map ResultD.dat))), (6, .d (.int .i64 i)), (7, .d (.int .i64 s)), (8, .d (.int .i64 p)), (10, .d (.bool ok)), (11, .d (.int .i64 n)), (27, .d (.lst 2 (b.map ResultD.dat))), (30, .d (.bool five)), (31, .d (.int .i64 f))]⟩, [], 0⟩) => ?m2) ?k2
    case m2 =>
      refine (fun (key1 : ∀ N : Nat, N = 0 → PW Try.prog ?c1 ?Q1 ⟨⟨342, [(5, .d (.lst 2 (l.map ResultD.dat))), (6, .d (.int .i64 i)), (7, .d (.int .i64 s)), (8, .d (.int .i64 p)), (10, .d (.bool ok)), (11, .d (.int .i64 n)), (21, .d (.lst 2 (a.map ResultD.dat))), (22, .d (.int .i64 g)), (24, .d (.bool three)), (25, .d (.lst 1 (P.map datI))), (27, .d (.lst 2 (b.map ResultD.dat))), (30, .d (.bool five)), (31, .d (.int .i64 f))]⟩, [], 0⟩) => ?m1) ?k1
      case m1 =>
        cases one
        · repeat' (first | with_reducible refine stop_seq (id := 21) ?_ | with_reducible refine stop_one (id := 21) ?_ | ((with_reducible first | refine execL_step (fun K' hK' => ?_) | refine quietL_step (fun K' hK' => ?_)); (first | with_reducible refine s_none rfl ?_ | refine s_some2 rfl ?_); simp only [go_sem]) | (with_reducible refine hK' _ ?_; clear hK' K') | (with_reducible refine hK _ ?_; clear hK K; try simp only [go_sem]) | with_reducible (first | refine stp ?_ | refine pw_seq_opsK kl4 G_ok (fun K hK => ?_) | refine pw_ops G_ok (fun K hK => ?_)) | refine inBlockA_other (by decide) ?_ | (with_reducible refine pw_seq_drawK kl4 G_ok mixed (by kernel_rfl) (fun K hK => ?_)) | (with_reducible refine pw_draw G_ok mixed (by kernel_rfl) ?_) | (with_reducible refine pK_mk (fun hc => ?_) (fun hc => ?_) <;> (try simp only [go_sem]) <;> (try simp at hc) <;> (try (exfalso; omega))) | ((first | refine pw_seq (pw_cond rfl (fun hc => ?_) (fun hc => ?_)) | refine pw_cond rfl (fun hc => ?_) (fun hc => ?_)) <;> (try simp at hc) <;> (try (exfalso; omega))) | with_reducible refine And.intro (by first | omega | (unfold inI; omega) | exact andI_inI _) ?_)
          unfold Stop
          have h := key1 N hN
          refine pw_fits (s0 := ⟨⟨342, [(5, .d (.lst 2 (l.map ResultD.dat))), (6, .d (.int .i64 i)), (7, .d (.int .i64 s)), (8, .d (.int .i64 p)), (10, .d (.bool ok)), (11, .d (.int .i64 n)), (21, .d (.lst 2 (a.map ResultD.dat))), (22, .d (.int .i64 g)), (24, .d (.bool three)), (25, .d (.lst 1 (P.map datI))), (27, .d (.lst 2 (b.map ResultD.dat))), (30, .d (.bool five)), (31, .d (.int .i64 f))]⟩, [], 0⟩) (fits_mk [] (by simp [renL_d, bdL_d, sg, over, wipe, wl, memN, ins, rm, lk, fitFr, fit1, ren, renL, bd, bdL, app, fitHp, hget, renB, bdB] <;> omega)) ?_
          exact h
        · have hso := hback rfl
          obtain ⟨x, y, hx, hy, hso2, hXm, hXx, hXv⟩ := hset hso
          obtain ⟨k, c, rfl, rfl, hkl, hcl⟩ := hso.1.nat
          simp only [Int.toNat_natCast] at hx hy hXx hXv
          have hs3 := impl_SetScore_data X (k : Int) (c : Int) y (by omega) hXk
          rw [bP_true hso2, hXm] at hs3
          repeat' (first | with_reducible refine stop_seq (id := 21) ?_ | with_reducible refine stop_one (id := 21) ?_ | ((with_reducible first | refine execL_step (fun K' hK' => ?_) | refine quietL_step (fun K' hK' => ?_)); (first | with_reducible refine s_none rfl ?_ | refine s_some2 rfl ?_); simp only [go_sem, hT, bne_self_eq_false, List.getElem?_map, hx, hy, hXx, hXv, Option.map_some, datI, ResultD.dat, Int.toNat_natCast]) | (with_reducible refine hK' _ ?_; clear hK' K') | (with_reducible refine hK _ ?_; clear hK K; try simp only [go_sem, hT, bne_self_eq_false, List.getElem?_map, hx, hy, hXx, hXv, Option.map_some, datI, ResultD.dat, Int.toNat_natCast]) | with_reducible (first | refine stp ?_ | refine pw_seq_opsK kl4 G_ok (fun K hK => ?_) | refine pw_ops G_ok (fun K hK => ?_)) | ((with_reducible first | apply CallK.eq | apply CallQ.eqs); (focus (with_reducible first | exact hs3 | exact qResults_ok m m (by omega) (by omega) hmk hmk)); (focus (first | exact rfl | (simp [RV.flat, D.sc, datI]; done))); try simp only [go_sem, hT, bne_self_eq_false, List.getElem?_map, hx, hy, hXx, hXv, Option.map_some, datI, ResultD.dat, Int.toNat_natCast]) | refine inBlockA_other (by decide) ?_ | (with_reducible refine pw_seq_drawK kl4 G_ok mixed (by kernel_rfl) (fun K hK => ?_)) | (with_reducible refine pw_draw G_ok mixed (by kernel_rfl) ?_) | (with_reducible refine pK_mk (fun hc => ?_) (fun hc => ?_) <;> (try simp only [go_sem, hT, bne_self_eq_false, List.getElem?_map, hx, hy, hXx, hXv, Option.map_some, datI, ResultD.dat, Int.toNat_natCast]) <;> (try simp at hc) <;> (try (exfalso; omega))) | ((first | refine pw_seq (pw_cond rfl (fun hc => ?_) (fun hc => ?_)) | refine pw_cond rfl (fun hc => ?_) (fun hc => ?_)) <;> (try simp at hc) <;> (try (exfalso; omega))) | with_reducible refine And.intro (by first | omega | (unfold inI; omega) | exact andI_inI _) ?_)
          all_goals first
            | (exfalso; omega)
            | skip
          unfold Stop
          have h := key1 N hN
          refine pw_fits (s0 := ⟨⟨342, [(5, .d (.lst 2 (l.map ResultD.dat))), (6, .d (.int .i64 i)), (7, .d (.int .i64 s)), (8, .d (.int .i64 p)), (10, .d (.bool ok)), (11, .d (.int .i64 n)), (21, .d (.lst 2 (a.map ResultD.dat))), (22, .d (.int .i64 g)), (24, .d (.bool three)), (25, .d (.lst 1 (P.map datI))), (27, .d (.lst 2 (b.map ResultD.dat))), (30, .d (.bool five)), (31, .d (.int .i64 f))]⟩, [], 0⟩) (fits_mk [] (by simp [renL_d, bdL_d, sg, over, wipe, wl, memN, ins, rm, lk, fitFr, fit1, ren, renL, bd, bdL, app, fitHp, hget, renB, bdB] <;> omega)) ?_
          exact h
      case k1 =>
        intro _ _
        cases three
        · repeat' (first | with_reducible refine stop_seq (id := 28) ?_ | with_reducible refine stop_one (id := 28) ?_ | ((with_reducible first | refine execL_step (fun K' hK' => ?_) | refine quietL_step (fun K' hK' => ?_)); (first | with_reducible refine s_none rfl ?_ | refine s_some2 rfl ?_); simp only [go_sem]) | (with_reducible refine hK' _ ?_; clear hK' K') | (with_reducible refine hK _ ?_; clear hK K; try simp only [go_sem]) | with_reducible (first | refine stp ?_ | refine pw_seq_opsK kl4 G_ok (fun K hK => ?_) | refine pw_ops G_ok (fun K hK => ?_)) | refine inBlockA_other (by decide) ?_ | (with_reducible refine pw_seq_drawK kl4 G_ok mixed (by kernel_rfl) (fun K hK => ?_)) | (with_reducible refine pw_draw G_ok mixed (by kernel_rfl) ?_) | (with_reducible refine pK_mk (fun hc => ?_) (fun hc => ?_) <;> (try simp only [go_sem]) <;> (try simp at hc) <;> (try (exfalso; omega))) | ((first | refine pw_seq (pw_cond rfl (fun hc => ?_) (fun hc => ?_)) | refine pw_cond rfl (fun hc => ?_) (fun hc => ?_)) <;> (try simp at hc) <;> (try (exfalso; omega))) | with_reducible refine And.intro (by first | omega | (unfold inI; omega) | exact andI_inI _) ?_)
          unfold Stop
          have h := key2 N hN
          refine pw_fits (s0 := ⟨⟨342, [(5, .d (.lst 2 (l.map ResultD.dat))), (6, .d (.int .i64 i)), (7, .d (.int .i64 s)), (8, .d (.int .i64 p)), (10, .d (.bool ok)), (11, .d (.int .i64 n)), (27, .d (.lst 2 (b.map ResultD.dat))), (30, .d (.bool five)), (31, .d (.int .i64 f))]⟩, [], 0⟩) (fits_mk [] (by simp [renL_d, bdL_d, sg, over, wipe, wl, memN, ins, rm, lk, fitFr, fit1, ren, renL, bd, bdL, app, fitHp, hget, renB, bdB] <;> omega)) ?_
          exact h
        · obtain ⟨⟨hav, ha0, hg0, hg1⟩, hPf⟩ := hPf rfl
          obtain ⟨g, rfl⟩ : ∃ j : Nat, g = (j : Int) := ⟨g.toNat, by omega⟩
          simp only [Int.toNat_natCast] at hPf
          repeat' (first | ((with_reducible first | refine execL_step (fun K' hK' => ?_) | refine quietL_step (fun K' hK' => ?_)); (first | with_reducible refine s_none rfl ?_ | refine s_some2 rfl ?_); simp only [go_sem]) | (with_reducible refine hK' _ ?_; clear hK' K') | (with_reducible refine hK _ ?_; clear hK K; try simp only [go_sem]) | with_reducible (first | refine stp ?_ | refine pw_seq_opsK kl4 G_ok (fun K hK => ?_) | refine pw_ops G_ok (fun K hK => ?_)) | refine inBlockA_other (by decide) ?_ | (with_reducible refine pw_seq_drawK kl4 G_ok mixed (by kernel_rfl) (fun K hK => ?_)) | (with_reducible refine pw_draw G_ok mixed (by kernel_rfl) ?_) | (with_reducible refine pK_mk (fun hc => ?_) (fun hc => ?_) <;> (try simp only [go_sem]) <;> (try simp at hc) <;> (try (exfalso; omega))) | ((first | refine pw_seq (pw_cond rfl (fun hc => ?_) (fun hc => ?_)) | refine pw_cond rfl (fun hc => ?_) (fun hc => ?_)) <;> (try simp at hc) <;> (try (exfalso; omega))) | with_reducible refine And.intro (by first | omega | (unfold inI; omega) | exact andI_inI _) ?_)
          refine pw_loop_over [4, 35, 36, 214, 215, 216, 217, 218, 219, 220, 221, 222, 223, 224, 225, 226, 227, 228, 229, 230, 231, 232, 233, 234, 235, 236, 237, 238, 239, 240] (fun k : Nat => [(214, .d (.int .i64 (k : Int)))]) (fun k : Nat => []) 0 (fun k : Nat => k ≤ a.length) (fun k : Nat => a.length - k) 0 (Nat.zero_le _) (fits_mk [] (by simp [renL_d, bdL_d, sg, over, wipe, wl, memN, ins, rm, lk, fitFr, fit1, ren, renL, bd, bdL, app, fitHp, hget, renB, bdB] <;> omega)) ?_
          intro k hk
          simp only [over, wipe, wl, memN, ins, rm, if_true, if_false, Nat.reduceEqDiff, Bool.false_eq_true, reduceCtorEq]
          by_cases hlt : k < a.length
          · have hx := List.getElem?_eq_getElem (show k < a.length by omega)
            generalize a[k] = x at hx
            obtain ⟨hxs, y, hPy, hyl, hyn⟩ := hPf hx
            generalize sgAt (g : Int) x = z at hxs hyn
            by_cases hz : z < 0
            · have hy0 := hyn.2 hz
              repeat' (first | ((with_reducible first | refine execL_step (fun K' hK' => ?_) | refine quietL_step (fun K' hK' => ?_)); (first | with_reducible refine s_none rfl ?_ | refine s_some2 rfl ?_); simp only [go_sem, List.getElem?_map, hx, hxs, hPy, hz, hy0, Option.map_some, datI, ResultD.dat, Int.toNat_natCast, bne_self_eq_false]) | (with_reducible refine hK' _ ?_; clear hK' K') | (with_reducible refine hK _ ?_; clear hK K; try simp only [go_sem, List.getElem?_map, hx, hxs, hPy, hz, hy0, Option.map_some, datI, ResultD.dat, Int.toNat_natCast, bne_self_eq_false]) | with_reducible (first | refine stp ?_ | refine pw_seq_opsK kl4 G_ok (fun K hK => ?_) | refine pw_ops G_ok (fun K hK => ?_)) | refine inBlockA_other (by decide) ?_ | (with_reducible refine pw_seq_drawK kl4 G_ok mixed (by kernel_rfl) (fun K hK => ?_)) | (with_reducible refine pw_draw G_ok mixed (by kernel_rfl) ?_) | (with_reducible refine pK_mk (fun hc => ?_) (fun hc => ?_) <;> (try simp only [go_sem, List.getElem?_map, hx, hxs, hPy, hz, hy0, Option.map_some, datI, ResultD.dat, Int.toNat_natCast, bne_self_eq_false]) <;> (try simp at hc) <;> (try (exfalso; omega))) | ((first | refine pw_seq (pw_cond rfl (fun hc => ?_) (fun hc => ?_)) | refine pw_cond rfl (fun hc => ?_) (fun hc => ?_)) <;> (try simp at hc) <;> (try (exfalso; omega))) | with_reducible refine And.intro (by first | omega | (unfold inI; omega) | exact andI_inI _) ?_)
              all_goals first
                | (exfalso; omega)
                | skip
              exact ⟨k + 1, by omega, by omega, (fits_mk [] (by simp [renL_d, bdL_d, sg, over, wipe, wl, memN, ins, rm, lk, fitFr, fit1, ren, renL, bd, bdL, app, fitHp, hget, renB, bdB] <;> omega))⟩
            · have hy0 : ¬ y < 0 := fun h => hz (hyn.1 h)
              repeat' (first | ((with_reducible first | refine execL_step (fun K' hK' => ?_) | refine quietL_step (fun K' hK' => ?_)); (first | with_reducible refine s_none rfl ?_ | refine s_some2 rfl ?_); simp only [go_sem, List.getElem?_map, hx, hxs, hPy, hz, hy0, Option.map_some, datI, ResultD.dat, Int.toNat_natCast, bne_self_eq_false]) | (with_reducible refine hK' _ ?_; clear hK' K') | (with_reducible refine hK _ ?_; clear hK K; try simp only [go_sem, List.getElem?_map, hx, hxs, hPy, hz, hy0, Option.map_some, datI, ResultD.dat, Int.toNat_natCast, bne_self_eq_false]) | with_reducible (first | refine stp ?_ | refine pw_seq_opsK kl4 G_ok (fun K hK => ?_) | refine pw_ops G_ok (fun K hK => ?_)) | refine inBlockA_other (by decide) ?_ | (with_reducible refine pw_seq_drawK kl4 G_ok mixed (by kernel_rfl) (fun K hK => ?_)) | (with_reducible refine pw_draw G_ok mixed (by kernel_rfl) ?_) | (with_reducible refine pK_mk (fun hc => ?_) (fun hc => ?_) <;> (try simp only [go_sem, List.getElem?_map, hx, hxs, hPy, hz, hy0, Option.map_some, datI, ResultD.dat, Int.toNat_natCast, bne_self_eq_false]) <;> (try simp at hc) <;> (try (exfalso; omega))) | ((first | refine pw_seq (pw_cond rfl (fun hc => ?_) (fun hc => ?_)) | refine pw_cond rfl (fun hc => ?_) (fun hc => ?_)) <;> (try simp at hc) <;> (try (exfalso; omega))) | with_reducible refine And.intro (by first | omega | (unfold inI; omega) | exact andI_inI _) ?_)
              all_goals first
                | (exfalso; omega)
                | skip
              exact ⟨k + 1, by omega, by omega, (fits_mk [] (by simp [renL_d, bdL_d, sg, over, wipe, wl, memN, ins, rm, lk, fitFr, fit1, ren, renL, bd, bdL, app, fitHp, hget, renB, bdB] <;> omega))⟩
          · repeat' (first | with_reducible refine stop_seq (id := 28) ?_ | with_reducible refine stop_one (id := 28) ?_ | ((with_reducible first | refine execL_step (fun K' hK' => ?_) | refine quietL_step (fun K' hK' => ?_)); (first | with_reducible refine s_none rfl ?_ | refine s_some2 rfl ?_); simp only [go_sem]) | (with_reducible refine hK' _ ?_; clear hK' K') | (with_reducible refine hK _ ?_; clear hK K; try simp only [go_sem]) | with_reducible (first | refine stp ?_ | refine pw_seq_opsK kl4 G_ok (fun K hK => ?_) | refine pw_ops G_ok (fun K hK => ?_)) | refine inBlockA_other (by decide) ?_ | (with_reducible refine pw_seq_drawK kl4 G_ok mixed (by kernel_rfl) (fun K hK => ?_)) | (with_reducible refine pw_draw G_ok mixed (by kernel_rfl) ?_) | (with_reducible refine pK_mk (fun hc => ?_) (fun hc => ?_) <;> (try simp only [go_sem]) <;> (try simp at hc) <;> (try (exfalso; omega))) | ((first | refine pw_seq (pw_cond rfl (fun hc => ?_) (fun hc => ?_)) | refine pw_cond rfl (fun hc => ?_) (fun hc => ?_)) <;> (try simp at hc) <;> (try (exfalso; omega))) | with_reducible refine And.intro (by first | omega | (unfold inI; omega) | exact andI_inI _) ?_)
            unfold Stop
            have h := key2 N hN
            refine pw_fits (s0 := ⟨⟨342, [(5, .d (.lst 2 (l.map ResultD.dat))), (6, .d (.int .i64 i)), (7, .d (.int .i64 s)), (8, .d (.int .i64 p)), (10, .d (.bool ok)), (11, .d (.int .i64 n)), (27, .d (.lst 2 (b.map ResultD.dat))), (30, .d (.bool five)), (31, .d (.int .i64 f))]⟩, [], 0⟩) (fits_mk [] (by simp [renL_d, bdL_d, sg, over, wipe, wl, memN, ins, rm, lk, fitFr, fit1, ren, renL, bd, bdL, app, fitHp, hget, renB, bdB] <;> omega)) ?_
            exact h
    case k2 =>
      intro _ _
      generalize hBB : (b.length : Int) * ((b.length : Int) - 1) = BB at hfl hbb
      cases ok
      · repeat' (first | ((with_reducible first | refine execL_step (fun K' hK' => ?_) | refine quietL_step (fun K' hK' => ?_)); (first | with_reducible refine s_none rfl ?_ | refine s_some2 rfl ?_); simp only [go_sem, hBB]) | (with_reducible refine hK' _ ?_; clear hK' K') | (with_reducible refine hK _ ?_; clear hK K; try simp only [go_sem, hBB]) | with_reducible (first | refine stp ?_ | refine pw_seq_opsK kl4 G_ok (fun K hK => ?_) | refine pw_ops G_ok (fun K hK => ?_)) | refine inBlockA_other (by decide) ?_ | (with_reducible refine pw_seq_drawK kl4 G_ok mixed (by kernel_rfl) (fun K hK => ?_)) | (with_reducible refine pw_draw G_ok mixed (by kernel_rfl) ?_) | (with_reducible refine pK_mk (fun hc => ?_) (fun hc => ?_) <;> (try simp only [go_sem, hBB]) <;> (try simp at hc) <;> (try (exfalso; omega))) | ((first | refine pw_seq (pw_cond rfl (fun hc => ?_) (fun hc => ?_)) | refine pw_cond rfl (fun hc => ?_) (fun hc => ?_)) <;> (try simp at hc) <;> (try (exfalso; omega))) | with_reducible refine And.intro (by first | omega | (unfold inI; omega) | exact andI_inI _) ?_)
        all_goals first
          | (exfalso; omega)
          | (refine retQ_ret rfl rfl (by simp [rowsOf, lk]) ?_; rfl)
      · obtain ⟨hask, n, rfl, hso, hpl, hmore⟩ := hnf rfl
        obtain ⟨i, s, rfl, rfl, hil, hsl⟩ := hask.nat
        simp only [Int.toNat_natCast] at hpl hmore
        have hw := impl_SetScore_data l (i : Int) (s : Int) (n : Int) (by omega) hlk
        rw [bP_true hso] at hw
        obtain ⟨hwv, hwl, hwp⟩ := set_places hso
        have hwk := setL_bd (i : Int) (s : Int) (n : Int) hlk
        simp only [Int.toNat_natCast] at hwp
        have hq1 := eq_data (impl_PlacesOfResults_ok (setL l (i : Int) (s : Int) (n : Int)) (by omega) hwk)
        have hq2 := eq_data (spec_PlacesOfResults_ok (setL l (i : Int) (s : Int) (n : Int)) (by omega) hwk)
        rw [show ansPlacesOfResults (setL l (i : Int) (s : Int) (n : Int)) = some _ from optP_pos hwv] at hq1 hq2
        simp only [List.map_cons, List.map_nil, RV.data, Option.getD_some, Option.isSome_some] at hq1 hq2
        have hpf := plcL_full (setL l (i : Int) (s : Int) (n : Int))
        generalize setL l (i : Int) (s : Int) (n : Int) = Y at hw hwv hwl hwp hwk hq1 hq2 hpf
        generalize plcL Y Y.length = R at hwp hq1 hq2 hpf
        generalize plW l i s (n : Int) = z at hwp hpl
        by_cases hn0 : (n : Int) = 0
        · repeat' (first | ((with_reducible first | refine execL_step (fun K' hK' => ?_) | refine quietL_step (fun K' hK' => ?_)); (first | with_reducible refine s_none rfl ?_ | refine s_some2 rfl ?_); simp only [go_sem, hBB, hT, bne_self_eq_false, List.getElem?_map, hwp, Option.map_some, datI, Int.toNat_natCast]) | (with_reducible refine hK' _ ?_; clear hK' K') | (with_reducible refine hK _ ?_; clear hK K; try simp only [go_sem, hBB, hT, bne_self_eq_false, List.getElem?_map, hwp, Option.map_some, datI, Int.toNat_natCast]) | with_reducible (first | refine stp ?_ | refine pw_seq_opsK kl4 G_ok (fun K hK => ?_) | refine pw_ops G_ok (fun K hK => ?_)) | ((with_reducible first | apply CallK.eq | apply CallQ.eqs); (focus (with_reducible first | exact hw | exact hq1 | exact hq2 | exact qInts_ok R R (by omega) (by omega))); (focus (first | exact rfl | (simp [RV.flat, D.sc, datI]; done))); try simp only [go_sem, hBB, hT, bne_self_eq_false, List.getElem?_map, hwp, Option.map_some, datI, Int.toNat_natCast]) | refine inBlockA_other (by decide) ?_ | (with_reducible refine pw_seq_drawK kl4 G_ok mixed (by kernel_rfl) (fun K hK => ?_)) | (with_reducible refine pw_draw G_ok mixed (by kernel_rfl) ?_) | (with_reducible refine pK_mk (fun hc => ?_) (fun hc => ?_) <;> (try simp only [go_sem, hBB, hT, bne_self_eq_false, List.getElem?_map, hwp, Option.map_some, datI, Int.toNat_natCast]) <;> (try simp at hc) <;> (try (exfalso; omega))) | ((first | refine pw_seq (pw_cond rfl (fun hc => ?_) (fun hc => ?_)) | refine pw_cond rfl (fun hc => ?_) (fun hc => ?_)) <;> (try simp at hc) <;> (try (exfalso; omega))) | with_reducible refine And.intro (by first | omega | (unfold inI; omega) | exact andI_inI _) ?_)
          all_goals first
            | (exfalso; omega)
            | (refine retQ_ret rfl rfl (by simp [rowsOf, lk]) ?_; rfl)
        · obtain ⟨hso', hpl'⟩ := hmore (by omega)
          have hw' := impl_SetScore_data l (i : Int) (s : Int) ((n : Int) - 1) (by omega) hlk
          rw [bP_true hso'] at hw'
          obtain ⟨hwv', hwl', hwp'⟩ := set_places hso'
          have hwk' := setL_bd (i : Int) (s : Int) ((n : Int) - 1) hlk
          simp only [Int.toNat_natCast] at hwp'
          have hq1' := eq_data (impl_PlacesOfResults_ok (setL l (i : Int) (s : Int) ((n : Int) - 1)) (by omega) hwk')
          have hq2' := eq_data (spec_PlacesOfResults_ok (setL l (i : Int) (s : Int) ((n : Int) - 1)) (by omega) hwk')
          rw [show ansPlacesOfResults (setL l (i : Int) (s : Int) ((n : Int) - 1)) = some _ from optP_pos hwv'] at hq1' hq2'
          simp only [List.map_cons, List.map_nil, RV.data, Option.getD_some, Option.isSome_some] at hq1' hq2'
          have hpf' := plcL_full (setL l (i : Int) (s : Int) ((n : Int) - 1))
          generalize setL l (i : Int) (s : Int) ((n : Int) - 1) = Y' at hw' hwv' hwl' hwp' hwk' hq1' hq2' hpf'
          generalize plcL Y' Y'.length = R' at hwp' hq1' hq2' hpf'
          generalize plW l i s ((n : Int) - 1) = z' at hwp' hpl'
          repeat' (first | ((with_reducible first | refine execL_step (fun K' hK' => ?_) | refine quietL_step (fun K' hK' => ?_)); (first | with_reducible refine s_none rfl ?_ | refine s_some2 rfl ?_); simp only [go_sem, hBB, hT, bne_self_eq_false, List.getElem?_map, hwp, hwp', Option.map_some, datI, Int.toNat_natCast]) | (with_reducible refine hK' _ ?_; clear hK' K') | (with_reducible refine hK _ ?_; clear hK K; try simp only [go_sem, hBB, hT, bne_self_eq_false, List.getElem?_map, hwp, hwp', Option.map_some, datI, Int.toNat_natCast]) | with_reducible (first | refine stp ?_ | refine pw_seq_opsK kl4 G_ok (fun K hK => ?_) | refine pw_ops G_ok (fun K hK => ?_)) | ((with_reducible first | apply CallK.eq | apply CallQ.eqs); (focus (with_reducible first | exact hw | exact hq1 | exact hq2 | exact hw' | exact hq1' | exact hq2' | exact qInts_ok R R (by omega) (by omega) | exact qInts_ok R' R' (by omega) (by omega))); (focus (first | exact rfl | (simp [RV.flat, D.sc, datI]; done))); try simp only [go_sem, hBB, hT, bne_self_eq_false, List.getElem?_map, hwp, hwp', Option.map_some, datI, Int.toNat_natCast]) | refine inBlockA_other (by decide) ?_ | (with_reducible refine pw_seq_drawK kl4 G_ok mixed (by kernel_rfl) (fun K hK => ?_)) | (with_reducible refine pw_draw G_ok mixed (by kernel_rfl) ?_) | (with_reducible refine pK_mk (fun hc => ?_) (fun hc => ?_) <;> (try simp only [go_sem, hBB, hT, bne_self_eq_false, List.getElem?_map, hwp, hwp', Option.map_some, datI, Int.toNat_natCast]) <;> (try simp at hc) <;> (try (exfalso; omega))) | ((first | refine pw_seq (pw_cond rfl (fun hc => ?_) (fun hc => ?_)) | refine pw_cond rfl (fun hc => ?_) (fun hc => ?_)) <;> (try simp at hc) <;> (try (exfalso; omega))) | with_reducible refine And.intro (by first | omega | (unfold inI; omega) | exact andI_inI _) ?_)
          all_goals first
            | (exfalso; omega)
            | (refine retQ_ret rfl rfl (by simp [rowsOf, lk]) ?_; first | rfl | (simp; omega))

theorem own : ownKnob Try.prog.godebug = none := by kernel_rfl
theorem laidOut : laidOutB Try.prog = true := by kernel_rfl
set_option linter.unusedVariables false in
set_option maxRecDepth 100000 in
theorem lifted (os : Os) (started : os.Started) (H : Type) (enc : TypeId × Value → H) :
    ReturnsInHanded {} Try.checked os 4 .any (Rows.fnNeededSpec.pre6 enc Try.prog Try.f4 Rows.fnNeededRow.domain false) (Rows.fnNeededSpec.post enc Try.prog Try.f4 false true false false) := by
  refine returnsInHanded_of_change (C := Try.checked) own started (by kernel_rfl) Try.func4
    (ChangeSpec.witness6 (enc := enc) (C := Try.checked) false ⟨#[], #[.slice none 0 0, .slice none 0 0], []⟩ 8 (by kernel_rfl) (by kernel_rfl) (by kernel_rfl) (by kernel_rfl)) ?_
  intro W base args ds gs before hval0 hW hcnd _
  have hval : ∀ (j : Nat) t v, Try.f4.params[j]? = some t → args[j]? = some v → Value.okWide Try.prog W .any base t v := hval0
  have hW' := hW
  obtain ⟨p, q, hA0, hV, rfl, hfz, hnd⟩ := hW
  have hA : DataW.TrodAll enc Try.prog W 0 (fun _ => true) true Try.f4.params.toList args.toList ds p := hA0
  rw [Try.params4] at hA hval
  obtain ⟨v0, vs0, d0, ds0, p0, q0, hargs, rfl, rfl, h0, r0⟩ := trodAll_cons hA
  obtain ⟨v1, vs1, d1, ds1, p1, q1, rfl, rfl, rfl, h1, r1⟩ := trodAll_cons r0
  obtain ⟨rfl, rfl, rfl⟩ := trodAll_nil r1
  obtain rfl : args = #[v0, v1] := by cases args; simp_all
  obtain ⟨rfl, rfl⟩ := trodVars_none hV
  have k0 := h0
  have lt0 := below_lt k0
  obtain ⟨s0, len0, cap0, rfl⟩ := okWide_slice Try.underlying22 (hval 0 22 v0 rfl rfl)
  obtain ⟨fuel0, hf0⟩ := h0
  obtain ⟨x0, m0, rd0⟩ := open_bytes.2 _ _ _ hf0
  have R0 := R_of_crd1 rfl rd0
  clear hf0
  have k1 := h1
  have lt1 := below_lt k1
  obtain ⟨s1, len1, cap1, rfl⟩ := okWide_slice Try.underlying22 (hval 1 22 v1 rfl rfl)
  obtain ⟨fuel1, hf1⟩ := h1
  obtain ⟨x1, m1, rd1⟩ := open_bytes.2 _ _ _ hf1
  have R1 := R_of_crd1 rfl rd1
  clear hf1
  clear hA0 hval0
  refine (mwalk (law_FnNeeded_ok x0 m0 x1 m1) W _ rfl (args2 R0 R1)).mono fun e W' ⟨he, bel⟩ => ?_
  subst he
  exact ⟨_, rfl, _, _, _, [], _, [], hW', trodAll_mk1 (shut_bool Try.underlying4 _), (trodAll_cons_mk (Below.trod laidOut (by kernel_rfl) (of_decide_eq_true (by kernel_rfl)) k0 bel lt0) (trodAll_cons_mk (Below.trod laidOut (by kernel_rfl) (of_decide_eq_true (by kernel_rfl)) k1 bel lt1) trodAll_mk0)), rfl, bel.frame _, fun h => by cases h⟩
theorem over : Rows.fnNeededRow.holds Try.pinned (OpenSpec.ofChange Rows.fnNeededSpec) :=
  OpenClaim.holds_of_wide 4 Try.f4 rfl rfl rfl rfl rfl rfl rfl ⟨rfl, rfl, rfl, rfl, rfl⟩ rfl rfl rfl rfl rfl (by kernel_rfl) Try.func4 (by kernel_rfl)
    (of_decide_eq_true (by kernel_rfl)) (by unfold Func.isWrapper; first | (rw [if_pos (by decide +kernel)]; kernel_rfl) | (rw [if_neg (by decide +kernel)]; exact ⟨rfl, rfl⟩))
    (fun os started H enc _ => lifted os started H enc)
theorem proved : Rows.FnNeededSaid := over
end Go.Proofs.Ythkkpiodligmiaa.lawNeeded
