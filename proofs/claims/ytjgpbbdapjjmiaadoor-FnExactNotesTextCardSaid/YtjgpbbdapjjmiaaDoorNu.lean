/-
  Numbers and notes written and read: the reference's functions, in the abstract machine.
-/
import Derived.Test.YtjgpbbdapjjmiaaDoorNq
import Derived.Test.YtjgpbbdapjjmiaaDoorDl
import Derived.Test.YtjgpbbdapjjmiaaDoorMst
import Derived.Test.YtjgpbbdapjjmiaaDoorNote1
import Derived.Test.YtjgpbbdapjjmiaaDoorGr
set_option linter.unusedSimpArgs false
set_option linter.unusedVariables false
set_option maxHeartbeats 2000000
set_option maxRecDepth 100000
namespace Go.Proofs.YtjgpbbdapjjmiaaDoor
open Go.RowKit

theorem str_dgt {d : Nat} (h : d < 10) : strOfNums [48 + ((d : Nat) : Int)] = ba [dgt d] := by
  unfold strOfNums ba dgt
  have : (48 + (d : Int)).toNat = 48 + d := by omega
  simp [this]
theorem numL_len2 (n : Nat) : (numL n).length ≤ n + 1 := by
  by_cases h : n < 10
  · rw [numL_lt h]; simp
  · rw [numL_ge (by omega), List.length_append]
    have := numL_len2 (n / 10)
    simp; omega
termination_by n
decreasing_by omega
theorem l1Num_ok : ∀ (n : Nat), n ≤ 4611686018427387904 → FnEq Tryd.prog 37 [.d (.int .i64 n)] [.d (.str (ba (numL n)))] := by
  intro n
  induction n using Nat.strongRecOn with
  | ind n ih =>
    intro hn
    refine fn_ok G_ok Tryd.func37 rfl rfl ?_; simp only [Tryd.ntmps37, List.length_cons, List.length_nil, Nat.reduceAdd, Nat.reduceSub, enm]
    by_cases h : n < 10
    · have hw : IntKind.u8.wrap (48 + (n : Int)) = 48 + (n : Int) := by rw [IntKind.wrap_u8]; omega
      have h' : ((n : Int) < 10) = True := eq_true (by omega)
      repeat' (first | ((with_reducible first | (refine hK _ ?_; clear hK K) | refine stq fun K' hK' => ?_ | refine stc ?_); try simp only [go_sem, h', hw]) | (with_reducible first | refine stp ?_ | (refine hK' _ ?_; clear hK' K') | refine kN kl37 fun K hK => ?_ | refine kO fun K hK => ?_) | (with_reducible apply pw_seq_any_to kl37 mixed) | (with_reducible refine pw_any mixed ?_) | ((first | refine any_step G_ok [0, 3] (by decide +kernel) rfl ?_ | refine any_step G_ok [1, 3] (by decide +kernel) rfl ?_ | refine any_step G_ok [2, 3] (by decide +kernel) rfl ?_ | refine any_step G_ok [3] (by decide +kernel) rfl ?_ | refine any_step G_ok [4] (by decide +kernel) rfl ?_ | refine any_step G_ok [5] (by decide +kernel) rfl ?_ | refine any_step G_ok [6] (by decide +kernel) rfl ?_ | refine any_step G_ok [7] (by decide +kernel) rfl ?_ | refine any_step G_ok [8] (by decide +kernel) rfl ?_ | refine any_step G_ok [9] (by decide +kernel) rfl ?_ | refine any_step G_ok [10] (by decide +kernel) rfl ?_ | refine any_step G_ok [2, 4] (by decide +kernel) rfl ?_ | refine any_step G_ok [2, 5] (by decide +kernel) rfl ?_ | refine any_step G_ok [2, 6] (by decide +kernel) rfl ?_ | refine any_step G_ok [2, 7] (by decide +kernel) rfl ?_ | refine any_step G_ok [2, 8] (by decide +kernel) rfl ?_ | refine any_step G_ok [2] (by decide +kernel) rfl ?_ | refine any_step G_ok [1, 4] (by decide +kernel) rfl ?_ | refine any_step G_ok [1, 5] (by decide +kernel) rfl ?_ | refine any_step G_ok [1, 6] (by decide +kernel) rfl ?_ | refine any_step G_ok [1, 7] (by decide +kernel) rfl ?_ | refine any_step G_ok [1, 8] (by decide +kernel) rfl ?_ | refine any_step G_ok [1] (by decide +kernel) rfl ?_ | refine any_step G_ok [0, 4] (by decide +kernel) rfl ?_ | refine any_step G_ok [0, 5] (by decide +kernel) rfl ?_ | refine any_step G_ok [0, 6] (by decide +kernel) rfl ?_ | refine any_step G_ok [0, 7] (by decide +kernel) rfl ?_ | refine any_step G_ok [0, 8] (by decide +kernel) rfl ?_ | refine any_step G_ok [0] (by decide +kernel) rfl ?_); (repeat' with_reducible first | exact True.intro | refine And.intro ?_ ?_) <;> refine ⟨_, rfl, fun K' hK' => ?_⟩ <;> ((first | with_reducible refine s_none rfl ?_ | refine s_some2 rfl ?_); simp only [go_sem, h', hw])) | (refine any_done (by decide +kernel) ?_; try simp only [go_sem, h', hw]) | (with_reducible exact Or.inl rfl) | (exact Or.inr (fits_mk [] (by simp [renL_d, bdL_d, sg, over, wipe, wl, memN, ins, rm, lk, fitFr, fit1, ren, renL, bd, bdL, app, fitHp, hget, renB, bdB] <;> omega))) | (with_reducible refine pK_mk ?_ ?_ <;> (intro hc; (try simp only [go_sem, h', hw]); (try simp at hc); try (exfalso; omega))) | with_reducible refine And.intro (by first | omega | (unfold inI; omega)) ?_)
      all_goals first
        | omega
        | skip
      refine pq_toStr (xs := [48 + (n : Int)]) rfl (G_ok _ _ G50) Tryd.underlying5 (G_ok _ _ G9) rfl ?_
      rw [str_dgt h, ← numL_lt h]
      repeat' (first | ((with_reducible first | (refine hK _ ?_; clear hK K) | refine stq fun K' hK' => ?_ | refine stc ?_); try simp only [go_sem]) | (with_reducible first | refine stp ?_ | (refine hK' _ ?_; clear hK' K') | refine kN kl37 fun K hK => ?_ | refine kO fun K hK => ?_) | (with_reducible apply pw_seq_any_to kl37 mixed) | (with_reducible refine pw_any mixed ?_) | ((first | refine any_step G_ok [0, 3] (by decide +kernel) rfl ?_ | refine any_step G_ok [1, 3] (by decide +kernel) rfl ?_ | refine any_step G_ok [2, 3] (by decide +kernel) rfl ?_ | refine any_step G_ok [3] (by decide +kernel) rfl ?_ | refine any_step G_ok [4] (by decide +kernel) rfl ?_ | refine any_step G_ok [5] (by decide +kernel) rfl ?_ | refine any_step G_ok [6] (by decide +kernel) rfl ?_ | refine any_step G_ok [7] (by decide +kernel) rfl ?_ | refine any_step G_ok [8] (by decide +kernel) rfl ?_ | refine any_step G_ok [9] (by decide +kernel) rfl ?_ | refine any_step G_ok [10] (by decide +kernel) rfl ?_ | refine any_step G_ok [2, 4] (by decide +kernel) rfl ?_ | refine any_step G_ok [2, 5] (by decide +kernel) rfl ?_ | refine any_step G_ok [2, 6] (by decide +kernel) rfl ?_ | refine any_step G_ok [2, 7] (by decide +kernel) rfl ?_ | refine any_step G_ok [2, 8] (by decide +kernel) rfl ?_ | refine any_step G_ok [2] (by decide +kernel) rfl ?_ | refine any_step G_ok [1, 4] (by decide +kernel) rfl ?_ | refine any_step G_ok [1, 5] (by decide +kernel) rfl ?_ | refine any_step G_ok [1, 6] (by decide +kernel) rfl ?_ | refine any_step G_ok [1, 7] (by decide +kernel) rfl ?_ | refine any_step G_ok [1, 8] (by decide +kernel) rfl ?_ | refine any_step G_ok [1] (by decide +kernel) rfl ?_ | refine any_step G_ok [0, 4] (by decide +kernel) rfl ?_ | refine any_step G_ok [0, 5] (by decide +kernel) rfl ?_ | refine any_step G_ok [0, 6] (by decide +kernel) rfl ?_ | refine any_step G_ok [0, 7] (by decide +kernel) rfl ?_ | refine any_step G_ok [0, 8] (by decide +kernel) rfl ?_ | refine any_step G_ok [0] (by decide +kernel) rfl ?_); (repeat' with_reducible first | exact True.intro | refine And.intro ?_ ?_) <;> refine ⟨_, rfl, fun K' hK' => ?_⟩ <;> ((first | with_reducible refine s_none rfl ?_ | refine s_some2 rfl ?_); simp only [go_sem])) | (refine any_done (by decide +kernel) ?_; try simp only [go_sem]) | (with_reducible exact Or.inl rfl) | (exact Or.inr (fits_mk [] (by simp [renL_d, bdL_d, sg, over, wipe, wl, memN, ins, rm, lk, fitFr, fit1, ren, renL, bd, bdL, app, fitHp, hget, renB, bdB] <;> omega))) | (with_reducible refine pK_mk ?_ ?_ <;> (intro hc; (try simp only [go_sem]); (try simp at hc); try (exfalso; omega))) | with_reducible refine And.intro (by first | omega | (unfold inI; omega)) ?_)
      all_goals first
        | omega
        | (refine retQ_ret rfl rfl (by simp [rowsOf, lk]) ?_; rfl)
        | skip
    · have h' : ((n : Int) < 10) = False := eq_false (by omega)
      have hm : (n : Int).tmod 10 = ((n % 10 : Nat) : Int) := by rw [Int.tmod_eq_emod_of_nonneg (by omega)]; omega
      have hq : (n : Int).tdiv 10 = ((n / 10 : Nat) : Int) := by rw [Int.tdiv_eq_ediv_of_nonneg (by omega)]; omega
      have hw : IntKind.u8.wrap (48 + ((n % 10 : Nat) : Int)) = 48 + ((n % 10 : Nat) : Int) := by rw [IntKind.wrap_u8]; omega
      have hr := ih (n / 10) (by omega) (by omega)
      repeat' (first | with_reducible refine stop_seq (id := 3) ?_ | with_reducible refine stop_one (id := 3) ?_ | ((with_reducible first | (refine hK _ ?_; clear hK K) | refine stq fun K' hK' => ?_ | refine stc ?_); try simp only [go_sem, h']) | (with_reducible first | refine stp ?_ | (refine hK' _ ?_; clear hK' K') | refine kN kl37 fun K hK => ?_ | refine kO fun K hK => ?_) | (with_reducible apply pw_seq_any_to kl37 mixed) | (with_reducible refine pw_any mixed ?_) | ((first | refine any_step G_ok [0, 3] (by decide +kernel) rfl ?_ | refine any_step G_ok [1, 3] (by decide +kernel) rfl ?_ | refine any_step G_ok [2, 3] (by decide +kernel) rfl ?_ | refine any_step G_ok [3] (by decide +kernel) rfl ?_ | refine any_step G_ok [4] (by decide +kernel) rfl ?_ | refine any_step G_ok [5] (by decide +kernel) rfl ?_ | refine any_step G_ok [6] (by decide +kernel) rfl ?_ | refine any_step G_ok [7] (by decide +kernel) rfl ?_ | refine any_step G_ok [8] (by decide +kernel) rfl ?_ | refine any_step G_ok [9] (by decide +kernel) rfl ?_ | refine any_step G_ok [10] (by decide +kernel) rfl ?_ | refine any_step G_ok [2, 4] (by decide +kernel) rfl ?_ | refine any_step G_ok [2, 5] (by decide +kernel) rfl ?_ | refine any_step G_ok [2, 6] (by decide +kernel) rfl ?_ | refine any_step G_ok [2, 7] (by decide +kernel) rfl ?_ | refine any_step G_ok [2, 8] (by decide +kernel) rfl ?_ | refine any_step G_ok [2] (by decide +kernel) rfl ?_ | refine any_step G_ok [1, 4] (by decide +kernel) rfl ?_ | refine any_step G_ok [1, 5] (by decide +kernel) rfl ?_ | refine any_step G_ok [1, 6] (by decide +kernel) rfl ?_ | refine any_step G_ok [1, 7] (by decide +kernel) rfl ?_ | refine any_step G_ok [1, 8] (by decide +kernel) rfl ?_ | refine any_step G_ok [1] (by decide +kernel) rfl ?_ | refine any_step G_ok [0, 4] (by decide +kernel) rfl ?_ | refine any_step G_ok [0, 5] (by decide +kernel) rfl ?_ | refine any_step G_ok [0, 6] (by decide +kernel) rfl ?_ | refine any_step G_ok [0, 7] (by decide +kernel) rfl ?_ | refine any_step G_ok [0, 8] (by decide +kernel) rfl ?_ | refine any_step G_ok [0] (by decide +kernel) rfl ?_); (repeat' with_reducible first | exact True.intro | refine And.intro ?_ ?_) <;> refine ⟨_, rfl, fun K' hK' => ?_⟩ <;> ((first | with_reducible refine s_none rfl ?_ | refine s_some2 rfl ?_); simp only [go_sem, h'])) | (refine any_done (by decide +kernel) ?_; try simp only [go_sem, h']) | (with_reducible exact Or.inl rfl) | (exact Or.inr (fits_mk [] (by simp [renL_d, bdL_d, sg, over, wipe, wl, memN, ins, rm, lk, fitFr, fit1, ren, renL, bd, bdL, app, fitHp, hget, renB, bdB] <;> omega))) | (with_reducible refine pK_mk ?_ ?_ <;> (intro hc; (try simp only [go_sem, h']); (try simp at hc); try (exfalso; omega))) | with_reducible refine And.intro (by first | omega | (unfold inI; omega)) ?_)
      unfold Stop
      have hs1 : (ba (numL (n / 10))).size ≤ n / 10 + 1 := by rw [ba_size]; exact numL_len2 _
      have hs2 : (ba [dgt (n % 10)]).size = 1 := rfl
      have hfin : ba (numL (n / 10)) ++ ba [dgt (n % 10)] = ba (numL n) := by rw [ba_app, numL_ge (n := n) (by omega)]
      refine pw_seq_anyN kl37 mixed ?_
      refine anyN_take 0 rfl rfl rfl (by decide +kernel) (by decide +kernel) (by decide +kernel) (pure_move (.inl rfl)) ?_
      try simp only [go_sem, Nat.zero_add, Int.toNat_natCast, Nat.mul_one, hm, hq, hw, hfin]
      refine anyN_take 3 rfl rfl rfl (by decide +kernel) (by decide +kernel) (by decide +kernel) (pure_move (.inl rfl)) ?_
      try simp only [go_sem, Nat.zero_add, Int.toNat_natCast, Nat.mul_one, hm, hq, hw, hfin]
      repeat' (first
        | (with_reducible refine hK' _ ?_; clear hK' K'; try simp only [go_sem, Nat.zero_add, Int.toNat_natCast, Nat.mul_one, hm, hq, hw, hfin])
        | ((with_reducible apply CallK.eq); (focus (with_reducible first | exact hr)); (focus (first | exact rfl | (simp [RV.flat, D.sc, datI]; done))); try simp only [go_sem, Nat.zero_add, Int.toNat_natCast, Nat.mul_one, hm, hq, hw, hfin])
        | with_reducible refine And.intro (by first | omega | (unfold inI; omega)) ?_
        | (refine anyN_take 10 rfl rfl rfl (by decide +kernel) (by decide +kernel) (by decide +kernel) (pure_move (.inr rfl)) ?_; try simp only [go_sem, Nat.zero_add, Int.toNat_natCast, Nat.mul_one, hm, hq, hw, hfin])
        | (refine anyN_step G_ok [1, 4] (by decide +kernel) rfl ⟨⟨_, rfl, fun K' hK' => ?_⟩, ⟨_, rfl, fun K' hK' => ?_⟩, trivial⟩ <;> ((first | with_reducible refine s_none rfl ?_ | refine s_some2 rfl ?_); simp only [go_sem, Nat.zero_add, Int.toNat_natCast, Nat.mul_one, hm, hq, hw, hfin]))
        | (refine anyN_step G_ok [2, 4] (by decide +kernel) rfl ⟨⟨_, rfl, fun K' hK' => ?_⟩, ⟨_, rfl, fun K' hK' => ?_⟩, trivial⟩ <;> ((first | with_reducible refine s_none rfl ?_ | refine s_some2 rfl ?_); simp only [go_sem, Nat.zero_add, Int.toNat_natCast, Nat.mul_one, hm, hq, hw, hfin]))
        | (refine anyN_step G_ok [4] (by decide +kernel) rfl ⟨⟨_, rfl, fun K' hK' => ?_⟩, trivial⟩ <;> ((first | with_reducible refine s_none rfl ?_ | refine s_some2 rfl ?_); simp only [go_sem, Nat.zero_add, Int.toNat_natCast, Nat.mul_one, hm, hq, hw, hfin]))
        | (refine anyN_step G_ok [5] (by decide +kernel) rfl ⟨⟨_, rfl, fun K' hK' => ?_⟩, trivial⟩ <;> ((first | with_reducible refine s_none rfl ?_ | refine s_some2 rfl ?_); simp only [go_sem, Nat.zero_add, Int.toNat_natCast, Nat.mul_one, hm, hq, hw, hfin]))
        | (refine anyN_step G_ok [6] (by decide +kernel) rfl ⟨⟨_, rfl, fun K' hK' => ?_⟩, trivial⟩ <;> ((first | with_reducible refine s_none rfl ?_ | refine s_some2 rfl ?_); simp only [go_sem, Nat.zero_add, Int.toNat_natCast, Nat.mul_one, hm, hq, hw, hfin]))
        | (refine anyN_step G_ok [7] (by decide +kernel) rfl ⟨⟨_, rfl, fun K' hK' => ?_⟩, trivial⟩ <;> ((first | with_reducible refine s_none rfl ?_ | refine s_some2 rfl ?_); simp only [go_sem, Nat.zero_add, Int.toNat_natCast, Nat.mul_one, hm, hq, hw, hfin]))
        | (refine anyN_step G_ok [8] (by decide +kernel) rfl ⟨⟨_, rfl, fun K' hK' => ?_⟩, trivial⟩ <;> ((first | with_reducible refine s_none rfl ?_ | refine s_some2 rfl ?_); simp only [go_sem, Nat.zero_add, Int.toNat_natCast, Nat.mul_one, hm, hq, hw, hfin]))
        | (refine anyN_step G_ok [9] (by decide +kernel) rfl ⟨⟨_, rfl, fun K' hK' => ?_⟩, trivial⟩ <;> ((first | with_reducible refine s_none rfl ?_ | refine s_some2 rfl ?_); simp only [go_sem, Nat.zero_add, Int.toNat_natCast, Nat.mul_one, hm, hq, hw, hfin]))
        | (refine anyN_step G_ok [2, 5] (by decide +kernel) rfl ⟨⟨_, rfl, fun K' hK' => ?_⟩, ⟨_, rfl, fun K' hK' => ?_⟩, trivial⟩ <;> ((first | with_reducible refine s_none rfl ?_ | refine s_some2 rfl ?_); simp only [go_sem, Nat.zero_add, Int.toNat_natCast, Nat.mul_one, hm, hq, hw, hfin]))
        | (refine anyN_step G_ok [2, 6] (by decide +kernel) rfl ⟨⟨_, rfl, fun K' hK' => ?_⟩, ⟨_, rfl, fun K' hK' => ?_⟩, trivial⟩ <;> ((first | with_reducible refine s_none rfl ?_ | refine s_some2 rfl ?_); simp only [go_sem, Nat.zero_add, Int.toNat_natCast, Nat.mul_one, hm, hq, hw, hfin]))
        | (refine anyN_step G_ok [2, 7] (by decide +kernel) rfl ⟨⟨_, rfl, fun K' hK' => ?_⟩, ⟨_, rfl, fun K' hK' => ?_⟩, trivial⟩ <;> ((first | with_reducible refine s_none rfl ?_ | refine s_some2 rfl ?_); simp only [go_sem, Nat.zero_add, Int.toNat_natCast, Nat.mul_one, hm, hq, hw, hfin]))
        | (refine anyN_step G_ok [2, 8] (by decide +kernel) rfl ⟨⟨_, rfl, fun K' hK' => ?_⟩, ⟨_, rfl, fun K' hK' => ?_⟩, trivial⟩ <;> ((first | with_reducible refine s_none rfl ?_ | refine s_some2 rfl ?_); simp only [go_sem, Nat.zero_add, Int.toNat_natCast, Nat.mul_one, hm, hq, hw, hfin]))
        | (refine anyN_step G_ok [2] (by decide +kernel) rfl ⟨⟨_, rfl, fun K' hK' => ?_⟩, trivial⟩ <;> ((first | with_reducible refine s_none rfl ?_ | refine s_some2 rfl ?_); simp only [go_sem, Nat.zero_add, Int.toNat_natCast, Nat.mul_one, hm, hq, hw, hfin]))
        | (refine anyN_step G_ok [1, 5] (by decide +kernel) rfl ⟨⟨_, rfl, fun K' hK' => ?_⟩, ⟨_, rfl, fun K' hK' => ?_⟩, trivial⟩ <;> ((first | with_reducible refine s_none rfl ?_ | refine s_some2 rfl ?_); simp only [go_sem, Nat.zero_add, Int.toNat_natCast, Nat.mul_one, hm, hq, hw, hfin]))
        | (refine anyN_step G_ok [1, 6] (by decide +kernel) rfl ⟨⟨_, rfl, fun K' hK' => ?_⟩, ⟨_, rfl, fun K' hK' => ?_⟩, trivial⟩ <;> ((first | with_reducible refine s_none rfl ?_ | refine s_some2 rfl ?_); simp only [go_sem, Nat.zero_add, Int.toNat_natCast, Nat.mul_one, hm, hq, hw, hfin]))
        | (refine anyN_step G_ok [1, 7] (by decide +kernel) rfl ⟨⟨_, rfl, fun K' hK' => ?_⟩, ⟨_, rfl, fun K' hK' => ?_⟩, trivial⟩ <;> ((first | with_reducible refine s_none rfl ?_ | refine s_some2 rfl ?_); simp only [go_sem, Nat.zero_add, Int.toNat_natCast, Nat.mul_one, hm, hq, hw, hfin]))
        | (refine anyN_step G_ok [1, 8] (by decide +kernel) rfl ⟨⟨_, rfl, fun K' hK' => ?_⟩, ⟨_, rfl, fun K' hK' => ?_⟩, trivial⟩ <;> ((first | with_reducible refine s_none rfl ?_ | refine s_some2 rfl ?_); simp only [go_sem, Nat.zero_add, Int.toNat_natCast, Nat.mul_one, hm, hq, hw, hfin]))
        | (refine anyN_step G_ok [1] (by decide +kernel) rfl ⟨⟨_, rfl, fun K' hK' => ?_⟩, trivial⟩ <;> ((first | with_reducible refine s_none rfl ?_ | refine s_some2 rfl ?_); simp only [go_sem, Nat.zero_add, Int.toNat_natCast, Nat.mul_one, hm, hq, hw, hfin]))
        | (refine anyN_done (by decide +kernel) ?_; try simp only [go_sem, Nat.zero_add, Int.toNat_natCast, Nat.mul_one, hm, hq, hw, hfin])
        | ((refine pq_toStr (xs := [48 + ((n % 10 : Nat) : Int)]) rfl (G_ok _ _ G50) Tryd.underlying5 (G_ok _ _ G9) rfl ?_); (rw [str_dgt (by omega)])))
      all_goals
        repeat' (first | ((with_reducible first | (refine hK _ ?_; clear hK K) | refine stq fun K' hK' => ?_ | refine stc ?_); try simp only [go_sem]) | (with_reducible first | refine stp ?_ | (refine hK' _ ?_; clear hK' K') | refine kN kl37 fun K hK => ?_ | refine kO fun K hK => ?_) | (with_reducible apply pw_seq_any_to kl37 mixed) | (with_reducible refine pw_any mixed ?_) | ((first | refine any_step G_ok [0, 3] (by decide +kernel) rfl ?_ | refine any_step G_ok [1, 3] (by decide +kernel) rfl ?_ | refine any_step G_ok [2, 3] (by decide +kernel) rfl ?_ | refine any_step G_ok [3] (by decide +kernel) rfl ?_ | refine any_step G_ok [4] (by decide +kernel) rfl ?_ | refine any_step G_ok [5] (by decide +kernel) rfl ?_ | refine any_step G_ok [6] (by decide +kernel) rfl ?_ | refine any_step G_ok [7] (by decide +kernel) rfl ?_ | refine any_step G_ok [8] (by decide +kernel) rfl ?_ | refine any_step G_ok [9] (by decide +kernel) rfl ?_ | refine any_step G_ok [10] (by decide +kernel) rfl ?_ | refine any_step G_ok [2, 4] (by decide +kernel) rfl ?_ | refine any_step G_ok [2, 5] (by decide +kernel) rfl ?_ | refine any_step G_ok [2, 6] (by decide +kernel) rfl ?_ | refine any_step G_ok [2, 7] (by decide +kernel) rfl ?_ | refine any_step G_ok [2, 8] (by decide +kernel) rfl ?_ | refine any_step G_ok [2] (by decide +kernel) rfl ?_ | refine any_step G_ok [1, 4] (by decide +kernel) rfl ?_ | refine any_step G_ok [1, 5] (by decide +kernel) rfl ?_ | refine any_step G_ok [1, 6] (by decide +kernel) rfl ?_ | refine any_step G_ok [1, 7] (by decide +kernel) rfl ?_ | refine any_step G_ok [1, 8] (by decide +kernel) rfl ?_ | refine any_step G_ok [1] (by decide +kernel) rfl ?_ | refine any_step G_ok [0, 4] (by decide +kernel) rfl ?_ | refine any_step G_ok [0, 5] (by decide +kernel) rfl ?_ | refine any_step G_ok [0, 6] (by decide +kernel) rfl ?_ | refine any_step G_ok [0, 7] (by decide +kernel) rfl ?_ | refine any_step G_ok [0, 8] (by decide +kernel) rfl ?_ | refine any_step G_ok [0] (by decide +kernel) rfl ?_); (repeat' with_reducible first | exact True.intro | refine And.intro ?_ ?_) <;> refine ⟨_, rfl, fun K' hK' => ?_⟩ <;> ((first | with_reducible refine s_none rfl ?_ | refine s_some2 rfl ?_); simp only [go_sem])) | (refine any_done (by decide +kernel) ?_; try simp only [go_sem]) | (with_reducible exact Or.inl rfl) | (exact Or.inr (fits_mk [] (by simp [renL_d, bdL_d, sg, over, wipe, wl, memN, ins, rm, lk, fitFr, fit1, ren, renL, bd, bdL, app, fitHp, hget, renB, bdB] <;> omega))) | (with_reducible refine pK_mk ?_ ?_ <;> (intro hc; (try simp only [go_sem]); (try simp at hc); try (exfalso; omega))) | with_reducible refine And.intro (by first | omega | (unfold inI; omega)) ?_)
        refine retQ_ret rfl rfl (by simp [rowsOf, lk]) ?_
        rfl
theorem l1NumI_ok (z : Int) (h0 : 0 ≤ z) (h : z ≤ 999) : FnEq Tryd.prog 37 [.d (.int .i64 z)] [.d (.str (ba (numI z)))] := by
  have := l1Num_ok z.toNat (by omega)
  rw [show ((z.toNat : Nat) : Int) = z by omega] at this
  exact this
theorem text_zero : ba (textL []) = ⟨#[]⟩ := rfl
theorem numI_size {z : Int} (h : z ≤ 999) : (ba (numI z)).size ≤ 3 := by rw [ba_size]; exact numL_len (by omega)
theorem line_len {x : NoteD} (h : NoteFit x) : (lineL x).length ≤ 11 := by
  unfold NoteFit at h
  have h1 := numL_len (n := x.skater.toNat) (by omega)
  have h2 := numL_len (n := x.before.toNat) (by omega)
  have h3 := numL_len (n := x.inn.toNat) (by omega)
  unfold lineL numI
  simp
  omega
theorem text_len : ∀ {l : List NoteD}, (∀ x ∈ l, NoteFit x) → (textL l).length ≤ 12 * l.length
  | [], _ => by simp [textL]
  | x :: l, h => by
    have h1 := line_len (h x (by simp))
    have h2 := text_len (l := l) fun y hy => h y (List.mem_cons_of_mem _ hy)
    rw [textL]
    simp
    omega
theorem text_snoc {l : List NoteD} {k : Nat} {x : NoteD} (h : l[k]? = some x) : ba (textL (l.take k)) ++ (ba (numI x.skater) ++ ⟨#[32]⟩ ++ ba (numI x.before) ++ ⟨#[32]⟩ ++ ba (numI x.inn) ++ ⟨#[10]⟩) = ba (textL (l.take (k + 1))) := by
  rw [take_snoc h, textL_app, show (⟨#[32]⟩ : ByteArray) = ba [32] from rfl, show (⟨#[10]⟩ : ByteArray) = ba [10] from rfl]
  simp only [ba_app]
  congr 1
  simp [textL, lineL]
theorem wdText_ok (l : List NoteD) (hl : l.length ≤ 1048576) (hf : ∀ x ∈ l, NoteFit x) : FnEq Tryd.prog 24 [.d (.lst 3 (l.map NoteD.dat))] [.d (.str (ba (textL l)))] := by
  refine fn_ok G_ok Tryd.func24 rfl rfl ?_; simp only [Tryd.ntmps24, List.length_cons, List.length_nil, Nat.reduceAdd, Nat.reduceSub, enm]
  repeat' (first | ((with_reducible first | (refine hK _ ?_; clear hK K) | refine stq fun K' hK' => ?_ | refine stc ?_); try simp only [go_sem]) | (with_reducible first | refine stp ?_ | (refine hK' _ ?_; clear hK' K') | refine kN kl24 fun K hK => ?_ | refine kO fun K hK => ?_) | refine iB ?_ | (with_reducible refine pw_seq_drawK kl24 G_ok mixed (by kernel_rfl) (fun K hK => ?_)) | (with_reducible refine pw_draw G_ok mixed (by kernel_rfl) ?_) | (with_reducible refine pK_mk ?_ ?_ <;> (intro hc; (try simp only [go_sem]); (try simp at hc); try (exfalso; omega))) | with_reducible refine And.intro (by first | omega | (unfold inI; omega)) ?_)
  refine pw_loop_over [2, 3, 5, 8, 9, 10, 11, 12, 13, 14, 15, 16, 17, 18, 19, 20, 21, 22, 23, 24, 25, 26, 27, 28] (fun k : Nat => [(8, .d (.int .i64 (k : Int))), (3, .d (.str (ba (textL (l.take k)))))]) (fun k : Nat => []) 0 (fun k : Nat => k ≤ l.length) (fun k : Nat => l.length - k) 0 (Nat.zero_le _) (fits_mk [] (by simp [renL_d, bdL_d, sg, over, wipe, wl, memN, ins, rm, lk, fitFr, fit1, ren, renL, bd, bdL, app, fitHp, hget, renB, bdB, List.take_zero, text_zero] <;> omega)) ?_
  intro k hk
  simp only [over, wipe, wl, memN, ins, rm, if_true, if_false, Nat.reduceEqDiff, Bool.false_eq_true, reduceCtorEq]
  by_cases hlt : k < l.length
  · have hx := List.getElem?_eq_getElem hlt
    generalize l[k] = x at hx
    have hfx := hf x (List.mem_of_getElem? hx)
    have hT := text_len (l := l.take k) fun y hy => hf y (List.mem_of_mem_take hy)
    have hTk : (l.take k).length ≤ k := List.length_take_le _ _
    rw [← ba_size] at hT
    have hs := text_snoc hx
    unfold NoteFit at hfx
    obtain ⟨f1, f2, f3, f4, f5, f6⟩ := hfx
    have s1 := numI_size f2
    have s2 := numI_size f4
    have s3 := numI_size f6
    have s4 : (⟨#[32]⟩ : ByteArray).size = 1 := rfl
    have s5 : (⟨#[10]⟩ : ByteArray).size = 1 := rfl
    have n1 := l1NumI_ok x.skater f1 f2
    have n2 := l1NumI_ok x.before f3 f4
    have n3 := l1NumI_ok x.inn f5 f6
    generalize ba (textL (l.take k)) = T at *
    generalize ba (numI x.skater) = A at *
    generalize ba (numI x.before) = B at *
    generalize ba (numI x.inn) = C at *
    repeat' (first | ((with_reducible first | (refine hK _ ?_; clear hK K) | refine stq fun K' hK' => ?_ | refine stc ?_); try simp only [go_sem, List.getElem?_map, hx, Option.map_some, NoteD.dat, ByteArray.size_append, s4, s5]) | (with_reducible first | refine stp ?_ | (refine hK' _ ?_; clear hK' K') | refine kN kl24 fun K hK => ?_ | refine kO fun K hK => ?_) | ((with_reducible first | apply CallK.eq | apply CallQ.eqs); (· with_reducible first | exact n1 | exact n2 | exact n3); (· first | exact rfl | (simp [RV.flat, D.sc, datI]; done)); try simp only [go_sem, List.getElem?_map, hx, Option.map_some, NoteD.dat, ByteArray.size_append, s4, s5]) | refine iB ?_ | (with_reducible refine pw_seq_drawK kl24 G_ok mixed (by kernel_rfl) (fun K hK => ?_)) | (with_reducible refine pw_draw G_ok mixed (by kernel_rfl) ?_) | (with_reducible refine pK_mk ?_ ?_ <;> (intro hc; (try simp only [go_sem, List.getElem?_map, hx, Option.map_some, NoteD.dat, ByteArray.size_append, s4, s5]); (try simp at hc); try (exfalso; omega))) | with_reducible refine And.intro (by first | omega | (unfold inI; omega)) ?_)
    all_goals first
      | omega
      | exact ⟨k + 1, by omega, by omega, (fits_mk [] (by simp [renL_d, bdL_d, sg, over, wipe, wl, memN, ins, rm, lk, fitFr, fit1, ren, renL, bd, bdL, app, fitHp, hget, renB, bdB, hs] <;> omega))⟩
      | skip
  · have e : l.take k = l := List.take_of_length_le (by omega)
    repeat' (first | ((with_reducible first | (refine hK _ ?_; clear hK K) | refine stq fun K' hK' => ?_ | refine stc ?_); try simp only [go_sem, e]) | (with_reducible first | refine stp ?_ | (refine hK' _ ?_; clear hK' K') | refine kN kl24 fun K hK => ?_ | refine kO fun K hK => ?_) | refine iB ?_ | (with_reducible refine pw_seq_drawK kl24 G_ok mixed (by kernel_rfl) (fun K hK => ?_)) | (with_reducible refine pw_draw G_ok mixed (by kernel_rfl) ?_) | (with_reducible refine pK_mk ?_ ?_ <;> (intro hc; (try simp only [go_sem, e]); (try simp at hc); try (exfalso; omega))) | with_reducible refine And.intro (by first | omega | (unfold inI; omega)) ?_)
    refine retQ_ret rfl rfl (by simp [rowsOf, lk]) ?_; rfl
end Go.Proofs.YtjgpbbdapjjmiaaDoor
