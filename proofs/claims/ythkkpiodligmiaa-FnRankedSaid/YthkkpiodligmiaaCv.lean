/-
  Drawn results: the draw functions.
-/
import Derived.Test.YthkkpiodligmiaaCt
set_option linter.unusedSimpArgs false
set_option linter.unusedVariables false
set_option maxHeartbeats 2000000
set_option maxRecDepth 100000
namespace Go.Proofs.Ythkkpiodligmiaa
open Go.RowKit

theorem drawRes_ok (xs : List Int) (hx : ∀ x ∈ xs, 0 ≤ x ∧ x ≤ 255) (hn : xs.length ≤ 9223372036854775807) : FnOK Try.prog 66 [.d (.lst 1 (xs.map datY))] (fun rs => ∃ l, resL l ∧ rs = [.d (.lst 2 (l.map ResultD.dat))]) := by
  have hC := cur0 hx hn
  refine fn_ok G_ok Try.func66 rfl rfl ?_; simp only [Try.ntmps66, List.length_cons, List.length_nil, Nat.reduceAdd, Nat.reduceSub, enm]
  repeat' (first | ((with_reducible first | refine execL_step (fun K' hK' => ?_)); (first | with_reducible refine s_none rfl ?_ | refine s_some2 rfl ?_); simp only [go_sem]) | (with_reducible refine hK' _ ?_; clear hK' K') | (with_reducible refine hK _ ?_; clear hK K; try simp only [go_sem]) | with_reducible (first | refine stp ?_ | refine pw_seq_opsK kl66 G_ok (fun K hK => ?_) | refine pw_ops G_ok (fun K hK => ?_)) | refine inBlockA_other (by decide) ?_ | (with_reducible refine pK_mk (fun hc => ?_) (fun hc => ?_) <;> (try simp only [go_sem]) <;> (try simp at hc) <;> (try (exfalso; omega))) | ((first | refine pw_seq (pw_cond rfl (fun hc => ?_) (fun hc => ?_)) | refine pw_cond rfl (fun hc => ?_) (fun hc => ?_)) <;> (try simp at hc) <;> (try (exfalso; omega))) | with_reducible refine And.intro (by first | omega | (unfold inI; omega) | exact andI_inI _) ?_)
  rw [box3 (.lst 1 (xs.map datY)) (.int .i64 0) (.int .u64 0)]
  generalize [D.lst 1 (xs.map datY), D.int .i64 0, D.int .u64 0] = cs at hC ⊢
  refine CallK.cur (none) (anyResults_ok (by assumption) (by omega)) rfl rfl rfl rfl rfl rfl ?_; rintro c2 _ ⟨x, hx, rfl, hC⟩; try simp only [mkB, go_sem]
  rename List ResultD => l
  have hl : resL l := hx
  have hl1 := hl.1
  repeat' (first | ((with_reducible first | refine execL_step (fun K' hK' => ?_)); (first | with_reducible refine s_none rfl ?_ | refine s_some2 rfl ?_); simp only [go_sem]) | (with_reducible refine hK' _ ?_; clear hK' K') | (with_reducible refine hK _ ?_; clear hK K; try simp only [go_sem]) | with_reducible (first | refine stp ?_ | refine pw_seq_opsK kl66 G_ok (fun K hK => ?_) | refine pw_ops G_ok (fun K hK => ?_)) | refine inBlockA_other (by decide) ?_ | (with_reducible refine pK_mk (fun hc => ?_) (fun hc => ?_) <;> (try simp only [go_sem]) <;> (try simp at hc) <;> (try (exfalso; omega))) | ((first | refine pw_seq (pw_cond rfl (fun hc => ?_) (fun hc => ?_)) | refine pw_cond rfl (fun hc => ?_) (fun hc => ?_)) <;> (try simp at hc) <;> (try (exfalso; omega))) | with_reducible refine And.intro (by first | omega | (unfold inI; omega) | exact andI_inI _) ?_)
  refine retQ_ret rfl rfl (by simp [rowsOf, lk]) ?_
  exact ⟨l, hl, rfl⟩
theorem drawOrder_ok (xs : List Int) (hx : ∀ x ∈ xs, 0 ≤ x ∧ x ≤ 255) (hn : xs.length ≤ 9223372036854775807) : FnOK Try.prog 7 [.d (.lst 1 (xs.map datY))] (fun rs => ∃ l, resL l ∧ rs = [.d (.lst 2 (l.map ResultD.dat))]) := by
  refine fn_ok G_ok Try.func7 rfl rfl ?_; simp only [Try.ntmps7, List.length_cons, List.length_nil, Nat.reduceAdd, Nat.reduceSub, enm]
  repeat' (first | ((with_reducible first | refine execL_step (fun K' hK' => ?_)); (first | with_reducible refine s_none rfl ?_ | refine s_some2 rfl ?_); simp only [go_sem]) | (with_reducible refine hK' _ ?_; clear hK' K') | (with_reducible refine hK _ ?_; clear hK K; try simp only [go_sem]) | with_reducible (first | refine stp ?_ | refine pw_seq_opsK kl7 G_ok (fun K hK => ?_) | refine pw_ops G_ok (fun K hK => ?_)) | refine inBlockA_other (by decide) ?_ | (with_reducible refine pK_mk (fun hc => ?_) (fun hc => ?_) <;> (try simp only [go_sem]) <;> (try simp at hc) <;> (try (exfalso; omega))) | ((first | refine pw_seq (pw_cond rfl (fun hc => ?_) (fun hc => ?_)) | refine pw_cond rfl (fun hc => ?_) (fun hc => ?_)) <;> (try simp at hc) <;> (try (exfalso; omega))) | with_reducible refine And.intro (by first | omega | (unfold inI; omega) | exact andI_inI _) ?_)
  refine CallK.of (drawRes_ok xs hx hn) ?_; rintro _ ⟨l, hl, rfl⟩; refine ⟨(fun h => by cases h), ?_⟩; try simp only [go_sem]
  repeat' (first | ((with_reducible first | refine execL_step (fun K' hK' => ?_)); (first | with_reducible refine s_none rfl ?_ | refine s_some2 rfl ?_); simp only [go_sem]) | (with_reducible refine hK' _ ?_; clear hK' K') | (with_reducible refine hK _ ?_; clear hK K; try simp only [go_sem]) | with_reducible (first | refine stp ?_ | refine pw_seq_opsK kl7 G_ok (fun K hK => ?_) | refine pw_ops G_ok (fun K hK => ?_)) | refine inBlockA_other (by decide) ?_ | (with_reducible refine pK_mk (fun hc => ?_) (fun hc => ?_) <;> (try simp only [go_sem]) <;> (try simp at hc) <;> (try (exfalso; omega))) | ((first | refine pw_seq (pw_cond rfl (fun hc => ?_) (fun hc => ?_)) | refine pw_cond rfl (fun hc => ?_) (fun hc => ?_)) <;> (try simp at hc) <;> (try (exfalso; omega))) | with_reducible refine And.intro (by first | omega | (unfold inI; omega) | exact andI_inI _) ?_)
  refine retQ_ret rfl rfl (by simp [rowsOf, lk]) ?_
  exact ⟨l, hl, rfl⟩
theorem drawTied_ok (xs : List Int) (hx : ∀ x ∈ xs, 0 ≤ x ∧ x ≤ 255) (hn : xs.length ≤ 9223372036854775807) : FnOK Try.prog 15 [.d (.lst 1 (xs.map datY))] (fun rs => ∃ (l : List ResultD) (i : Int), (resL l ∧ -100 ≤ i ∧ i ≤ 100) ∧ rs = [.d (.lst 2 (l.map ResultD.dat)), .d (.int .i64 i)]) := by
  have hC := cur0 hx hn
  refine fn_ok G_ok Try.func15 rfl rfl ?_; simp only [Try.ntmps15, List.length_cons, List.length_nil, Nat.reduceAdd, Nat.reduceSub, enm]
  repeat' (first | ((with_reducible first | refine execL_step (fun K' hK' => ?_)); (first | with_reducible refine s_none rfl ?_ | refine s_some2 rfl ?_); simp only [go_sem]) | (with_reducible refine hK' _ ?_; clear hK' K') | (with_reducible refine hK _ ?_; clear hK K; try simp only [go_sem]) | with_reducible (first | refine stp ?_ | refine pw_seq_opsK kl15 G_ok (fun K hK => ?_) | refine pw_ops G_ok (fun K hK => ?_)) | refine inBlockA_other (by decide) ?_ | (with_reducible refine pK_mk (fun hc => ?_) (fun hc => ?_) <;> (try simp only [go_sem]) <;> (try simp at hc) <;> (try (exfalso; omega))) | ((first | refine pw_seq (pw_cond rfl (fun hc => ?_) (fun hc => ?_)) | refine pw_cond rfl (fun hc => ?_) (fun hc => ?_)) <;> (try simp at hc) <;> (try (exfalso; omega))) | with_reducible refine And.intro (by first | omega | (unfold inI; omega) | exact andI_inI _) ?_)
  rw [box3 (.lst 1 (xs.map datY)) (.int .i64 0) (.int .u64 0)]
  generalize [D.lst 1 (xs.map datY), D.int .i64 0, D.int .u64 0] = cs at hC ⊢
  refine CallK.cur (none) (anyResults_ok (by assumption) (by omega)) rfl rfl rfl rfl rfl rfl ?_; rintro c2 _ ⟨x, hx, rfl, hC⟩; try simp only [mkB, go_sem]
  rename List ResultD => l
  have hl : resL l := hx
  have hl1 := hl.1
  repeat' (first | ((with_reducible first | refine execL_step (fun K' hK' => ?_)); (first | with_reducible refine s_none rfl ?_ | refine s_some2 rfl ?_); simp only [go_sem]) | (with_reducible refine hK' _ ?_; clear hK' K') | (with_reducible refine hK _ ?_; clear hK K; try simp only [go_sem]) | with_reducible (first | refine stp ?_ | refine pw_seq_opsK kl15 G_ok (fun K hK => ?_) | refine pw_ops G_ok (fun K hK => ?_)) | refine inBlockA_other (by decide) ?_ | (with_reducible refine pK_mk (fun hc => ?_) (fun hc => ?_) <;> (try simp only [go_sem]) <;> (try simp at hc) <;> (try (exfalso; omega))) | ((first | refine pw_seq (pw_cond rfl (fun hc => ?_) (fun hc => ?_)) | refine pw_cond rfl (fun hc => ?_) (fun hc => ?_)) <;> (try simp at hc) <;> (try (exfalso; omega))) | with_reducible refine And.intro (by first | omega | (unfold inI; omega) | exact andI_inI _) ?_)
  refine CallK.cur (none) (pick_ok (by assumption) (by omega)) rfl rfl rfl rfl rfl rfl ?_; rintro c2 _ ⟨x, hx, rfl, hC⟩; try simp only [mkB, go_sem]
  have ha := hx
  generalize x = a at ha ⊢
  repeat' (first | ((with_reducible first | refine execL_step (fun K' hK' => ?_)); (first | with_reducible refine s_none rfl ?_ | refine s_some2 rfl ?_); simp only [go_sem]) | (with_reducible refine hK' _ ?_; clear hK' K') | (with_reducible refine hK _ ?_; clear hK K; try simp only [go_sem]) | with_reducible (first | refine stp ?_ | refine pw_seq_opsK kl15 G_ok (fun K hK => ?_) | refine pw_ops G_ok (fun K hK => ?_)) | refine inBlockA_other (by decide) ?_ | (with_reducible refine pK_mk (fun hc => ?_) (fun hc => ?_) <;> (try simp only [go_sem]) <;> (try simp at hc) <;> (try (exfalso; omega))) | ((first | refine pw_seq (pw_cond rfl (fun hc => ?_) (fun hc => ?_)) | refine pw_cond rfl (fun hc => ?_) (fun hc => ?_)) <;> (try simp at hc) <;> (try (exfalso; omega))) | with_reducible refine And.intro (by first | omega | (unfold inI; omega) | exact andI_inI _) ?_)
  refine CallK.cur (none) (pick_ok (by assumption) (by omega)) rfl rfl rfl rfl rfl rfl ?_; rintro c2 _ ⟨x, hx, rfl, hC⟩; try simp only [mkB, go_sem]
  have hb := hx
  generalize x = b at hb ⊢
  have eb := tdivB hb (show (0 : Int) ≤ 19 by decide)
  repeat' (first | ((with_reducible first | refine execL_step (fun K' hK' => ?_)); (first | with_reducible refine s_none rfl ?_ | refine s_some2 rfl ?_); simp only [go_sem]) | (with_reducible refine hK' _ ?_; clear hK' K') | (with_reducible refine hK _ ?_; clear hK K; try simp only [go_sem]) | with_reducible (first | refine stp ?_ | refine pw_seq_opsK kl15 G_ok (fun K hK => ?_) | refine pw_ops G_ok (fun K hK => ?_)) | refine inBlockA_other (by decide) ?_ | (with_reducible refine pK_mk (fun hc => ?_) (fun hc => ?_) <;> (try simp only [go_sem]) <;> (try simp at hc) <;> (try (exfalso; omega))) | ((first | refine pw_seq (pw_cond rfl (fun hc => ?_) (fun hc => ?_)) | refine pw_cond rfl (fun hc => ?_) (fun hc => ?_)) <;> (try simp at hc) <;> (try (exfalso; omega))) | with_reducible refine And.intro (by first | omega | (unfold inI; omega) | exact andI_inI _) ?_)
  all_goals (refine retQ_ret rfl rfl (by simp [rowsOf, lk]) ?_; exact ⟨l, _, ⟨hl, by omega, by omega⟩, rfl⟩)
theorem drawPlacesIn_ok (xs : List Int) (hx : ∀ x ∈ xs, 0 ≤ x ∧ x ≤ 255) (hn : xs.length ≤ 9223372036854775807) : FnOK Try.prog 30 [.d (.lst 1 (xs.map datY))] (fun rs => ∃ (l : List ResultD) (i : Int), (resL l ∧ -100 ≤ i ∧ i ≤ 100) ∧ rs = [.d (.lst 2 (l.map ResultD.dat)), .d (.int .i64 i)]) := by
  have hC := cur0 hx hn
  refine fn_ok G_ok Try.func30 rfl rfl ?_; simp only [Try.ntmps30, List.length_cons, List.length_nil, Nat.reduceAdd, Nat.reduceSub, enm]
  repeat' (first | ((with_reducible first | refine execL_step (fun K' hK' => ?_)); (first | with_reducible refine s_none rfl ?_ | refine s_some2 rfl ?_); simp only [go_sem]) | (with_reducible refine hK' _ ?_; clear hK' K') | (with_reducible refine hK _ ?_; clear hK K; try simp only [go_sem]) | with_reducible (first | refine stp ?_ | refine pw_seq_opsK kl30 G_ok (fun K hK => ?_) | refine pw_ops G_ok (fun K hK => ?_)) | refine inBlockA_other (by decide) ?_ | (with_reducible refine pK_mk (fun hc => ?_) (fun hc => ?_) <;> (try simp only [go_sem]) <;> (try simp at hc) <;> (try (exfalso; omega))) | ((first | refine pw_seq (pw_cond rfl (fun hc => ?_) (fun hc => ?_)) | refine pw_cond rfl (fun hc => ?_) (fun hc => ?_)) <;> (try simp at hc) <;> (try (exfalso; omega))) | with_reducible refine And.intro (by first | omega | (unfold inI; omega) | exact andI_inI _) ?_)
  rw [box3 (.lst 1 (xs.map datY)) (.int .i64 0) (.int .u64 0)]
  generalize [D.lst 1 (xs.map datY), D.int .i64 0, D.int .u64 0] = cs at hC ⊢
  refine CallK.cur (none) (anyResults_ok (by assumption) (by omega)) rfl rfl rfl rfl rfl rfl ?_; rintro c2 _ ⟨x, hx, rfl, hC⟩; try simp only [mkB, go_sem]
  rename List ResultD => l
  have hl : resL l := hx
  have hl1 := hl.1
  repeat' (first | ((with_reducible first | refine execL_step (fun K' hK' => ?_)); (first | with_reducible refine s_none rfl ?_ | refine s_some2 rfl ?_); simp only [go_sem]) | (with_reducible refine hK' _ ?_; clear hK' K') | (with_reducible refine hK _ ?_; clear hK K; try simp only [go_sem]) | with_reducible (first | refine stp ?_ | refine pw_seq_opsK kl30 G_ok (fun K hK => ?_) | refine pw_ops G_ok (fun K hK => ?_)) | refine inBlockA_other (by decide) ?_ | (with_reducible refine pK_mk (fun hc => ?_) (fun hc => ?_) <;> (try simp only [go_sem]) <;> (try simp at hc) <;> (try (exfalso; omega))) | ((first | refine pw_seq (pw_cond rfl (fun hc => ?_) (fun hc => ?_)) | refine pw_cond rfl (fun hc => ?_) (fun hc => ?_)) <;> (try simp at hc) <;> (try (exfalso; omega))) | with_reducible refine And.intro (by first | omega | (unfold inI; omega) | exact andI_inI _) ?_)
  refine CallK.cur (none) (pick_ok (by assumption) (by omega)) rfl rfl rfl rfl rfl rfl ?_; rintro c2 _ ⟨x, hx, rfl, hC⟩; try simp only [mkB, go_sem]
  have ha := hx
  generalize x = a at ha ⊢
  repeat' (first | ((with_reducible first | refine execL_step (fun K' hK' => ?_)); (first | with_reducible refine s_none rfl ?_ | refine s_some2 rfl ?_); simp only [go_sem]) | (with_reducible refine hK' _ ?_; clear hK' K') | (with_reducible refine hK _ ?_; clear hK K; try simp only [go_sem]) | with_reducible (first | refine stp ?_ | refine pw_seq_opsK kl30 G_ok (fun K hK => ?_) | refine pw_ops G_ok (fun K hK => ?_)) | refine inBlockA_other (by decide) ?_ | (with_reducible refine pK_mk (fun hc => ?_) (fun hc => ?_) <;> (try simp only [go_sem]) <;> (try simp at hc) <;> (try (exfalso; omega))) | ((first | refine pw_seq (pw_cond rfl (fun hc => ?_) (fun hc => ?_)) | refine pw_cond rfl (fun hc => ?_) (fun hc => ?_)) <;> (try simp at hc) <;> (try (exfalso; omega))) | with_reducible refine And.intro (by first | omega | (unfold inI; omega) | exact andI_inI _) ?_)
  refine CallK.cur (none) (pick_ok (by assumption) (by omega)) rfl rfl rfl rfl rfl rfl ?_; rintro c2 _ ⟨x, hx, rfl, hC⟩; try simp only [mkB, go_sem]
  have hb := hx
  generalize x = b at hb ⊢
  have eb := tdivB hb (show (0 : Int) ≤ 19 by decide)
  repeat' (first | ((with_reducible first | refine execL_step (fun K' hK' => ?_)); (first | with_reducible refine s_none rfl ?_ | refine s_some2 rfl ?_); simp only [go_sem]) | (with_reducible refine hK' _ ?_; clear hK' K') | (with_reducible refine hK _ ?_; clear hK K; try simp only [go_sem]) | with_reducible (first | refine stp ?_ | refine pw_seq_opsK kl30 G_ok (fun K hK => ?_) | refine pw_ops G_ok (fun K hK => ?_)) | refine inBlockA_other (by decide) ?_ | (with_reducible refine pK_mk (fun hc => ?_) (fun hc => ?_) <;> (try simp only [go_sem]) <;> (try simp at hc) <;> (try (exfalso; omega))) | ((first | refine pw_seq (pw_cond rfl (fun hc => ?_) (fun hc => ?_)) | refine pw_cond rfl (fun hc => ?_) (fun hc => ?_)) <;> (try simp at hc) <;> (try (exfalso; omega))) | with_reducible refine And.intro (by first | omega | (unfold inI; omega) | exact andI_inI _) ?_)
  all_goals (refine retQ_ret rfl rfl (by simp [rowsOf, lk]) ?_; exact ⟨l, _, ⟨hl, by omega, by omega⟩, rfl⟩)
theorem drawFlips_ok (xs : List Int) (hx : ∀ x ∈ xs, 0 ≤ x ∧ x ≤ 255) (hn : xs.length ≤ 9223372036854775807) : FnOK Try.prog 33 [.d (.lst 1 (xs.map datY))] (fun rs => ∃ (l : List ResultD) (i : Int), (resL l ∧ -100 ≤ i ∧ i ≤ 100) ∧ rs = [.d (.lst 2 (l.map ResultD.dat)), .d (.int .i64 i)]) := by
  have hC := cur0 hx hn
  refine fn_ok G_ok Try.func33 rfl rfl ?_; simp only [Try.ntmps33, List.length_cons, List.length_nil, Nat.reduceAdd, Nat.reduceSub, enm]
  repeat' (first | ((with_reducible first | refine execL_step (fun K' hK' => ?_)); (first | with_reducible refine s_none rfl ?_ | refine s_some2 rfl ?_); simp only [go_sem]) | (with_reducible refine hK' _ ?_; clear hK' K') | (with_reducible refine hK _ ?_; clear hK K; try simp only [go_sem]) | with_reducible (first | refine stp ?_ | refine pw_seq_opsK kl33 G_ok (fun K hK => ?_) | refine pw_ops G_ok (fun K hK => ?_)) | refine inBlockA_other (by decide) ?_ | (with_reducible refine pK_mk (fun hc => ?_) (fun hc => ?_) <;> (try simp only [go_sem]) <;> (try simp at hc) <;> (try (exfalso; omega))) | ((first | refine pw_seq (pw_cond rfl (fun hc => ?_) (fun hc => ?_)) | refine pw_cond rfl (fun hc => ?_) (fun hc => ?_)) <;> (try simp at hc) <;> (try (exfalso; omega))) | with_reducible refine And.intro (by first | omega | (unfold inI; omega) | exact andI_inI _) ?_)
  rw [box3 (.lst 1 (xs.map datY)) (.int .i64 0) (.int .u64 0)]
  generalize [D.lst 1 (xs.map datY), D.int .i64 0, D.int .u64 0] = cs at hC ⊢
  refine CallK.cur (none) (anyResults_ok (by assumption) (by omega)) rfl rfl rfl rfl rfl rfl ?_; rintro c2 _ ⟨x, hx, rfl, hC⟩; try simp only [mkB, go_sem]
  rename List ResultD => l
  have hl : resL l := hx
  have hl1 := hl.1
  repeat' (first | ((with_reducible first | refine execL_step (fun K' hK' => ?_)); (first | with_reducible refine s_none rfl ?_ | refine s_some2 rfl ?_); simp only [go_sem]) | (with_reducible refine hK' _ ?_; clear hK' K') | (with_reducible refine hK _ ?_; clear hK K; try simp only [go_sem]) | with_reducible (first | refine stp ?_ | refine pw_seq_opsK kl33 G_ok (fun K hK => ?_) | refine pw_ops G_ok (fun K hK => ?_)) | refine inBlockA_other (by decide) ?_ | (with_reducible refine pK_mk (fun hc => ?_) (fun hc => ?_) <;> (try simp only [go_sem]) <;> (try simp at hc) <;> (try (exfalso; omega))) | ((first | refine pw_seq (pw_cond rfl (fun hc => ?_) (fun hc => ?_)) | refine pw_cond rfl (fun hc => ?_) (fun hc => ?_)) <;> (try simp at hc) <;> (try (exfalso; omega))) | with_reducible refine And.intro (by first | omega | (unfold inI; omega) | exact andI_inI _) ?_)
  refine CallK.cur (none) (pick_ok (by assumption) (by omega)) rfl rfl rfl rfl rfl rfl ?_; rintro c2 _ ⟨x, hx, rfl, hC⟩; try simp only [mkB, go_sem]
  have ha := hx
  generalize x = a at ha ⊢
  repeat' (first | ((with_reducible first | refine execL_step (fun K' hK' => ?_)); (first | with_reducible refine s_none rfl ?_ | refine s_some2 rfl ?_); simp only [go_sem]) | (with_reducible refine hK' _ ?_; clear hK' K') | (with_reducible refine hK _ ?_; clear hK K; try simp only [go_sem]) | with_reducible (first | refine stp ?_ | refine pw_seq_opsK kl33 G_ok (fun K hK => ?_) | refine pw_ops G_ok (fun K hK => ?_)) | refine inBlockA_other (by decide) ?_ | (with_reducible refine pK_mk (fun hc => ?_) (fun hc => ?_) <;> (try simp only [go_sem]) <;> (try simp at hc) <;> (try (exfalso; omega))) | ((first | refine pw_seq (pw_cond rfl (fun hc => ?_) (fun hc => ?_)) | refine pw_cond rfl (fun hc => ?_) (fun hc => ?_)) <;> (try simp at hc) <;> (try (exfalso; omega))) | with_reducible refine And.intro (by first | omega | (unfold inI; omega) | exact andI_inI _) ?_)
  all_goals (refine retQ_ret rfl rfl (by simp [rowsOf, lk]) ?_; exact ⟨l, _, ⟨hl, by omega, by omega⟩, rfl⟩)
theorem drawSet_ok (xs : List Int) (hx : ∀ x ∈ xs, 0 ≤ x ∧ x ≤ 255) (hn : xs.length ≤ 9223372036854775807) : FnOK Try.prog 27 [.d (.lst 1 (xs.map datY))] (fun rs => ∃ (l : List ResultD) (i j v : Int), (resL l ∧ (-100 ≤ i ∧ i ≤ 100) ∧ (-100 ≤ j ∧ j ≤ 100) ∧ -200000 ≤ v ∧ v ≤ 200000) ∧ rs = [.d (.lst 2 (l.map ResultD.dat)), .d (.int .i64 i), .d (.int .i64 j), .d (.int .i64 v)]) := by
  have hC := cur0 hx hn
  refine fn_ok G_ok Try.func27 rfl rfl ?_; simp only [Try.ntmps27, List.length_cons, List.length_nil, Nat.reduceAdd, Nat.reduceSub, enm]
  repeat' (first | ((with_reducible first | refine execL_step (fun K' hK' => ?_)); (first | with_reducible refine s_none rfl ?_ | refine s_some2 rfl ?_); simp only [go_sem]) | (with_reducible refine hK' _ ?_; clear hK' K') | (with_reducible refine hK _ ?_; clear hK K; try simp only [go_sem]) | with_reducible (first | refine stp ?_ | refine pw_seq_opsK kl27 G_ok (fun K hK => ?_) | refine pw_ops G_ok (fun K hK => ?_)) | refine inBlockA_other (by decide) ?_ | (with_reducible refine pK_mk (fun hc => ?_) (fun hc => ?_) <;> (try simp only [go_sem]) <;> (try simp at hc) <;> (try (exfalso; omega))) | ((first | refine pw_seq (pw_cond rfl (fun hc => ?_) (fun hc => ?_)) | refine pw_cond rfl (fun hc => ?_) (fun hc => ?_)) <;> (try simp at hc) <;> (try (exfalso; omega))) | with_reducible refine And.intro (by first | omega | (unfold inI; omega) | exact andI_inI _) ?_)
  rw [box3 (.lst 1 (xs.map datY)) (.int .i64 0) (.int .u64 0)]
  generalize [D.lst 1 (xs.map datY), D.int .i64 0, D.int .u64 0] = cs at hC ⊢
  refine CallK.cur (none) (anyResults_ok (by assumption) (by omega)) rfl rfl rfl rfl rfl rfl ?_; rintro c2 _ ⟨x, hx, rfl, hC⟩; try simp only [mkB, go_sem]
  rename List ResultD => l
  have hl : resL l := hx
  have hl1 := hl.1
  repeat' (first | ((with_reducible first | refine execL_step (fun K' hK' => ?_)); (first | with_reducible refine s_none rfl ?_ | refine s_some2 rfl ?_); simp only [go_sem]) | (with_reducible refine hK' _ ?_; clear hK' K') | (with_reducible refine hK _ ?_; clear hK K; try simp only [go_sem]) | with_reducible (first | refine stp ?_ | refine pw_seq_opsK kl27 G_ok (fun K hK => ?_) | refine pw_ops G_ok (fun K hK => ?_)) | refine inBlockA_other (by decide) ?_ | (with_reducible refine pK_mk (fun hc => ?_) (fun hc => ?_) <;> (try simp only [go_sem]) <;> (try simp at hc) <;> (try (exfalso; omega))) | ((first | refine pw_seq (pw_cond rfl (fun hc => ?_) (fun hc => ?_)) | refine pw_cond rfl (fun hc => ?_) (fun hc => ?_)) <;> (try simp at hc) <;> (try (exfalso; omega))) | with_reducible refine And.intro (by first | omega | (unfold inI; omega) | exact andI_inI _) ?_)
  refine CallK.cur (none) (pick_ok (by assumption) (by omega)) rfl rfl rfl rfl rfl rfl ?_; rintro c2 _ ⟨x, hx, rfl, hC⟩; try simp only [mkB, go_sem]
  have ha := hx
  generalize x = a at ha ⊢
  repeat' (first | ((with_reducible first | refine execL_step (fun K' hK' => ?_)); (first | with_reducible refine s_none rfl ?_ | refine s_some2 rfl ?_); simp only [go_sem]) | (with_reducible refine hK' _ ?_; clear hK' K') | (with_reducible refine hK _ ?_; clear hK K; try simp only [go_sem]) | with_reducible (first | refine stp ?_ | refine pw_seq_opsK kl27 G_ok (fun K hK => ?_) | refine pw_ops G_ok (fun K hK => ?_)) | refine inBlockA_other (by decide) ?_ | (with_reducible refine pK_mk (fun hc => ?_) (fun hc => ?_) <;> (try simp only [go_sem]) <;> (try simp at hc) <;> (try (exfalso; omega))) | ((first | refine pw_seq (pw_cond rfl (fun hc => ?_) (fun hc => ?_)) | refine pw_cond rfl (fun hc => ?_) (fun hc => ?_)) <;> (try simp at hc) <;> (try (exfalso; omega))) | with_reducible refine And.intro (by first | omega | (unfold inI; omega) | exact andI_inI _) ?_)
  refine CallK.cur (none) (pick_ok (by assumption) (by omega)) rfl rfl rfl rfl rfl rfl ?_; rintro c2 _ ⟨x, hx, rfl, hC⟩; try simp only [mkB, go_sem]
  have hb := hx
  generalize x = b at hb ⊢
  have eb := tdivB hb (show (0 : Int) ≤ 19 by decide)
  repeat' (first | ((with_reducible first | refine execL_step (fun K' hK' => ?_)); (first | with_reducible refine s_none rfl ?_ | refine s_some2 rfl ?_); simp only [go_sem]) | (with_reducible refine hK' _ ?_; clear hK' K') | (with_reducible refine hK _ ?_; clear hK K; try simp only [go_sem]) | with_reducible (first | refine stp ?_ | refine pw_seq_opsK kl27 G_ok (fun K hK => ?_) | refine pw_ops G_ok (fun K hK => ?_)) | refine inBlockA_other (by decide) ?_ | (with_reducible refine pK_mk (fun hc => ?_) (fun hc => ?_) <;> (try simp only [go_sem]) <;> (try simp at hc) <;> (try (exfalso; omega))) | ((first | refine pw_seq (pw_cond rfl (fun hc => ?_) (fun hc => ?_)) | refine pw_cond rfl (fun hc => ?_) (fun hc => ?_)) <;> (try simp at hc) <;> (try (exfalso; omega))) | with_reducible refine And.intro (by first | omega | (unfold inI; omega) | exact andI_inI _) ?_)
  refine CallK.cur (none) (pick_ok (by assumption) (by omega)) rfl rfl rfl rfl rfl rfl ?_; rintro c2 _ ⟨x, hx, rfl, hC⟩; try simp only [mkB, go_sem]
  have hc := hx
  generalize x = c at hc ⊢
  repeat' (first | ((with_reducible first | refine execL_step (fun K' hK' => ?_)); (first | with_reducible refine s_none rfl ?_ | refine s_some2 rfl ?_); simp only [go_sem]) | (with_reducible refine hK' _ ?_; clear hK' K') | (with_reducible refine hK _ ?_; clear hK K; try simp only [go_sem]) | with_reducible (first | refine stp ?_ | refine pw_seq_opsK kl27 G_ok (fun K hK => ?_) | refine pw_ops G_ok (fun K hK => ?_)) | refine inBlockA_other (by decide) ?_ | (with_reducible refine pK_mk (fun hc => ?_) (fun hc => ?_) <;> (try simp only [go_sem]) <;> (try simp at hc) <;> (try (exfalso; omega))) | ((first | refine pw_seq (pw_cond rfl (fun hc => ?_) (fun hc => ?_)) | refine pw_cond rfl (fun hc => ?_) (fun hc => ?_)) <;> (try simp at hc) <;> (try (exfalso; omega))) | with_reducible refine And.intro (by first | omega | (unfold inI; omega) | exact andI_inI _) ?_)
  refine CallK.cur (none) (pick_ok (by assumption) (by omega)) rfl rfl rfl rfl rfl rfl ?_; rintro c2 _ ⟨x, hx, rfl, hC⟩; try simp only [mkB, go_sem]
  have hd := hx
  generalize x = d at hd ⊢
  have ed := tdivB hd (show (0 : Int) ≤ 19 by decide)
  repeat' (first | ((with_reducible first | refine execL_step (fun K' hK' => ?_)); (first | with_reducible refine s_none rfl ?_ | refine s_some2 rfl ?_); simp only [go_sem]) | (with_reducible refine hK' _ ?_; clear hK' K') | (with_reducible refine hK _ ?_; clear hK K; try simp only [go_sem]) | with_reducible (first | refine stp ?_ | refine pw_seq_opsK kl27 G_ok (fun K hK => ?_) | refine pw_ops G_ok (fun K hK => ?_)) | refine inBlockA_other (by decide) ?_ | (with_reducible refine pK_mk (fun hc => ?_) (fun hc => ?_) <;> (try simp only [go_sem]) <;> (try simp at hc) <;> (try (exfalso; omega))) | ((first | refine pw_seq (pw_cond rfl (fun hc => ?_) (fun hc => ?_)) | refine pw_cond rfl (fun hc => ?_) (fun hc => ?_)) <;> (try simp at hc) <;> (try (exfalso; omega))) | with_reducible refine And.intro (by first | omega | (unfold inI; omega) | exact andI_inI _) ?_)
  refine CallK.cur (none) (among_ok (l := [-2, -1, 0, 5000, 6000, 100000, 100001]) (by assumption) (by omega) (by simp) (by simp)) rfl rfl rfl rfl rfl rfl ?_; rintro c2 _ ⟨x, hx, rfl, hC⟩; try simp only [mkB, go_sem]
  have he := hx
  generalize x = e at he ⊢
  simp at he
  repeat' (first | ((with_reducible first | refine execL_step (fun K' hK' => ?_)); (first | with_reducible refine s_none rfl ?_ | refine s_some2 rfl ?_); simp only [go_sem]) | (with_reducible refine hK' _ ?_; clear hK' K') | (with_reducible refine hK _ ?_; clear hK K; try simp only [go_sem]) | with_reducible (first | refine stp ?_ | refine pw_seq_opsK kl27 G_ok (fun K hK => ?_) | refine pw_ops G_ok (fun K hK => ?_)) | refine inBlockA_other (by decide) ?_ | (with_reducible refine pK_mk (fun hc => ?_) (fun hc => ?_) <;> (try simp only [go_sem]) <;> (try simp at hc) <;> (try (exfalso; omega))) | ((first | refine pw_seq (pw_cond rfl (fun hc => ?_) (fun hc => ?_)) | refine pw_cond rfl (fun hc => ?_) (fun hc => ?_)) <;> (try simp at hc) <;> (try (exfalso; omega))) | with_reducible refine And.intro (by first | omega | (unfold inI; omega) | exact andI_inI _) ?_)
  all_goals (refine retQ_ret rfl rfl (by simp [rowsOf, lk]) ?_; exact ⟨l, _, _, _, ⟨hl, ⟨by omega, by omega⟩, ⟨by omega, by omega⟩, by omega, by omega⟩, rfl⟩)
theorem drawNeeded_ok (xs : List Int) (hx : ∀ x ∈ xs, 0 ≤ x ∧ x ≤ 255) (hn : xs.length ≤ 9223372036854775807) : FnOK Try.prog 24 [.d (.lst 1 (xs.map datY))] (fun rs => ∃ (l : List ResultD) (i j v : Int), (resL l ∧ (-100 ≤ i ∧ i ≤ 100) ∧ (-100 ≤ j ∧ j ≤ 100) ∧ -200000 ≤ v ∧ v ≤ 200000) ∧ rs = [.d (.lst 2 (l.map ResultD.dat)), .d (.int .i64 i), .d (.int .i64 j), .d (.int .i64 v)]) := by
  have hC := cur0 hx hn
  refine fn_ok G_ok Try.func24 rfl rfl ?_; simp only [Try.ntmps24, List.length_cons, List.length_nil, Nat.reduceAdd, Nat.reduceSub, enm]
  repeat' (first | ((with_reducible first | refine execL_step (fun K' hK' => ?_)); (first | with_reducible refine s_none rfl ?_ | refine s_some2 rfl ?_); simp only [go_sem]) | (with_reducible refine hK' _ ?_; clear hK' K') | (with_reducible refine hK _ ?_; clear hK K; try simp only [go_sem]) | with_reducible (first | refine stp ?_ | refine pw_seq_opsK kl24 G_ok (fun K hK => ?_) | refine pw_ops G_ok (fun K hK => ?_)) | refine inBlockA_other (by decide) ?_ | (with_reducible refine pK_mk (fun hc => ?_) (fun hc => ?_) <;> (try simp only [go_sem]) <;> (try simp at hc) <;> (try (exfalso; omega))) | ((first | refine pw_seq (pw_cond rfl (fun hc => ?_) (fun hc => ?_)) | refine pw_cond rfl (fun hc => ?_) (fun hc => ?_)) <;> (try simp at hc) <;> (try (exfalso; omega))) | with_reducible refine And.intro (by first | omega | (unfold inI; omega) | exact andI_inI _) ?_)
  rw [box3 (.lst 1 (xs.map datY)) (.int .i64 0) (.int .u64 0)]
  generalize [D.lst 1 (xs.map datY), D.int .i64 0, D.int .u64 0] = cs at hC ⊢
  refine CallK.cur (none) (anyResults_ok (by assumption) (by omega)) rfl rfl rfl rfl rfl rfl ?_; rintro c2 _ ⟨x, hx, rfl, hC⟩; try simp only [mkB, go_sem]
  rename List ResultD => l
  have hl : resL l := hx
  have hl1 := hl.1
  repeat' (first | ((with_reducible first | refine execL_step (fun K' hK' => ?_)); (first | with_reducible refine s_none rfl ?_ | refine s_some2 rfl ?_); simp only [go_sem]) | (with_reducible refine hK' _ ?_; clear hK' K') | (with_reducible refine hK _ ?_; clear hK K; try simp only [go_sem]) | with_reducible (first | refine stp ?_ | refine pw_seq_opsK kl24 G_ok (fun K hK => ?_) | refine pw_ops G_ok (fun K hK => ?_)) | refine inBlockA_other (by decide) ?_ | (with_reducible refine pK_mk (fun hc => ?_) (fun hc => ?_) <;> (try simp only [go_sem]) <;> (try simp at hc) <;> (try (exfalso; omega))) | ((first | refine pw_seq (pw_cond rfl (fun hc => ?_) (fun hc => ?_)) | refine pw_cond rfl (fun hc => ?_) (fun hc => ?_)) <;> (try simp at hc) <;> (try (exfalso; omega))) | with_reducible refine And.intro (by first | omega | (unfold inI; omega) | exact andI_inI _) ?_)
  refine CallK.cur (none) (pick_ok (by assumption) (by omega)) rfl rfl rfl rfl rfl rfl ?_; rintro c2 _ ⟨x, hx, rfl, hC⟩; try simp only [mkB, go_sem]
  have ha := hx
  generalize x = a at ha ⊢
  repeat' (first | ((with_reducible first | refine execL_step (fun K' hK' => ?_)); (first | with_reducible refine s_none rfl ?_ | refine s_some2 rfl ?_); simp only [go_sem]) | (with_reducible refine hK' _ ?_; clear hK' K') | (with_reducible refine hK _ ?_; clear hK K; try simp only [go_sem]) | with_reducible (first | refine stp ?_ | refine pw_seq_opsK kl24 G_ok (fun K hK => ?_) | refine pw_ops G_ok (fun K hK => ?_)) | refine inBlockA_other (by decide) ?_ | (with_reducible refine pK_mk (fun hc => ?_) (fun hc => ?_) <;> (try simp only [go_sem]) <;> (try simp at hc) <;> (try (exfalso; omega))) | ((first | refine pw_seq (pw_cond rfl (fun hc => ?_) (fun hc => ?_)) | refine pw_cond rfl (fun hc => ?_) (fun hc => ?_)) <;> (try simp at hc) <;> (try (exfalso; omega))) | with_reducible refine And.intro (by first | omega | (unfold inI; omega) | exact andI_inI _) ?_)
  refine CallK.cur (none) (pick_ok (by assumption) (by omega)) rfl rfl rfl rfl rfl rfl ?_; rintro c2 _ ⟨x, hx, rfl, hC⟩; try simp only [mkB, go_sem]
  have hb := hx
  generalize x = b at hb ⊢
  have eb := tdivB hb (show (0 : Int) ≤ 19 by decide)
  repeat' (first | ((with_reducible first | refine execL_step (fun K' hK' => ?_)); (first | with_reducible refine s_none rfl ?_ | refine s_some2 rfl ?_); simp only [go_sem]) | (with_reducible refine hK' _ ?_; clear hK' K') | (with_reducible refine hK _ ?_; clear hK K; try simp only [go_sem]) | with_reducible (first | refine stp ?_ | refine pw_seq_opsK kl24 G_ok (fun K hK => ?_) | refine pw_ops G_ok (fun K hK => ?_)) | refine inBlockA_other (by decide) ?_ | (with_reducible refine pK_mk (fun hc => ?_) (fun hc => ?_) <;> (try simp only [go_sem]) <;> (try simp at hc) <;> (try (exfalso; omega))) | ((first | refine pw_seq (pw_cond rfl (fun hc => ?_) (fun hc => ?_)) | refine pw_cond rfl (fun hc => ?_) (fun hc => ?_)) <;> (try simp at hc) <;> (try (exfalso; omega))) | with_reducible refine And.intro (by first | omega | (unfold inI; omega) | exact andI_inI _) ?_)
  refine CallK.cur (none) (pick_ok (by assumption) (by omega)) rfl rfl rfl rfl rfl rfl ?_; rintro c2 _ ⟨x, hx, rfl, hC⟩; try simp only [mkB, go_sem]
  have hc := hx
  generalize x = c at hc ⊢
  repeat' (first | ((with_reducible first | refine execL_step (fun K' hK' => ?_)); (first | with_reducible refine s_none rfl ?_ | refine s_some2 rfl ?_); simp only [go_sem]) | (with_reducible refine hK' _ ?_; clear hK' K') | (with_reducible refine hK _ ?_; clear hK K; try simp only [go_sem]) | with_reducible (first | refine stp ?_ | refine pw_seq_opsK kl24 G_ok (fun K hK => ?_) | refine pw_ops G_ok (fun K hK => ?_)) | refine inBlockA_other (by decide) ?_ | (with_reducible refine pK_mk (fun hc => ?_) (fun hc => ?_) <;> (try simp only [go_sem]) <;> (try simp at hc) <;> (try (exfalso; omega))) | ((first | refine pw_seq (pw_cond rfl (fun hc => ?_) (fun hc => ?_)) | refine pw_cond rfl (fun hc => ?_) (fun hc => ?_)) <;> (try simp at hc) <;> (try (exfalso; omega))) | with_reducible refine And.intro (by first | omega | (unfold inI; omega) | exact andI_inI _) ?_)
  refine CallK.cur (none) (among_ok (l := [1, 1, 2, 3, 40, 41, 0]) (by assumption) (by omega) (by simp) (by simp)) rfl rfl rfl rfl rfl rfl ?_; rintro c2 _ ⟨x, hx, rfl, hC⟩; try simp only [mkB, go_sem]
  have he := hx
  generalize x = e at he ⊢
  simp at he
  repeat' (first | ((with_reducible first | refine execL_step (fun K' hK' => ?_)); (first | with_reducible refine s_none rfl ?_ | refine s_some2 rfl ?_); simp only [go_sem]) | (with_reducible refine hK' _ ?_; clear hK' K') | (with_reducible refine hK _ ?_; clear hK K; try simp only [go_sem]) | with_reducible (first | refine stp ?_ | refine pw_seq_opsK kl24 G_ok (fun K hK => ?_) | refine pw_ops G_ok (fun K hK => ?_)) | refine inBlockA_other (by decide) ?_ | (with_reducible refine pK_mk (fun hc => ?_) (fun hc => ?_) <;> (try simp only [go_sem]) <;> (try simp at hc) <;> (try (exfalso; omega))) | ((first | refine pw_seq (pw_cond rfl (fun hc => ?_) (fun hc => ?_)) | refine pw_cond rfl (fun hc => ?_) (fun hc => ?_)) <;> (try simp at hc) <;> (try (exfalso; omega))) | with_reducible refine And.intro (by first | omega | (unfold inI; omega) | exact andI_inI _) ?_)
  all_goals (refine retQ_ret rfl rfl (by simp [rowsOf, lk]) ?_; exact ⟨l, _, _, _, ⟨hl, ⟨by omega, by omega⟩, ⟨by omega, by omega⟩, by omega, by omega⟩, rfl⟩)
end Go.Proofs.Ythkkpiodligmiaa
namespace Go.Proofs.Ythkkpiodligmiaa
open Go.RowKit

abbrev resV (r : ResultD) : RV := .agg [.int .i64 r.skater, .lst 1 (r.scores.map datI)]
theorem idxR {l : List ResultD} {i : Nat} {r : ResultD} (hr : l[i]? = some r) : idxP 2 ((i : Int).toNat) (.d (.lst 2 (l.map ResultD.dat))) = some (.eptr r.dat) := by simp [idxP, hr]
theorem pure_index {P : Program} {o : Oper} {s : AS} {t : TypeId} {x i : Operand} {e : TypeId} {sz bytes : Nat} {z : List D} {k : IntKind} {n : Int} {y : PV} (ho : o.op = .indexAddr t x i) (ht : tiB P t (.slc e sz bytes z) = true) (hi : s.get i = .d (.int k n)) (h0 : 0 ≤ n) (hx : idxP sz n.toNat (s.get x) = some y) : PureAt P o s y := fun m X w a hq => by
    obtain ⟨b, off, len, c, h1, h2, h3⟩ := idxP_R hx (hq x)
    have h4 := hq i
    rw [hi] at h4
    obtain ⟨h5, ⟨inf, v, h6, h7, _⟩, _⟩ := tiB_slc ht
    refine ⟨_, fun u => ?_, h3⟩
    have hb : 0 ≤ n ∧ n < (len : Int) := ⟨h0, by omega⟩
    simp [execOp, ho, h1, h4.int, Instr.indexAt, run_underlying h5, asIntOf, hb, run_size h6, h7, Addr.add_lit]
theorem drawTotal_ok (xs : List Int) (hx : ∀ x ∈ xs, 0 ≤ x ∧ x ≤ 255) (hn : xs.length ≤ 9223372036854775807) : FnOK Try.prog 18 [.d (.lst 1 (xs.map datY))] (fun rs => ∃ r : ResultD, resAny r ∧ rs = [resV r]) := by
  have hC := cur0 hx hn
  refine fn_ok G_ok Try.func18 rfl rfl ?_; simp only [Try.ntmps18, List.length_cons, List.length_nil, Nat.reduceAdd, Nat.reduceSub, enm]
  repeat' (first | ((with_reducible first | refine execL_step (fun K' hK' => ?_)); (first | with_reducible refine s_none rfl ?_ | refine s_some2 rfl ?_); simp only [go_sem]) | (with_reducible refine hK' _ ?_; clear hK' K') | (with_reducible refine hK _ ?_; clear hK K; try simp only [go_sem]) | with_reducible (first | refine stp ?_ | refine pw_seq_opsK kl18 G_ok (fun K hK => ?_) | refine pw_ops G_ok (fun K hK => ?_)) | refine inBlockA_other (by decide) ?_ | (with_reducible refine pK_mk (fun hc => ?_) (fun hc => ?_) <;> (try simp only [go_sem]) <;> (try simp at hc) <;> (try (exfalso; omega))) | ((first | refine pw_seq (pw_cond rfl (fun hc => ?_) (fun hc => ?_)) | refine pw_cond rfl (fun hc => ?_) (fun hc => ?_)) <;> (try simp at hc) <;> (try (exfalso; omega))) | with_reducible refine And.intro (by first | omega | (unfold inI; omega) | exact andI_inI _) ?_)
  rw [box3 (.lst 1 (xs.map datY)) (.int .i64 0) (.int .u64 0)]
  generalize [D.lst 1 (xs.map datY), D.int .i64 0, D.int .u64 0] = cs at hC ⊢
  refine CallK.cur (none) (anyResults_ok (by assumption) (by omega)) rfl rfl rfl rfl rfl rfl ?_; rintro c2 _ ⟨x, hx, rfl, hC⟩; try simp only [mkB, go_sem]
  rename List ResultD => l
  have hl : resL l := hx
  have hl1 := hl.1
  repeat' (first | ((with_reducible first | refine execL_step (fun K' hK' => ?_)); (first | with_reducible refine s_none rfl ?_ | refine s_some2 rfl ?_); simp only [go_sem]) | (with_reducible refine hK' _ ?_; clear hK' K') | (with_reducible refine hK _ ?_; clear hK K; try simp only [go_sem]) | with_reducible (first | refine stp ?_ | refine pw_seq_opsK kl18 G_ok (fun K hK => ?_) | refine pw_ops G_ok (fun K hK => ?_)) | ((first | refine CallK.cur none (pick_ok (by assumption) (by omega)) rfl rfl rfl rfl rfl rfl ?_); rintro c2 _ ⟨x, hx, rfl, hC⟩; try simp only [mkB, go_sem]) | refine inBlockA_other (by decide) ?_ | (with_reducible refine pK_mk (fun hc => ?_) (fun hc => ?_) <;> (try simp only [go_sem]) <;> (try simp at hc) <;> (try (exfalso; omega))) | ((first | refine pw_seq (pw_cond rfl (fun hc => ?_) (fun hc => ?_)) | refine pw_cond rfl (fun hc => ?_) (fun hc => ?_)) <;> (try simp at hc) <;> (try (exfalso; omega))) | with_reducible refine And.intro (by first | omega | (unfold inI; omega) | exact andI_inI _) ?_)
  · refine retQ_ret rfl rfl (by simp [rowsOf, rowIds, lk]) ?_
    exact ⟨⟨7, [5, -1, 3]⟩, ⟨by simp, by simp, by simp, by simp [scOk]⟩, rfl⟩
  · have hl0 : 0 < l.length := by
      rcases Nat.eq_zero_or_pos l.length with h | h
      · exact absurd (List.eq_nil_of_length_eq_zero h) hc
      · exact h
    obtain ⟨i, rfl⟩ : ∃ i : Nat, x = i := ⟨x.toNat, by omega⟩
    obtain ⟨r, hr⟩ : ∃ r, l[i]? = some r := ⟨_, List.getElem?_eq_getElem (by omega)⟩
    have hra := hl.at hr
    simp only [Int.toNat_natCast, List.getElem?_map, hr, Option.map_some]
    repeat' (first | ((with_reducible first | refine execL_step (fun K' hK' => ?_)); (first | with_reducible refine s_none rfl ?_ | refine s_some2 rfl ?_); simp only [go_sem, ResultD.dat]) | (with_reducible refine hK' _ ?_; clear hK' K') | (with_reducible refine hK _ ?_; clear hK K; try simp only [go_sem, ResultD.dat]) | with_reducible (first | refine stp ?_ | refine pw_seq_opsK kl18 G_ok (fun K hK => ?_) | refine pw_ops G_ok (fun K hK => ?_)) | refine inBlockA_other (by decide) ?_ | (with_reducible refine pK_mk (fun hc => ?_) (fun hc => ?_) <;> (try simp only [go_sem, ResultD.dat]) <;> (try simp at hc) <;> (try (exfalso; omega))) | ((first | refine pw_seq (pw_cond rfl (fun hc => ?_) (fun hc => ?_)) | refine pw_cond rfl (fun hc => ?_) (fun hc => ?_)) <;> (try simp at hc) <;> (try (exfalso; omega))) | with_reducible refine And.intro (by first | omega | (unfold inI; omega) | exact andI_inI _) ?_)
    refine retQ_ret rfl rfl (by simp [rowsOf, rowIds, lk]) ?_
    exact ⟨r, hra, rfl⟩
theorem drawCompare_ok (xs : List Int) (hx : ∀ x ∈ xs, 0 ≤ x ∧ x ≤ 255) (hn : xs.length ≤ 9223372036854775807) : FnOK Try.prog 12 [.d (.lst 1 (xs.map datY))] (fun rs => ∃ r q : ResultD, (resAny r ∧ resAny q) ∧ rs = [resV r, resV q]) := by
  have hC := cur0 hx hn
  refine fn_ok G_ok Try.func12 rfl rfl ?_; simp only [Try.ntmps12, List.length_cons, List.length_nil, Nat.reduceAdd, Nat.reduceSub, enm]
  repeat' (first | ((with_reducible first | refine execL_step (fun K' hK' => ?_)); (first | with_reducible refine s_none rfl ?_ | refine s_some2 rfl ?_); simp only [go_sem]) | (with_reducible refine hK' _ ?_; clear hK' K') | (with_reducible refine hK _ ?_; clear hK K; try simp only [go_sem]) | with_reducible (first | refine stp ?_ | refine pw_seq_opsK kl12 G_ok (fun K hK => ?_) | refine pw_ops G_ok (fun K hK => ?_)) | refine inBlockA_other (by decide) ?_ | (with_reducible refine pK_mk (fun hc => ?_) (fun hc => ?_) <;> (try simp only [go_sem]) <;> (try simp at hc) <;> (try (exfalso; omega))) | ((first | refine pw_seq (pw_cond rfl (fun hc => ?_) (fun hc => ?_)) | refine pw_cond rfl (fun hc => ?_) (fun hc => ?_)) <;> (try simp at hc) <;> (try (exfalso; omega))) | with_reducible refine And.intro (by first | omega | (unfold inI; omega) | exact andI_inI _) ?_)
  rw [box3 (.lst 1 (xs.map datY)) (.int .i64 0) (.int .u64 0)]
  generalize [D.lst 1 (xs.map datY), D.int .i64 0, D.int .u64 0] = cs at hC ⊢
  refine CallK.cur (none) (anyResults_ok (by assumption) (by omega)) rfl rfl rfl rfl rfl rfl ?_; rintro c2 _ ⟨x, hx, rfl, hC⟩; try simp only [mkB, go_sem]
  rename List ResultD => l
  have hl : resL l := hx
  have hl1 := hl.1
  repeat' (first | ((with_reducible first | refine execL_step (fun K' hK' => ?_)); (first | with_reducible refine s_none rfl ?_ | refine s_some2 rfl ?_); simp only [go_sem]) | (with_reducible refine hK' _ ?_; clear hK' K') | (with_reducible refine hK _ ?_; clear hK K; try simp only [go_sem]) | with_reducible (first | refine stp ?_ | refine pw_seq_opsK kl12 G_ok (fun K hK => ?_) | refine pw_ops G_ok (fun K hK => ?_)) | ((first | refine CallK.cur none (pick_ok (by assumption) (by omega)) rfl rfl rfl rfl rfl rfl ?_); rintro c2 _ ⟨x, hx, rfl, hC⟩; try simp only [mkB, go_sem]) | refine inBlockA_other (by decide) ?_ | (with_reducible refine pK_mk (fun hc => ?_) (fun hc => ?_) <;> (try simp only [go_sem]) <;> (try simp at hc) <;> (try (exfalso; omega))) | ((first | refine pw_seq (pw_cond rfl (fun hc => ?_) (fun hc => ?_)) | refine pw_cond rfl (fun hc => ?_) (fun hc => ?_)) <;> (try simp at hc) <;> (try (exfalso; omega))) | with_reducible refine And.intro (by first | omega | (unfold inI; omega) | exact andI_inI _) ?_)
  · refine CallK.curA none (result_ok (n := 2) (by assumption) (by omega) (by omega)) rfl rfl rfl rfl rfl rfl ?_; rintro c3 _ ⟨s1, hs1, rfl, hC⟩; try simp only [mkB, go_sem]
    repeat' (first | ((with_reducible first | refine execL_step (fun K' hK' => ?_)); (first | with_reducible refine s_none rfl ?_ | refine s_some2 rfl ?_); simp only [go_sem]) | (with_reducible refine hK' _ ?_; clear hK' K') | (with_reducible refine hK _ ?_; clear hK K; try simp only [go_sem]) | with_reducible (first | refine stp ?_ | refine pw_seq_opsK kl12 G_ok (fun K hK => ?_) | refine pw_ops G_ok (fun K hK => ?_)) | refine inBlockA_other (by decide) ?_ | (with_reducible refine pK_mk (fun hc => ?_) (fun hc => ?_) <;> (try simp only [go_sem]) <;> (try simp at hc) <;> (try (exfalso; omega))) | ((first | refine pw_seq (pw_cond rfl (fun hc => ?_) (fun hc => ?_)) | refine pw_cond rfl (fun hc => ?_) (fun hc => ?_)) <;> (try simp at hc) <;> (try (exfalso; omega))) | with_reducible refine And.intro (by first | omega | (unfold inI; omega) | exact andI_inI _) ?_)
    refine CallK.curA none (result_ok (n := 2) (by assumption) (by omega) (by omega)) rfl rfl rfl rfl rfl rfl ?_; rintro c4 _ ⟨s2, hs2, rfl, hC⟩; try simp only [mkB, go_sem]
    repeat' (first | ((with_reducible first | refine execL_step (fun K' hK' => ?_)); (first | with_reducible refine s_none rfl ?_ | refine s_some2 rfl ?_); simp only [go_sem]) | (with_reducible refine hK' _ ?_; clear hK' K') | (with_reducible refine hK _ ?_; clear hK K; try simp only [go_sem]) | with_reducible (first | refine stp ?_ | refine pw_seq_opsK kl12 G_ok (fun K hK => ?_) | refine pw_ops G_ok (fun K hK => ?_)) | refine inBlockA_other (by decide) ?_ | (with_reducible refine pK_mk (fun hc => ?_) (fun hc => ?_) <;> (try simp only [go_sem]) <;> (try simp at hc) <;> (try (exfalso; omega))) | ((first | refine pw_seq (pw_cond rfl (fun hc => ?_) (fun hc => ?_)) | refine pw_cond rfl (fun hc => ?_) (fun hc => ?_)) <;> (try simp at hc) <;> (try (exfalso; omega))) | with_reducible refine And.intro (by first | omega | (unfold inI; omega) | exact andI_inI _) ?_)
    refine retQ_ret (rs := [resV ⟨5, s1⟩, resV ⟨6, s2⟩]) rfl (by simp [retL, ret1, frzL, frzD, hget]) (by simp [rowsOf, rowIds, lk]) ?_
    exact ⟨⟨5, s1⟩, ⟨6, s2⟩, ⟨⟨by simp, by simp, by simp only; omega, hs1.2⟩, ⟨by simp, by simp, by simp only; omega, hs2.2⟩⟩, rfl⟩
  · have hl2 : 2 ≤ l.length := by omega
    refine pw_seq_anyN kl12 mixed ?_
    refine anyN_take 0 rfl rfl rfl (by decide +kernel) (by decide +kernel) (by decide +kernel) (pure_move (.inl rfl)) ?_
    try simp only [go_sem, Nat.zero_add, Int.toNat_natCast, Nat.mul_one, List.length_map, ResultD.dat]
    refine anyN_take 1 rfl rfl rfl (by decide +kernel) (by decide +kernel) (by decide +kernel) (pure_move (.inl rfl)) ?_
    try simp only [go_sem, Nat.zero_add, Int.toNat_natCast, Nat.mul_one, List.length_map, ResultD.dat]
    refine anyN_take 2 rfl rfl rfl (by decide +kernel) (by decide +kernel) (by decide +kernel) (pure_move (.inl rfl)) ?_
    try simp only [go_sem, Nat.zero_add, Int.toNat_natCast, Nat.mul_one, List.length_map, ResultD.dat]
    refine anyN_take 3 rfl rfl rfl (by decide +kernel) (by decide +kernel) (by decide +kernel) (pure_len rfl (G_ok _ _ G23) rfl) ?_
    try simp only [go_sem, Nat.zero_add, Int.toNat_natCast, Nat.mul_one, List.length_map, ResultD.dat]
    refine anyN_take 7 rfl rfl rfl (by decide +kernel) (by decide +kernel) (by decide +kernel) (pure_move (.inl rfl)) ?_
    try simp only [go_sem, Nat.zero_add, Int.toNat_natCast, Nat.mul_one, List.length_map, ResultD.dat]
    refine anyN_take 8 rfl rfl rfl (by decide +kernel) (by decide +kernel) (by decide +kernel) (pure_move (.inl rfl)) ?_
    try simp only [go_sem, Nat.zero_add, Int.toNat_natCast, Nat.mul_one, List.length_map, ResultD.dat]
    refine anyN_take 9 rfl rfl rfl (by decide +kernel) (by decide +kernel) (by decide +kernel) (pure_move (.inl rfl)) ?_
    try simp only [go_sem, Nat.zero_add, Int.toNat_natCast, Nat.mul_one, List.length_map, ResultD.dat]
    refine anyN_take 10 rfl rfl rfl (by decide +kernel) (by decide +kernel) (by decide +kernel) (pure_len rfl (G_ok _ _ G23) rfl) ?_
    try simp only [go_sem, Nat.zero_add, Int.toNat_natCast, Nat.mul_one, List.length_map, ResultD.dat]
    refine anyN_step G_ok [4] (by decide +kernel) rfl ⟨⟨_, rfl, fun K' hK' => ?_⟩, trivial⟩
    (first | with_reducible refine s_none rfl ?_ | refine s_some2 rfl ?_)
    simp only [go_sem, Nat.zero_add, Int.toNat_natCast, Nat.mul_one, List.length_map, ResultD.dat]
    repeat' (first | (with_reducible refine hK' _ ?_; clear hK' K'; try simp only [go_sem, Nat.zero_add, Int.toNat_natCast, Nat.mul_one, List.length_map, ResultD.dat]) | (refine CallK.cur (none) (pick_ok (by assumption) (by omega)) rfl rfl rfl rfl rfl rfl ?_; rintro c2 _ ⟨x, hx, rfl, hC⟩; try simp only [mkB, go_sem, Nat.zero_add, Int.toNat_natCast, Nat.mul_one, List.length_map, ResultD.dat]) | with_reducible refine And.intro (by first | omega | (unfold inI; omega)) ?_)
    obtain ⟨i, rfl⟩ : ∃ i : Nat, x = i := ⟨x.toNat, by omega⟩
    obtain ⟨r, hr⟩ : ∃ r, l[i]? = some r := ⟨_, List.getElem?_eq_getElem (by omega)⟩
    have hra := hl.at hr
    refine anyN_take 5 rfl rfl rfl (by decide +kernel) (by decide +kernel) (by decide +kernel) (pure_index rfl (G_ok _ _ G23) rfl (by omega) (idxR hr)) ?_
    try simp only [go_sem, Nat.zero_add, Int.toNat_natCast, Nat.mul_one, List.length_map, ResultD.dat]
    refine anyN_step G_ok [6, 11] (by decide +kernel) rfl ⟨⟨_, rfl, fun K' hK' => ?_⟩, ⟨_, rfl, fun K' hK' => ?_⟩, trivial⟩
    · (first | with_reducible refine s_none rfl ?_ | refine s_some2 rfl ?_)
      simp only [go_sem, Nat.zero_add, Int.toNat_natCast, Nat.mul_one, List.length_map, ResultD.dat]
      repeat' (first | (with_reducible refine hK' _ ?_; clear hK' K'; try simp only [go_sem, Nat.zero_add, Int.toNat_natCast, Nat.mul_one, List.length_map, ResultD.dat]) | (refine CallK.cur (none) (pick_ok (by assumption) (by omega)) rfl rfl rfl rfl rfl rfl ?_; rintro c2 _ ⟨x, hx, rfl, hC⟩; try simp only [mkB, go_sem, Nat.zero_add, Int.toNat_natCast, Nat.mul_one, List.length_map, ResultD.dat]) | with_reducible refine And.intro (by first | omega | (unfold inI; omega)) ?_)
      refine anyN_step G_ok [11] (by decide +kernel) rfl ⟨⟨_, rfl, fun K' hK' => ?_⟩, trivial⟩
      (first | with_reducible refine s_none rfl ?_ | refine s_some2 rfl ?_)
      simp only [go_sem, Nat.zero_add, Int.toNat_natCast, Nat.mul_one, List.length_map, ResultD.dat]
      repeat' (first | (with_reducible refine hK' _ ?_; clear hK' K'; try simp only [go_sem, Nat.zero_add, Int.toNat_natCast, Nat.mul_one, List.length_map, ResultD.dat]) | (refine CallK.cur (none) (pick_ok (by assumption) (by omega)) rfl rfl rfl rfl rfl rfl ?_; rintro c2 _ ⟨x, hx, rfl, hC⟩; try simp only [mkB, go_sem, Nat.zero_add, Int.toNat_natCast, Nat.mul_one, List.length_map, ResultD.dat]) | with_reducible refine And.intro (by first | omega | (unfold inI; omega)) ?_)
      obtain ⟨j, rfl⟩ : ∃ i : Nat, x = i := ⟨x.toNat, by omega⟩
      obtain ⟨q, hq⟩ : ∃ r, l[j]? = some r := ⟨_, List.getElem?_eq_getElem (by omega)⟩
      have hqa := hl.at hq
      refine anyN_take 12 rfl rfl rfl (by decide +kernel) (by decide +kernel) (by decide +kernel) (pure_index rfl (G_ok _ _ G23) rfl (by omega) (idxR hq)) ?_
      try simp only [go_sem, Nat.zero_add, Int.toNat_natCast, Nat.mul_one, List.length_map, ResultD.dat]
      refine anyN_step G_ok [13, 14] (by decide +kernel) rfl ⟨⟨_, rfl, fun K' hK' => ?_⟩, ⟨_, rfl, fun K' hK' => ?_⟩, trivial⟩
      · (first | with_reducible refine s_none rfl ?_ | refine s_some2 rfl ?_)
        simp only [go_sem, Nat.zero_add, Int.toNat_natCast, Nat.mul_one, List.length_map, ResultD.dat]
        repeat' (first | (with_reducible refine hK' _ ?_; clear hK' K'; try simp only [go_sem, Nat.zero_add, Int.toNat_natCast, Nat.mul_one, List.length_map, ResultD.dat]) | (refine CallK.cur (none) (pick_ok (by assumption) (by omega)) rfl rfl rfl rfl rfl rfl ?_; rintro c2 _ ⟨x, hx, rfl, hC⟩; try simp only [mkB, go_sem, Nat.zero_add, Int.toNat_natCast, Nat.mul_one, List.length_map, ResultD.dat]) | with_reducible refine And.intro (by first | omega | (unfold inI; omega)) ?_)
        refine anyN_step G_ok [14] (by decide +kernel) rfl ⟨⟨_, rfl, fun K' hK' => ?_⟩, trivial⟩
        (first | with_reducible refine s_none rfl ?_ | refine s_some2 rfl ?_)
        simp only [go_sem, Nat.zero_add, Int.toNat_natCast, Nat.mul_one, List.length_map, ResultD.dat]
        repeat' (first | (with_reducible refine hK' _ ?_; clear hK' K'; try simp only [go_sem, Nat.zero_add, Int.toNat_natCast, Nat.mul_one, List.length_map, ResultD.dat]) | (refine CallK.cur (none) (pick_ok (by assumption) (by omega)) rfl rfl rfl rfl rfl rfl ?_; rintro c2 _ ⟨x, hx, rfl, hC⟩; try simp only [mkB, go_sem, Nat.zero_add, Int.toNat_natCast, Nat.mul_one, List.length_map, ResultD.dat]) | with_reducible refine And.intro (by first | omega | (unfold inI; omega)) ?_)
        refine anyN_step G_ok [15] (by decide +kernel) rfl ⟨⟨_, rfl, fun K' hK' => ?_⟩, trivial⟩
        (first | with_reducible refine s_none rfl ?_ | refine s_some2 rfl ?_)
        simp only [go_sem, Nat.zero_add, Int.toNat_natCast, Nat.mul_one, List.length_map, ResultD.dat]
        repeat' (first | (with_reducible refine hK' _ ?_; clear hK' K'; try simp only [go_sem, Nat.zero_add, Int.toNat_natCast, Nat.mul_one, List.length_map, ResultD.dat]) | (refine CallK.cur (none) (pick_ok (by assumption) (by omega)) rfl rfl rfl rfl rfl rfl ?_; rintro c2 _ ⟨x, hx, rfl, hC⟩; try simp only [mkB, go_sem, Nat.zero_add, Int.toNat_natCast, Nat.mul_one, List.length_map, ResultD.dat]) | with_reducible refine And.intro (by first | omega | (unfold inI; omega)) ?_)
        refine anyN_done (by decide +kernel) ?_
        try simp only [go_sem, Nat.zero_add, Int.toNat_natCast, Nat.mul_one, List.length_map, ResultD.dat]
        repeat' (first | with_reducible refine thenA_normal ?_ | with_reducible refine pw_ret ?_)
        refine retQ_ret rfl rfl (by simp [rowsOf, rowIds, lk]) ?_
        exact ⟨r, q, ⟨hra, hqa⟩, rfl⟩
      · (first | with_reducible refine s_none rfl ?_ | refine s_some2 rfl ?_)
        simp only [go_sem, Nat.zero_add, Int.toNat_natCast, Nat.mul_one, List.length_map, ResultD.dat]
        repeat' (first | (with_reducible refine hK' _ ?_; clear hK' K'; try simp only [go_sem, Nat.zero_add, Int.toNat_natCast, Nat.mul_one, List.length_map, ResultD.dat]) | (refine CallK.cur (none) (pick_ok (by assumption) (by omega)) rfl rfl rfl rfl rfl rfl ?_; rintro c2 _ ⟨x, hx, rfl, hC⟩; try simp only [mkB, go_sem, Nat.zero_add, Int.toNat_natCast, Nat.mul_one, List.length_map, ResultD.dat]) | with_reducible refine And.intro (by first | omega | (unfold inI; omega)) ?_)
        refine anyN_step G_ok [13] (by decide +kernel) rfl ⟨⟨_, rfl, fun K' hK' => ?_⟩, trivial⟩
        (first | with_reducible refine s_none rfl ?_ | refine s_some2 rfl ?_)
        simp only [go_sem, Nat.zero_add, Int.toNat_natCast, Nat.mul_one, List.length_map, ResultD.dat]
        repeat' (first | (with_reducible refine hK' _ ?_; clear hK' K'; try simp only [go_sem, Nat.zero_add, Int.toNat_natCast, Nat.mul_one, List.length_map, ResultD.dat]) | (refine CallK.cur (none) (pick_ok (by assumption) (by omega)) rfl rfl rfl rfl rfl rfl ?_; rintro c2 _ ⟨x, hx, rfl, hC⟩; try simp only [mkB, go_sem, Nat.zero_add, Int.toNat_natCast, Nat.mul_one, List.length_map, ResultD.dat]) | with_reducible refine And.intro (by first | omega | (unfold inI; omega)) ?_)
        refine anyN_step G_ok [15] (by decide +kernel) rfl ⟨⟨_, rfl, fun K' hK' => ?_⟩, trivial⟩
        (first | with_reducible refine s_none rfl ?_ | refine s_some2 rfl ?_)
        simp only [go_sem, Nat.zero_add, Int.toNat_natCast, Nat.mul_one, List.length_map, ResultD.dat]
        repeat' (first | (with_reducible refine hK' _ ?_; clear hK' K'; try simp only [go_sem, Nat.zero_add, Int.toNat_natCast, Nat.mul_one, List.length_map, ResultD.dat]) | (refine CallK.cur (none) (pick_ok (by assumption) (by omega)) rfl rfl rfl rfl rfl rfl ?_; rintro c2 _ ⟨x, hx, rfl, hC⟩; try simp only [mkB, go_sem, Nat.zero_add, Int.toNat_natCast, Nat.mul_one, List.length_map, ResultD.dat]) | with_reducible refine And.intro (by first | omega | (unfold inI; omega)) ?_)
        refine anyN_done (by decide +kernel) ?_
        try simp only [go_sem, Nat.zero_add, Int.toNat_natCast, Nat.mul_one, List.length_map, ResultD.dat]
        repeat' (first | with_reducible refine thenA_normal ?_ | with_reducible refine pw_ret ?_)
        refine retQ_ret rfl rfl (by simp [rowsOf, rowIds, lk]) ?_
        exact ⟨r, q, ⟨hra, hqa⟩, rfl⟩
    · (first | with_reducible refine s_none rfl ?_ | refine s_some2 rfl ?_)
      simp only [go_sem, Nat.zero_add, Int.toNat_natCast, Nat.mul_one, List.length_map, ResultD.dat]
      repeat' (first | (with_reducible refine hK' _ ?_; clear hK' K'; try simp only [go_sem, Nat.zero_add, Int.toNat_natCast, Nat.mul_one, List.length_map, ResultD.dat]) | (refine CallK.cur (none) (pick_ok (by assumption) (by omega)) rfl rfl rfl rfl rfl rfl ?_; rintro c2 _ ⟨x, hx, rfl, hC⟩; try simp only [mkB, go_sem, Nat.zero_add, Int.toNat_natCast, Nat.mul_one, List.length_map, ResultD.dat]) | with_reducible refine And.intro (by first | omega | (unfold inI; omega)) ?_)
      obtain ⟨j, rfl⟩ : ∃ i : Nat, x = i := ⟨x.toNat, by omega⟩
      obtain ⟨q, hq⟩ : ∃ r, l[j]? = some r := ⟨_, List.getElem?_eq_getElem (by omega)⟩
      have hqa := hl.at hq
      refine anyN_take 12 rfl rfl rfl (by decide +kernel) (by decide +kernel) (by decide +kernel) (pure_index rfl (G_ok _ _ G23) rfl (by omega) (idxR hq)) ?_
      try simp only [go_sem, Nat.zero_add, Int.toNat_natCast, Nat.mul_one, List.length_map, ResultD.dat]
      refine anyN_step G_ok [6, 13] (by decide +kernel) rfl ⟨⟨_, rfl, fun K' hK' => ?_⟩, ⟨_, rfl, fun K' hK' => ?_⟩, trivial⟩
      · (first | with_reducible refine s_none rfl ?_ | refine s_some2 rfl ?_)
        simp only [go_sem, Nat.zero_add, Int.toNat_natCast, Nat.mul_one, List.length_map, ResultD.dat]
        repeat' (first | (with_reducible refine hK' _ ?_; clear hK' K'; try simp only [go_sem, Nat.zero_add, Int.toNat_natCast, Nat.mul_one, List.length_map, ResultD.dat]) | (refine CallK.cur (none) (pick_ok (by assumption) (by omega)) rfl rfl rfl rfl rfl rfl ?_; rintro c2 _ ⟨x, hx, rfl, hC⟩; try simp only [mkB, go_sem, Nat.zero_add, Int.toNat_natCast, Nat.mul_one, List.length_map, ResultD.dat]) | with_reducible refine And.intro (by first | omega | (unfold inI; omega)) ?_)
        refine anyN_step G_ok [13, 14] (by decide +kernel) rfl ⟨⟨_, rfl, fun K' hK' => ?_⟩, ⟨_, rfl, fun K' hK' => ?_⟩, trivial⟩
        · (first | with_reducible refine s_none rfl ?_ | refine s_some2 rfl ?_)
          simp only [go_sem, Nat.zero_add, Int.toNat_natCast, Nat.mul_one, List.length_map, ResultD.dat]
          repeat' (first | (with_reducible refine hK' _ ?_; clear hK' K'; try simp only [go_sem, Nat.zero_add, Int.toNat_natCast, Nat.mul_one, List.length_map, ResultD.dat]) | (refine CallK.cur (none) (pick_ok (by assumption) (by omega)) rfl rfl rfl rfl rfl rfl ?_; rintro c2 _ ⟨x, hx, rfl, hC⟩; try simp only [mkB, go_sem, Nat.zero_add, Int.toNat_natCast, Nat.mul_one, List.length_map, ResultD.dat]) | with_reducible refine And.intro (by first | omega | (unfold inI; omega)) ?_)
          refine anyN_step G_ok [14] (by decide +kernel) rfl ⟨⟨_, rfl, fun K' hK' => ?_⟩, trivial⟩
          (first | with_reducible refine s_none rfl ?_ | refine s_some2 rfl ?_)
          simp only [go_sem, Nat.zero_add, Int.toNat_natCast, Nat.mul_one, List.length_map, ResultD.dat]
          repeat' (first | (with_reducible refine hK' _ ?_; clear hK' K'; try simp only [go_sem, Nat.zero_add, Int.toNat_natCast, Nat.mul_one, List.length_map, ResultD.dat]) | (refine CallK.cur (none) (pick_ok (by assumption) (by omega)) rfl rfl rfl rfl rfl rfl ?_; rintro c2 _ ⟨x, hx, rfl, hC⟩; try simp only [mkB, go_sem, Nat.zero_add, Int.toNat_natCast, Nat.mul_one, List.length_map, ResultD.dat]) | with_reducible refine And.intro (by first | omega | (unfold inI; omega)) ?_)
          refine anyN_step G_ok [15] (by decide +kernel) rfl ⟨⟨_, rfl, fun K' hK' => ?_⟩, trivial⟩
          (first | with_reducible refine s_none rfl ?_ | refine s_some2 rfl ?_)
          simp only [go_sem, Nat.zero_add, Int.toNat_natCast, Nat.mul_one, List.length_map, ResultD.dat]
          repeat' (first | (with_reducible refine hK' _ ?_; clear hK' K'; try simp only [go_sem, Nat.zero_add, Int.toNat_natCast, Nat.mul_one, List.length_map, ResultD.dat]) | (refine CallK.cur (none) (pick_ok (by assumption) (by omega)) rfl rfl rfl rfl rfl rfl ?_; rintro c2 _ ⟨x, hx, rfl, hC⟩; try simp only [mkB, go_sem, Nat.zero_add, Int.toNat_natCast, Nat.mul_one, List.length_map, ResultD.dat]) | with_reducible refine And.intro (by first | omega | (unfold inI; omega)) ?_)
          refine anyN_done (by decide +kernel) ?_
          try simp only [go_sem, Nat.zero_add, Int.toNat_natCast, Nat.mul_one, List.length_map, ResultD.dat]
          repeat' (first | with_reducible refine thenA_normal ?_ | with_reducible refine pw_ret ?_)
          refine retQ_ret rfl rfl (by simp [rowsOf, rowIds, lk]) ?_
          exact ⟨r, q, ⟨hra, hqa⟩, rfl⟩
        · (first | with_reducible refine s_none rfl ?_ | refine s_some2 rfl ?_)
          simp only [go_sem, Nat.zero_add, Int.toNat_natCast, Nat.mul_one, List.length_map, ResultD.dat]
          repeat' (first | (with_reducible refine hK' _ ?_; clear hK' K'; try simp only [go_sem, Nat.zero_add, Int.toNat_natCast, Nat.mul_one, List.length_map, ResultD.dat]) | (refine CallK.cur (none) (pick_ok (by assumption) (by omega)) rfl rfl rfl rfl rfl rfl ?_; rintro c2 _ ⟨x, hx, rfl, hC⟩; try simp only [mkB, go_sem, Nat.zero_add, Int.toNat_natCast, Nat.mul_one, List.length_map, ResultD.dat]) | with_reducible refine And.intro (by first | omega | (unfold inI; omega)) ?_)
          refine anyN_step G_ok [13] (by decide +kernel) rfl ⟨⟨_, rfl, fun K' hK' => ?_⟩, trivial⟩
          (first | with_reducible refine s_none rfl ?_ | refine s_some2 rfl ?_)
          simp only [go_sem, Nat.zero_add, Int.toNat_natCast, Nat.mul_one, List.length_map, ResultD.dat]
          repeat' (first | (with_reducible refine hK' _ ?_; clear hK' K'; try simp only [go_sem, Nat.zero_add, Int.toNat_natCast, Nat.mul_one, List.length_map, ResultD.dat]) | (refine CallK.cur (none) (pick_ok (by assumption) (by omega)) rfl rfl rfl rfl rfl rfl ?_; rintro c2 _ ⟨x, hx, rfl, hC⟩; try simp only [mkB, go_sem, Nat.zero_add, Int.toNat_natCast, Nat.mul_one, List.length_map, ResultD.dat]) | with_reducible refine And.intro (by first | omega | (unfold inI; omega)) ?_)
          refine anyN_step G_ok [15] (by decide +kernel) rfl ⟨⟨_, rfl, fun K' hK' => ?_⟩, trivial⟩
          (first | with_reducible refine s_none rfl ?_ | refine s_some2 rfl ?_)
          simp only [go_sem, Nat.zero_add, Int.toNat_natCast, Nat.mul_one, List.length_map, ResultD.dat]
          repeat' (first | (with_reducible refine hK' _ ?_; clear hK' K'; try simp only [go_sem, Nat.zero_add, Int.toNat_natCast, Nat.mul_one, List.length_map, ResultD.dat]) | (refine CallK.cur (none) (pick_ok (by assumption) (by omega)) rfl rfl rfl rfl rfl rfl ?_; rintro c2 _ ⟨x, hx, rfl, hC⟩; try simp only [mkB, go_sem, Nat.zero_add, Int.toNat_natCast, Nat.mul_one, List.length_map, ResultD.dat]) | with_reducible refine And.intro (by first | omega | (unfold inI; omega)) ?_)
          refine anyN_done (by decide +kernel) ?_
          try simp only [go_sem, Nat.zero_add, Int.toNat_natCast, Nat.mul_one, List.length_map, ResultD.dat]
          repeat' (first | with_reducible refine thenA_normal ?_ | with_reducible refine pw_ret ?_)
          refine retQ_ret rfl rfl (by simp [rowsOf, rowIds, lk]) ?_
          exact ⟨r, q, ⟨hra, hqa⟩, rfl⟩
      · (first | with_reducible refine s_none rfl ?_ | refine s_some2 rfl ?_)
        simp only [go_sem, Nat.zero_add, Int.toNat_natCast, Nat.mul_one, List.length_map, ResultD.dat]
        repeat' (first | (with_reducible refine hK' _ ?_; clear hK' K'; try simp only [go_sem, Nat.zero_add, Int.toNat_natCast, Nat.mul_one, List.length_map, ResultD.dat]) | (refine CallK.cur (none) (pick_ok (by assumption) (by omega)) rfl rfl rfl rfl rfl rfl ?_; rintro c2 _ ⟨x, hx, rfl, hC⟩; try simp only [mkB, go_sem, Nat.zero_add, Int.toNat_natCast, Nat.mul_one, List.length_map, ResultD.dat]) | with_reducible refine And.intro (by first | omega | (unfold inI; omega)) ?_)
        refine anyN_step G_ok [6] (by decide +kernel) rfl ⟨⟨_, rfl, fun K' hK' => ?_⟩, trivial⟩
        (first | with_reducible refine s_none rfl ?_ | refine s_some2 rfl ?_)
        simp only [go_sem, Nat.zero_add, Int.toNat_natCast, Nat.mul_one, List.length_map, ResultD.dat]
        repeat' (first | (with_reducible refine hK' _ ?_; clear hK' K'; try simp only [go_sem, Nat.zero_add, Int.toNat_natCast, Nat.mul_one, List.length_map, ResultD.dat]) | (refine CallK.cur (none) (pick_ok (by assumption) (by omega)) rfl rfl rfl rfl rfl rfl ?_; rintro c2 _ ⟨x, hx, rfl, hC⟩; try simp only [mkB, go_sem, Nat.zero_add, Int.toNat_natCast, Nat.mul_one, List.length_map, ResultD.dat]) | with_reducible refine And.intro (by first | omega | (unfold inI; omega)) ?_)
        refine anyN_step G_ok [14] (by decide +kernel) rfl ⟨⟨_, rfl, fun K' hK' => ?_⟩, trivial⟩
        (first | with_reducible refine s_none rfl ?_ | refine s_some2 rfl ?_)
        simp only [go_sem, Nat.zero_add, Int.toNat_natCast, Nat.mul_one, List.length_map, ResultD.dat]
        repeat' (first | (with_reducible refine hK' _ ?_; clear hK' K'; try simp only [go_sem, Nat.zero_add, Int.toNat_natCast, Nat.mul_one, List.length_map, ResultD.dat]) | (refine CallK.cur (none) (pick_ok (by assumption) (by omega)) rfl rfl rfl rfl rfl rfl ?_; rintro c2 _ ⟨x, hx, rfl, hC⟩; try simp only [mkB, go_sem, Nat.zero_add, Int.toNat_natCast, Nat.mul_one, List.length_map, ResultD.dat]) | with_reducible refine And.intro (by first | omega | (unfold inI; omega)) ?_)
        refine anyN_step G_ok [15] (by decide +kernel) rfl ⟨⟨_, rfl, fun K' hK' => ?_⟩, trivial⟩
        (first | with_reducible refine s_none rfl ?_ | refine s_some2 rfl ?_)
        simp only [go_sem, Nat.zero_add, Int.toNat_natCast, Nat.mul_one, List.length_map, ResultD.dat]
        repeat' (first | (with_reducible refine hK' _ ?_; clear hK' K'; try simp only [go_sem, Nat.zero_add, Int.toNat_natCast, Nat.mul_one, List.length_map, ResultD.dat]) | (refine CallK.cur (none) (pick_ok (by assumption) (by omega)) rfl rfl rfl rfl rfl rfl ?_; rintro c2 _ ⟨x, hx, rfl, hC⟩; try simp only [mkB, go_sem, Nat.zero_add, Int.toNat_natCast, Nat.mul_one, List.length_map, ResultD.dat]) | with_reducible refine And.intro (by first | omega | (unfold inI; omega)) ?_)
        refine anyN_done (by decide +kernel) ?_
        try simp only [go_sem, Nat.zero_add, Int.toNat_natCast, Nat.mul_one, List.length_map, ResultD.dat]
        repeat' (first | with_reducible refine thenA_normal ?_ | with_reducible refine pw_ret ?_)
        refine retQ_ret rfl rfl (by simp [rowsOf, rowIds, lk]) ?_
        exact ⟨r, q, ⟨hra, hqa⟩, rfl⟩
end Go.Proofs.Ythkkpiodligmiaa
