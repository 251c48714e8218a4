/-
  Inquiries: their words; what the laws' helpers that read give, in the abstract machine; inquiries opened as arguments.
-/
import Derived.Test.YteinekbgnleohaaInqW
import Derived.Test.YteinekbgnleohaaIs0
set_option linter.unusedSimpArgs false
set_option linter.unusedVariables false
set_option maxHeartbeats 2000000
set_option maxRecDepth 100000
namespace Go.Proofs.Yteinekbgnleohaa
open Go.ChangeShapes Go.WideShapes Go.ChangeAt Go.RowKit Go.Deep

def InquiryD.dat (x : InquiryD) : List D := [.int .i64 x.tick, .int .i64 x.item, .int .i64 x.name, .int .i64 x.mark, .bool x.acc]
theorem InquiryD.dat_ok : EncOK InquiryD.enc InquiryD.dat 5 := by
  refine ⟨fun _ => rfl, fun _ => rfl, fun x j d u hd hu w X => ?_, fun x j d u hd hu w X v hv => ?_⟩
  · match j with
    | 0 => simp [InquiryD.dat, InquiryD.enc] at hd hu; subst hd hu; exact .int _ _
    | 1 => simp [InquiryD.dat, InquiryD.enc] at hd hu; subst hd hu; exact .int _ _
    | 2 => simp [InquiryD.dat, InquiryD.enc] at hd hu; subst hd hu; exact .int _ _
    | 3 => simp [InquiryD.dat, InquiryD.enc] at hd hu; subst hd hu; exact .int _ _
    | 4 => simp [InquiryD.dat, InquiryD.enc] at hd hu; subst hd hu; exact .bool _
    | j + 5 => simp [InquiryD.dat] at hd
  · match j with
    | 0 => simp [InquiryD.dat, InquiryD.enc] at hd hu; subst hd hu; cases hv; rfl
    | 1 => simp [InquiryD.dat, InquiryD.enc] at hd hu; subst hd hu; cases hv; rfl
    | 2 => simp [InquiryD.dat, InquiryD.enc] at hd hu; subst hd hu; cases hv; rfl
    | 3 => simp [InquiryD.dat, InquiryD.enc] at hd hu; subst hd hu; cases hv; rfl
    | 4 => simp [InquiryD.dat, InquiryD.enc] at hd hu; subst hd hu; cases hv; rfl
    | j + 5 => simp [InquiryD.dat] at hd
theorem InquiryD.extM {x y : InquiryD} (h0 : x.tick = y.tick) (h1 : x.item = y.item) (h2 : x.name = y.name) (h3 : x.mark = y.mark) (h4 : x.acc = y.acc) : x = y := by cases x; cases y; cases h0; cases h1; cases h2; cases h3; cases h4; rfl
theorem flatE_Inquiry (xs : List InquiryD) : flatE (xs.map InquiryD.dat) := by
  intro e he d hd
  obtain ⟨x, _, rfl⟩ := List.mem_map.1 he
  simp only [InquiryD.dat, List.mem_cons, List.not_mem_nil, or_false] at hd
  rcases hd with rfl | rfl | rfl | rfl | rfl <;> simp [D.sc]
theorem szInquiryS_ok (xs : List InquiryD) (hn : xs.length ≤ 9223372036854775807) (left : Int) (h0 : 0 ≤ left) (h1 : left ≤ 1048576) : FnEq Try.prog 7 [.d (.lst 5 (xs.map InquiryD.dat)), .d (.int .i64 left)] [.d (.int .i64 (szOf left xs.length))] := by
  refine fn_ok G_ok Try.func7 rfl rfl ?_; simp only [Try.ntmps7, List.length_cons, List.length_nil, Nat.reduceAdd, Nat.reduceSub, enm]
  repeat' (first | ((with_reducible first | refine execL_step (fun K' hK' => ?_)); (first | with_reducible refine s_none rfl ?_ | refine s_some2 rfl ?_); simp only [go_sem]) | (with_reducible refine hK' _ ?_; clear hK' K') | (with_reducible refine hK _ ?_; clear hK K; try simp only [go_sem]) | with_reducible (first | refine stp ?_ | refine pw_seq_opsK kl7 G_ok (fun K hK => ?_) | refine pw_ops G_ok (fun K hK => ?_)) | refine inBlockA_other (by decide) ?_ | (with_reducible refine pK_mk (fun hc => ?_) (fun hc => ?_) <;> (try simp only [go_sem]) <;> (try simp at hc) <;> (try (exfalso; omega))) | ((first | refine pw_seq (pw_cond rfl (fun hc => ?_) (fun hc => ?_)) | refine pw_cond rfl (fun hc => ?_) (fun hc => ?_)) <;> (try simp at hc) <;> (try (exfalso; omega))) | with_reducible refine And.intro (by first | omega | (unfold inI; omega) | exact andI_inI _) ?_)
  · refine retQ_ret rfl rfl (by simp [rowsOf, lk]) ?_; rw [szOf_lt (by omega)]
  · refine retQ_ret rfl rfl (by simp [rowsOf, lk]) ?_; rw [szOf_ge (by omega)]
theorem eqInquiry_ok (x y : InquiryD) : FnEq Try.prog 32 [.agg [.d (.int .i64 x.tick), .d (.int .i64 x.item), .d (.int .i64 x.name), .d (.int .i64 x.mark), .d (.bool x.acc)], .agg [.d (.int .i64 y.tick), .d (.int .i64 y.item), .d (.int .i64 y.name), .d (.int .i64 y.mark), .d (.bool y.acc)]] [.d (.bool (bP (x = y)))] := by
  refine fn_ok G_ok Try.func32 rfl rfl ?_; simp only [Try.ntmps32, List.length_cons, List.length_nil, Nat.reduceAdd, Nat.reduceSub, enm]
  repeat' (first | ((with_reducible first | refine execL_step (fun K' hK' => ?_)); (first | with_reducible refine s_none rfl ?_ | refine s_some2 rfl ?_); simp only [go_sem]) | (with_reducible refine hK' _ ?_; clear hK' K') | (with_reducible refine hK _ ?_; clear hK K; try simp only [go_sem]) | with_reducible (first | refine stp ?_ | refine pw_seq_opsK kl32 G_ok (fun K hK => ?_) | refine pw_ops G_ok (fun K hK => ?_)) | refine inBlockA_other (by decide) ?_ | (with_reducible refine pK_mk (fun hc => ?_) (fun hc => ?_) <;> (try simp only [go_sem]) <;> (try simp at hc) <;> (try (exfalso; omega))) | ((first | refine pw_seq (pw_cond rfl (fun hc => ?_) (fun hc => ?_)) | refine pw_cond rfl (fun hc => ?_) (fun hc => ?_)) <;> (try simp at hc) <;> (try (exfalso; omega))) | with_reducible refine And.intro (by first | omega | (unfold inI; omega) | exact andI_inI _) ?_)
  all_goals first
    | (refine retQ_ret rfl rfl (by simp [rowsOf, lk]) ?_; rw [bP_true (InquiryD.extM (by assumption) (by assumption) (by assumption) (by assumption) (by assumption))])
    | (refine retQ_ret rfl rfl (by simp [rowsOf, lk]) ?_; rw [bP_false fun h => by subst h; simp_all])
theorem eqInquiryS_ok (xs ys : List InquiryD) (hn : xs.length ≤ 1048576) (hn' : ys.length ≤ 9223372036854775807) : FnEq Try.prog 13 [.d (.lst 5 (xs.map InquiryD.dat)), .d (.lst 5 (ys.map InquiryD.dat))] [.d (.bool (bP (xs = ys)))] := by
  refine fn_ok G_ok Try.func13 rfl rfl ?_; simp only [Try.ntmps13, List.length_cons, List.length_nil, Nat.reduceAdd, Nat.reduceSub, enm]
  repeat' (first | ((with_reducible first | refine execL_step (fun K' hK' => ?_) | refine quietL_step (fun K' hK' => ?_)); (first | with_reducible refine s_none rfl ?_ | refine s_some2 rfl ?_); simp only [go_sem]) | (with_reducible refine hK' _ ?_; clear hK' K') | (with_reducible refine hK _ ?_; clear hK K; try simp only [go_sem]) | with_reducible (first | refine stp ?_ | refine pw_seq_opsK kl13 G_ok (fun K hK => ?_) | refine pw_ops G_ok (fun K hK => ?_)) | refine inBlockA_other (by decide) ?_ | (with_reducible refine pw_seq_drawK kl13 G_ok mixed (by kernel_rfl) (fun K hK => ?_)) | (with_reducible refine pw_draw G_ok mixed (by kernel_rfl) ?_) | (with_reducible refine pK_mk (fun hc => ?_) (fun hc => ?_) <;> (try simp only [go_sem]) <;> (try simp at hc) <;> (try (exfalso; omega))) | ((first | refine pw_seq (pw_cond rfl (fun hc => ?_) (fun hc => ?_)) | refine pw_cond rfl (fun hc => ?_) (fun hc => ?_)) <;> (try simp at hc) <;> (try (exfalso; omega))) | with_reducible refine And.intro (by first | omega | (unfold inI; omega) | exact andI_inI _) ?_)
  · refine retQ_ret rfl rfl (by simp [rowsOf, lk]) ?_; rw [bP_false fun h => absurd (congrArg List.length h) (by omega)]
  · refine pw_loop_over [4, 5, 11, 12, 13, 14, 15, 16, 17, 18, 19, 20, 21, 22, 23, 24, 25, 26] (fun k : Nat => [(5, .d (.int .i64 (k : Int)))]) (fun k : Nat => []) 0 (fun k : Nat => k ≤ xs.length ∧ xs.take k = ys.take k) (fun k : Nat => xs.length - k) 0 ⟨Nat.zero_le _, by simp⟩ (fits_mk [] (by simp [renL_d, bdL_d, sg, over, wipe, wl, memN, ins, rm, lk, fitFr, fit1, ren, renL, bd, bdL, app, fitHp, hget, renB, bdB] <;> omega)) ?_
    rintro k ⟨hk, hJ⟩
    simp only [over, wipe, wl, memN, ins, rm, if_true, if_false, Nat.reduceEqDiff, Bool.false_eq_true, reduceCtorEq]
    by_cases hlt : k < xs.length
    · have hx := List.getElem?_eq_getElem hlt
      generalize xs[k] = x at hx
      have hy := List.getElem?_eq_getElem (show k < ys.length by omega)
      generalize ys[k] = y at hy
      repeat' (first | ((with_reducible first | refine execL_step (fun K' hK' => ?_) | refine quietL_step (fun K' hK' => ?_)); (first | with_reducible refine s_none rfl ?_ | refine s_some2 rfl ?_); simp only [go_sem, List.getElem?_map, hx, hy, Option.map_some, InquiryD.dat]) | (with_reducible refine hK' _ ?_; clear hK' K') | (with_reducible refine hK _ ?_; clear hK K; try simp only [go_sem, List.getElem?_map, hx, hy, Option.map_some, InquiryD.dat]) | with_reducible (first | refine stp ?_ | refine pw_seq_opsK kl13 G_ok (fun K hK => ?_) | refine pw_ops G_ok (fun K hK => ?_)) | ((with_reducible first | apply CallK.eq | apply CallQ.eqs); (focus (with_reducible first | exact eqInquiry_ok x y)); (focus (first | exact rfl | (simp [RV.flat, D.sc, datI]; done))); try simp only [go_sem, List.getElem?_map, hx, hy, Option.map_some, InquiryD.dat]) | refine inBlockA_other (by decide) ?_ | (with_reducible refine pw_seq_drawK kl13 G_ok mixed (by kernel_rfl) (fun K hK => ?_)) | (with_reducible refine pw_draw G_ok mixed (by kernel_rfl) ?_) | (with_reducible refine pK_mk (fun hc => ?_) (fun hc => ?_) <;> (try simp only [go_sem, List.getElem?_map, hx, hy, Option.map_some, InquiryD.dat]) <;> (try simp at hc) <;> (try (exfalso; omega))) | ((first | refine pw_seq (pw_cond rfl (fun hc => ?_) (fun hc => ?_)) | refine pw_cond rfl (fun hc => ?_) (fun hc => ?_)) <;> (try simp at hc) <;> (try (exfalso; omega))) | with_reducible refine And.intro (by first | omega | (unfold inI; omega) | exact andI_inI _) ?_)
      · refine retQ_ret rfl rfl (by simp [rowsOf, lk]) ?_; rw [bP_false fun h => by rw [h, hy] at hx; exact not_bP (show bP (x = y) = false by assumption) (Option.some.inj hx).symm]
      · exact ⟨k + 1, ⟨by omega, by rw [take_snoc hx, take_snoc hy, hJ, of_bP (show bP (x = y) = true by assumption)]⟩, by omega, (fits_mk [] (by simp [renL_d, bdL_d, sg, over, wipe, wl, memN, ins, rm, lk, fitFr, fit1, ren, renL, bd, bdL, app, fitHp, hget, renB, bdB] <;> omega))⟩
    · repeat' (first | ((with_reducible first | refine execL_step (fun K' hK' => ?_) | refine quietL_step (fun K' hK' => ?_)); (first | with_reducible refine s_none rfl ?_ | refine s_some2 rfl ?_); simp only [go_sem]) | (with_reducible refine hK' _ ?_; clear hK' K') | (with_reducible refine hK _ ?_; clear hK K; try simp only [go_sem]) | with_reducible (first | refine stp ?_ | refine pw_seq_opsK kl13 G_ok (fun K hK => ?_) | refine pw_ops G_ok (fun K hK => ?_)) | refine inBlockA_other (by decide) ?_ | (with_reducible refine pw_seq_drawK kl13 G_ok mixed (by kernel_rfl) (fun K hK => ?_)) | (with_reducible refine pw_draw G_ok mixed (by kernel_rfl) ?_) | (with_reducible refine pK_mk (fun hc => ?_) (fun hc => ?_) <;> (try simp only [go_sem]) <;> (try simp at hc) <;> (try (exfalso; omega))) | ((first | refine pw_seq (pw_cond rfl (fun hc => ?_) (fun hc => ?_)) | refine pw_cond rfl (fun hc => ?_) (fun hc => ?_)) <;> (try simp at hc) <;> (try (exfalso; omega))) | with_reducible refine And.intro (by first | omega | (unfold inI; omega) | exact andI_inI _) ?_)
      refine retQ_ret rfl rfl (by simp [rowsOf, lk]) ?_; rw [bP_true (by rwa [List.take_of_length_le (by omega), List.take_of_length_le (by omega)] at hJ)]
theorem toInquiry_ok (x : InquiryD) : FnEq Try.prog 28 [.agg [.d (.int .i64 x.tick), .d (.int .i64 x.item), .d (.int .i64 x.name), .d (.int .i64 x.mark), .d (.bool x.acc)]] [.agg [.int .i64 x.tick, .int .i64 x.item, .int .i64 x.name, .int .i64 x.mark, .bool x.acc]] := by
  refine fn_ok G_ok Try.func28 rfl rfl ?_; simp only [Try.ntmps28, List.length_cons, List.length_nil, Nat.reduceAdd, Nat.reduceSub, enm]
  repeat' (first | ((with_reducible first | refine execL_step (fun K' hK' => ?_)); (first | with_reducible refine s_none rfl ?_ | refine s_some2 rfl ?_); simp only [go_sem]) | (with_reducible refine hK' _ ?_; clear hK' K') | (with_reducible refine hK _ ?_; clear hK K; try simp only [go_sem]) | with_reducible (first | refine stp ?_ | refine pw_seq_opsK kl28 G_ok (fun K hK => ?_) | refine pw_ops G_ok (fun K hK => ?_)) | refine inBlockA_other (by decide) ?_ | (with_reducible refine pK_mk (fun hc => ?_) (fun hc => ?_) <;> (try simp only [go_sem]) <;> (try simp at hc) <;> (try (exfalso; omega))) | ((first | refine pw_seq (pw_cond rfl (fun hc => ?_) (fun hc => ?_)) | refine pw_cond rfl (fun hc => ?_) (fun hc => ?_)) <;> (try simp at hc) <;> (try (exfalso; omega))) | with_reducible refine And.intro (by first | omega | (unfold inI; omega) | exact andI_inI _) ?_)
  refine retQ_ret rfl rfl (by simp [rowsOf, rowIds, lk]) ?_
  rfl
theorem toInquiryS_ok (xs : List InquiryD) (hn : xs.length ≤ 1048576) : FnEq Try.prog 10 [.d (.lst 5 (xs.map InquiryD.dat))] [.row 53 5 (xs.map InquiryD.dat)] := by
  refine fn_ok G_ok Try.func10 rfl rfl ?_; simp only [Try.ntmps10, List.length_cons, List.length_nil, Nat.reduceAdd, Nat.reduceSub, enm]
  repeat' (first | ((with_reducible first | refine execL_step (fun K' hK' => ?_)); (first | with_reducible refine s_none rfl ?_ | refine s_some2 rfl ?_); simp only [go_sem]) | (with_reducible refine hK' _ ?_; clear hK' K') | (with_reducible refine hK _ ?_; clear hK K; try simp only [go_sem]) | with_reducible (first | refine stp ?_ | refine pw_seq_opsK kl10 G_ok (fun K hK => ?_) | refine pw_ops G_ok (fun K hK => ?_)) | refine inBlockA_other (by decide) ?_ | (with_reducible refine pK_mk (fun hc => ?_) (fun hc => ?_) <;> (try simp only [go_sem]) <;> (try simp at hc) <;> (try (exfalso; omega))) | ((first | refine pw_seq (pw_cond rfl (fun hc => ?_) (fun hc => ?_)) | refine pw_cond rfl (fun hc => ?_) (fun hc => ?_)) <;> (try simp at hc) <;> (try (exfalso; omega))) | with_reducible refine And.intro (by first | omega | (unfold inI; omega) | exact andI_inI _) ?_)
  refine pw_loop_over [2, 4, 8, 9, 10, 11, 12, 13, 14, 15, 16, 17, 18, 19, 20, 21] (fun k : Nat => [(4, .d (.int .i64 (k : Int))), (3, .row 0 xs.length)]) (fun k : Nat => [(0, .row 53 5 ((fillTo (⟨0, 0, 0, 0, false⟩ : InquiryD) xs k).map InquiryD.dat))]) 1 (fun k : Nat => k ≤ xs.length) (fun k : Nat => xs.length - k) 0 (Nat.zero_le _) (fits_mk [] (by simp [renL_d, bdL_d, sg, over, wipe, wl, memN, ins, rm, lk, fitFr, fit1, ren, renL, bd, bdL, app, fitHp, hget, renB, bdB, fillTo_zero, InquiryD.dat] <;> omega)) ?_
  intro k hk
  have hL := fillTo_len (⟨0, 0, 0, 0, false⟩ : InquiryD) xs k hk
  simp only [over, wipe, wl, memN, ins, rm, if_true, if_false, Nat.reduceEqDiff, Bool.false_eq_true, reduceCtorEq]
  by_cases hlt : k < xs.length
  · have hx := List.getElem?_eq_getElem hlt
    generalize xs[k] = x at hx
    have hg := fillTo_get (⟨0, 0, 0, 0, false⟩ : InquiryD) hlt
    have hset : List.set ((fillTo (⟨0, 0, 0, 0, false⟩ : InquiryD) xs k).map InquiryD.dat) k [.int .i64 x.tick, .int .i64 x.item, .int .i64 x.name, .int .i64 x.mark, .bool x.acc] = (fillTo (⟨0, 0, 0, 0, false⟩ : InquiryD) xs (k + 1)).map InquiryD.dat := by rw [← fillTo_set (⟨0, 0, 0, 0, false⟩ : InquiryD) hx, List.map_set]; rfl
    repeat' (first | ((with_reducible first | refine execL_step (fun K' hK' => ?_)); (first | with_reducible refine s_none rfl ?_ | refine s_some2 rfl ?_); simp only [go_sem, List.getElem?_map, hx, hg, Option.map_some, InquiryD.dat, hlt]) | (with_reducible refine hK' _ ?_; clear hK' K') | (with_reducible refine hK _ ?_; clear hK K; try simp only [go_sem, List.getElem?_map, hx, hg, Option.map_some, InquiryD.dat, hlt]) | with_reducible (first | refine stp ?_ | refine pw_seq_opsK kl10 G_ok (fun K hK => ?_) | refine pw_ops G_ok (fun K hK => ?_)) | ((with_reducible first | apply CallK.eq); (focus (with_reducible first | exact toInquiry_ok x)); (focus (first | exact rfl | (simp [RV.flat, D.sc, datI]; done))); try simp only [go_sem, List.getElem?_map, hx, hg, Option.map_some, InquiryD.dat, hlt]) | refine inBlockA_other (by decide) ?_ | (with_reducible refine pK_mk (fun hc => ?_) (fun hc => ?_) <;> (try simp only [go_sem, List.getElem?_map, hx, hg, Option.map_some, InquiryD.dat, hlt]) <;> (try simp at hc) <;> (try (exfalso; omega))) | ((first | refine pw_seq (pw_cond rfl (fun hc => ?_) (fun hc => ?_)) | refine pw_cond rfl (fun hc => ?_) (fun hc => ?_)) <;> (try simp at hc) <;> (try (exfalso; omega))) | with_reducible refine And.intro (by first | omega | (unfold inI; omega) | exact andI_inI _) ?_)
    exact ⟨k + 1, by omega, by omega, (fits_mk [] (by simp [renL_d, bdL_d, sg, over, wipe, wl, memN, ins, rm, lk, fitFr, fit1, ren, renL, bd, bdL, app, fitHp, hget, renB, bdB, hset] <;> omega))⟩
  · have e : k = xs.length := by omega
    subst e
    rw [fillTo_end]
    repeat' (first | ((with_reducible first | refine execL_step (fun K' hK' => ?_)); (first | with_reducible refine s_none rfl ?_ | refine s_some2 rfl ?_); simp only [go_sem]) | (with_reducible refine hK' _ ?_; clear hK' K') | (with_reducible refine hK _ ?_; clear hK K; try simp only [go_sem]) | with_reducible (first | refine stp ?_ | refine pw_seq_opsK kl10 G_ok (fun K hK => ?_) | refine pw_ops G_ok (fun K hK => ?_)) | refine inBlockA_other (by decide) ?_ | (with_reducible refine pK_mk (fun hc => ?_) (fun hc => ?_) <;> (try simp only [go_sem]) <;> (try simp at hc) <;> (try (exfalso; omega))) | ((first | refine pw_seq (pw_cond rfl (fun hc => ?_) (fun hc => ?_)) | refine pw_cond rfl (fun hc => ?_) (fun hc => ?_)) <;> (try simp at hc) <;> (try (exfalso; omega))) | with_reducible refine And.intro (by first | omega | (unfold inI; omega) | exact andI_inI _) ?_)
    refine retQ_ret rfl (by simp only [retL, ret1, hget, lk, List.length_map, List.length_nil, List.length_append, List.length_take, if_true, if_false, Nat.reduceEqDiff, Nat.reduceBEq, Bool.false_eq_true, Option.some.injEq]; rfl) (by simp [rowsOf, lk]) ?_; rfl
section
variable {H : Type} {enc : TypeId × Value → H} {w : World} {base : Nat} {spare : Nat → Bool} {held : Bool}
set_option maxRecDepth 100000 in
theorem open_Inquiry : OpenK enc Try.prog w base spare held InquiryD.dat (fun _ => True) 55 5 :=
  OpenK.map (OpenK.st (OpenFs.cons (OpenK.int Try.underlying3) rfl (by kernel_rfl) (OpenFs.cons (OpenK.int Try.underlying3) rfl (by kernel_rfl) (OpenFs.cons (OpenK.int Try.underlying3) rfl (by kernel_rfl) (OpenFs.cons (OpenK.int Try.underlying3) rfl (by kernel_rfl) (OpenFs.cons (OpenK.bool Try.underlying4) rfl (by kernel_rfl) (OpenFs.nil 5)))))) Try.underlying55 (by kernel_rfl))
    (fun p => (⟨p.1, p.2.1, p.2.2.1, p.2.2.2.1, p.2.2.2.2.1⟩ : InquiryD)) InquiryD.dat _ (fun _ => rfl) (fun _ => rfl) (fun _ _ => trivial)
set_option maxRecDepth 100000 in
theorem open_InquiryS : OpenK enc Try.prog w base spare held (datL 5 InquiryD.dat) (fun xs => xs.length ≤ maxLen ∧ ∀ r ∈ xs, True) 23 1 :=
  OpenK.slc open_Inquiry Try.underlying23 (by kernel_rfl) (by decide)
end
end Go.Proofs.Yteinekbgnleohaa
