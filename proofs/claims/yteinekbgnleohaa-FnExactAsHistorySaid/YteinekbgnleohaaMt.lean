/-
  The laws' marks in strings (markText), lists of strings marked and held, in the abstract machine.
-/
import Derived.Test.YteinekbgnleohaaMst
import Derived.Test.YteinekbgnleohaaIs0
set_option linter.unusedSimpArgs false
set_option linter.unusedVariables false
set_option maxHeartbeats 2000000
set_option maxRecDepth 100000
namespace Go.Proofs.Yteinekbgnleohaa
open Go.RowKit

/-- the mark of a number -/
def mkText (k : Int) : ByteArray := if k ≤ 0 then ⟨#[109, 48]⟩ else (⟨#[109]⟩ : ByteArray) ++ digB k.toNat
theorem markText_ok (k : Int) (hk : k ≤ 1099511627776) : FnEq Try.prog 53 [.d (.int .i64 k)] [.d (.str (mkText k))] := by
  refine fn_ok G_ok Try.func53 rfl rfl ?_; simp only [Try.ntmps53, List.length_cons, List.length_nil, Nat.reduceAdd, Nat.reduceSub, enm]
  by_cases h0 : k ≤ 0
  · repeat' (first | ((with_reducible first | refine execL_step (fun K' hK' => ?_)); (first | with_reducible refine s_none rfl ?_ | refine s_some2 rfl ?_); simp only [go_sem, h0]) | (with_reducible refine hK' _ ?_; clear hK' K') | (with_reducible refine hK _ ?_; clear hK K; try simp only [go_sem, h0]) | with_reducible (first | refine stp ?_ | refine pw_seq_opsK kl53 G_ok (fun K hK => ?_) | refine pw_ops G_ok (fun K hK => ?_)) | refine inBlockA_other (by decide) ?_ | (with_reducible refine pK_mk (fun hc => ?_) (fun hc => ?_) <;> (try simp only [go_sem, h0]) <;> (try simp at hc) <;> (try (exfalso; omega))) | ((first | refine pw_seq (pw_cond rfl (fun hc => ?_) (fun hc => ?_)) | refine pw_cond rfl (fun hc => ?_) (fun hc => ?_)) <;> (try simp at hc) <;> (try (exfalso; omega))) | with_reducible refine And.intro (by first | omega | (unfold inI; omega) | exact andI_inI _) ?_)
    refine retQ_ret rfl rfl (by simp [rowsOf, lk]) ?_; rw [mkText, if_pos h0]
  · repeat' (first | ((with_reducible first | refine execL_step (fun K' hK' => ?_)); (first | with_reducible refine s_none rfl ?_ | refine s_some2 rfl ?_); simp only [go_sem, h0]) | (with_reducible refine hK' _ ?_; clear hK' K') | (with_reducible refine hK _ ?_; clear hK K; try simp only [go_sem, h0]) | with_reducible (first | refine stp ?_ | refine pw_seq_opsK kl53 G_ok (fun K hK => ?_) | refine pw_ops G_ok (fun K hK => ?_)) | refine inBlockA_other (by decide) ?_ | (with_reducible refine pK_mk (fun hc => ?_) (fun hc => ?_) <;> (try simp only [go_sem, h0]) <;> (try simp at hc) <;> (try (exfalso; omega))) | ((first | refine pw_seq (pw_cond rfl (fun hc => ?_) (fun hc => ?_)) | refine pw_cond rfl (fun hc => ?_) (fun hc => ?_)) <;> (try simp at hc) <;> (try (exfalso; omega))) | with_reducible refine And.intro (by first | omega | (unfold inI; omega) | exact andI_inI _) ?_)
    have hk0 : ((k.toNat : Nat) : Int) = k := by omega
    refine pw_loop_over [0, 2, 3, 6, 7, 8, 9, 10, 11, 12, 13, 14, 15, 16, 17] (fun q : Nat × ByteArray => [(0, .d (.int .i64 (q.1 : Int))), (3, .d (.str q.2))]) (fun _ => []) 0 (fun q => digB k.toNat = digB q.1 ++ q.2 ∧ q.2.size + q.1 ≤ k.toNat) (fun q => q.1) (k.toNat, ⟨#[]⟩) ⟨ByteArray.append_empty.symm, by simp [ByteArray.size]⟩ (fits_mk [] (by simp [renL_d, bdL_d, sg, over, wipe, wl, memN, ins, rm, lk, fitFr, fit1, ren, renL, bd, bdL, app, fitHp, hget, renB, bdB, hk0] <;> omega)) ?_
    rintro ⟨n, out⟩ ⟨hJ, hS⟩
    simp only [over, wipe, wl, memN, ins, rm, if_true, if_false, Nat.reduceEqDiff, Bool.false_eq_true, reduceCtorEq]
    by_cases hn : 0 < n
    · have hm : (n : Int).tmod 10 = ((n % 10 : Nat) : Int) := by rw [Int.tmod_eq_emod_of_nonneg (by omega)]; omega
      have hq : (n : Int).tdiv 10 = ((n / 10 : Nat) : Int) := by rw [Int.tdiv_eq_ediv_of_nonneg (by omega)]; omega
      have hw : IntKind.u8.wrap (48 + ((n % 10 : Nat) : Int)) = 48 + ((n % 10 : Nat) : Int) := by rw [IntKind.wrap_u8]; omega
      have hsz : (strOfNums [48 + ((n % 10 : Nat) : Int)]).size = 1 := strOfNums_size _
      have hs2 := hS
      simp only at hs2
      generalize hd : strOfNums [48 + ((n % 10 : Nat) : Int)] = d at hsz
      repeat' (first | ((with_reducible first | refine execL_step (fun K' hK' => ?_)); (first | with_reducible refine s_none rfl ?_ | refine s_some2 rfl ?_); simp only [go_sem, hn, hm, hq, hw]) | (with_reducible refine hK' _ ?_; clear hK' K') | (with_reducible refine hK _ ?_; clear hK K; try simp only [go_sem, hn, hm, hq, hw]) | with_reducible (first | refine stp ?_ | refine pw_seq_opsK kl53 G_ok (fun K hK => ?_) | refine pw_ops G_ok (fun K hK => ?_)) | refine inBlockA_other (by decide) ?_ | (with_reducible refine pK_mk (fun hc => ?_) (fun hc => ?_) <;> (try simp only [go_sem, hn, hm, hq, hw]) <;> (try simp at hc) <;> (try (exfalso; omega))) | ((first | refine pw_seq (pw_cond rfl (fun hc => ?_) (fun hc => ?_)) | refine pw_cond rfl (fun hc => ?_) (fun hc => ?_)) <;> (try simp at hc) <;> (try (exfalso; omega))) | with_reducible refine And.intro (by first | omega | (unfold inI; omega) | exact andI_inI _) ?_)
      all_goals first
        | omega
        | skip
      refine pq_toStr (xs := [48 + ((n % 10 : Nat) : Int)]) rfl (G_ok _ _ G76) Try.underlying5 (G_ok _ _ G9) rfl ?_
      rw [hd]
      repeat' (first | ((with_reducible first | refine execL_step (fun K' hK' => ?_)); (first | with_reducible refine s_none rfl ?_ | refine s_some2 rfl ?_); simp only [go_sem, hq]) | (with_reducible refine hK' _ ?_; clear hK' K') | (with_reducible refine hK _ ?_; clear hK K; try simp only [go_sem, hq]) | with_reducible (first | refine stp ?_ | refine pw_seq_opsK kl53 G_ok (fun K hK => ?_) | refine pw_ops G_ok (fun K hK => ?_)) | refine inBlockA_other (by decide) ?_ | (with_reducible refine pK_mk (fun hc => ?_) (fun hc => ?_) <;> (try simp only [go_sem, hq]) <;> (try simp at hc) <;> (try (exfalso; omega))) | ((first | refine pw_seq (pw_cond rfl (fun hc => ?_) (fun hc => ?_)) | refine pw_cond rfl (fun hc => ?_) (fun hc => ?_)) <;> (try simp at hc) <;> (try (exfalso; omega))) | with_reducible refine And.intro (by first | omega | (unfold inI; omega) | exact andI_inI _) ?_)
      all_goals first
        | omega
        | skip
      refine ⟨(n / 10, d ++ out), ⟨by rw [hJ, digB_pos hn, hd, ByteArray.append_assoc], by rw [ByteArray.size_append]; simp only; omega⟩, by simp only; omega, (fits_mk [] (by simp [renL_d, bdL_d, sg, over, wipe, wl, memN, ins, rm, lk, fitFr, fit1, ren, renL, bd, bdL, app, fitHp, hget, renB, bdB] <;> omega))⟩
    · obtain rfl : n = 0 := by omega
      have hs2 := hS
      simp only at hs2
      have hs1 : (⟨#[109]⟩ : ByteArray).size = 1 := rfl
      repeat' (first | ((with_reducible first | refine execL_step (fun K' hK' => ?_)); (first | with_reducible refine s_none rfl ?_ | refine s_some2 rfl ?_); simp only [go_sem, hs1]) | (with_reducible refine hK' _ ?_; clear hK' K') | (with_reducible refine hK _ ?_; clear hK K; try simp only [go_sem, hs1]) | with_reducible (first | refine stp ?_ | refine pw_seq_opsK kl53 G_ok (fun K hK => ?_) | refine pw_ops G_ok (fun K hK => ?_)) | refine inBlockA_other (by decide) ?_ | (with_reducible refine pK_mk (fun hc => ?_) (fun hc => ?_) <;> (try simp only [go_sem, hs1]) <;> (try simp at hc) <;> (try (exfalso; omega))) | ((first | refine pw_seq (pw_cond rfl (fun hc => ?_) (fun hc => ?_)) | refine pw_cond rfl (fun hc => ?_) (fun hc => ?_)) <;> (try simp at hc) <;> (try (exfalso; omega))) | with_reducible refine And.intro (by first | omega | (unfold inI; omega) | exact andI_inI _) ?_)
      all_goals first
        | omega
        | skip
      refine retQ_ret rfl rfl (by simp [rowsOf, lk]) ?_; rw [mkText, if_neg h0, hJ, digB_zero, ByteArray.empty_append]
/-- the marks from q on -/
def mkS (q : Int) (n : Nat) : List ByteArray := (List.range n).map fun i : Nat => mkText (q + (i : Int))
theorem mkS_len (q : Int) (n : Nat) : (mkS q n).length = n := by simp [mkS]
theorem mkS_get {q : Int} {n i : Nat} (h : i < n) : (mkS q n)[i]? = some (mkText (q + (i : Int))) := by unfold mkS; rw [List.getElem?_map, List.getElem?_range h]; rfl
theorem mkS_succ (q : Int) (n : Nat) : mkS q (n + 1) = mkS q n ++ [mkText (q + (n : Int))] := by unfold mkS; rw [List.range_succ]; simp
/-- the first k of them marked -/
def mkSTo (q : Int) (xs : List ByteArray) (k : Nat) : List ByteArray := mkS q k ++ xs.drop k
theorem mkSTo_zero (q : Int) (xs : List ByteArray) : mkSTo q xs 0 = xs := rfl
theorem mkSTo_end (q : Int) (xs : List ByteArray) : mkSTo q xs xs.length = mkS q xs.length := by unfold mkSTo; rw [List.drop_length, List.append_nil]
theorem mkSTo_len {q : Int} {xs : List ByteArray} {k : Nat} (hk : k ≤ xs.length) : (mkSTo q xs k).length = xs.length := by unfold mkSTo; rw [List.length_append, mkS_len, List.length_drop]; omega
theorem mkSTo_get {q : Int} {xs : List ByteArray} {k : Nat} (hk : k < xs.length) : (mkSTo q xs k)[k]? = some (xs[k]) := by unfold mkSTo; rw [List.getElem?_append_right (by rw [mkS_len]; exact Nat.le_refl _), mkS_len, Nat.sub_self, List.getElem?_drop]; simp
theorem mkSTo_set {k : Int} {i : Nat} {xs : List ByteArray} (h : i < xs.length) : (mkSTo k xs i).set i (mkText (k + (i : Int))) = mkSTo k xs (i + 1) := by
  unfold mkSTo
  rw [List.set_append_right _ _ (by rw [mkS_len]; exact Nat.le_refl _), mkS_len, Nat.sub_self, mkS_succ, List.append_assoc, List.drop_eq_getElem_cons h]
  rfl
theorem heldStringS_ok (q : Int) (n : Nat) (hk : 0 ≤ q) (hb : q + (n : Int) ≤ 1099511627776) : FnEq Try.prog 35 [.d (.lst 1 ((mkS q n).map datS)), .d (.int .i64 q)] [.d (.int .i64 (q + (n : Int)))] := by
  refine fn_ok G_ok Try.func35 rfl rfl ?_; simp only [Try.ntmps35, List.length_cons, List.length_nil, Nat.reduceAdd, Nat.reduceSub, enm]
  have hl := mkS_len q n
  repeat' (first | ((with_reducible first | refine execL_step (fun K' hK' => ?_) | refine quietL_step (fun K' hK' => ?_)); (first | with_reducible refine s_none rfl ?_ | refine s_some2 rfl ?_); simp only [go_sem]) | (with_reducible refine hK' _ ?_; clear hK' K') | (with_reducible refine hK _ ?_; clear hK K; try simp only [go_sem]) | with_reducible (first | refine stp ?_ | refine pw_seq_opsK kl35 G_ok (fun K hK => ?_) | refine pw_ops G_ok (fun K hK => ?_)) | refine inBlockA_other (by decide) ?_ | (with_reducible refine pw_seq_drawK kl35 G_ok mixed (by kernel_rfl) (fun K hK => ?_)) | (with_reducible refine pw_draw G_ok mixed (by kernel_rfl) ?_) | (with_reducible refine pK_mk (fun hc => ?_) (fun hc => ?_) <;> (try simp only [go_sem]) <;> (try simp at hc) <;> (try (exfalso; omega))) | ((first | refine pw_seq (pw_cond rfl (fun hc => ?_) (fun hc => ?_)) | refine pw_cond rfl (fun hc => ?_) (fun hc => ?_)) <;> (try simp at hc) <;> (try (exfalso; omega))) | with_reducible refine And.intro (by first | omega | (unfold inI; omega) | exact andI_inI _) ?_)
  refine pw_loop_over [1, 4, 5, 6, 7, 8, 9, 10, 11, 12, 13, 14, 15, 16, 17, 18, 19, 20] (fun k : Nat => [(5, .d (.int .i64 (k : Int))), (1, .d (.int .i64 (q + (k : Int))))]) (fun k : Nat => []) 0 (fun k : Nat => k ≤ n) (fun k : Nat => n - k) 0 (Nat.zero_le _) (fits_mk [] (by simp [renL_d, bdL_d, sg, over, wipe, wl, memN, ins, rm, lk, fitFr, fit1, ren, renL, bd, bdL, app, fitHp, hget, renB, bdB, hl] <;> omega)) ?_
  intro i hi
  simp only [over, wipe, wl, memN, ins, rm, if_true, if_false, Nat.reduceEqDiff, Bool.false_eq_true, reduceCtorEq]
  by_cases hlt : i < n
  · have hx := mkS_get (q := q) hlt
    repeat' (first | ((with_reducible first | refine execL_step (fun K' hK' => ?_) | refine quietL_step (fun K' hK' => ?_)); (first | with_reducible refine s_none rfl ?_ | refine s_some2 rfl ?_); simp only [go_sem, hl, List.getElem?_map, hx, Option.map_some, datS, hlt]) | (with_reducible refine hK' _ ?_; clear hK' K') | (with_reducible refine hK _ ?_; clear hK K; try simp only [go_sem, hl, List.getElem?_map, hx, Option.map_some, datS, hlt]) | with_reducible (first | refine stp ?_ | refine pw_seq_opsK kl35 G_ok (fun K hK => ?_) | refine pw_ops G_ok (fun K hK => ?_)) | ((with_reducible first | apply CallK.eq | apply CallQ.eqs); (focus (with_reducible first | exact markText_ok (q + (i : Int)) (by omega))); (focus (first | exact rfl | (simp [RV.flat, D.sc, datI]; done))); try simp only [go_sem, hl, List.getElem?_map, hx, Option.map_some, datS, hlt]) | refine inBlockA_other (by decide) ?_ | (with_reducible refine pw_seq_drawK kl35 G_ok mixed (by kernel_rfl) (fun K hK => ?_)) | (with_reducible refine pw_draw G_ok mixed (by kernel_rfl) ?_) | (with_reducible refine pK_mk (fun hc => ?_) (fun hc => ?_) <;> (try simp only [go_sem, hl, List.getElem?_map, hx, Option.map_some, datS, hlt]) <;> (try simp at hc) <;> (try (exfalso; omega))) | ((first | refine pw_seq (pw_cond rfl (fun hc => ?_) (fun hc => ?_)) | refine pw_cond rfl (fun hc => ?_) (fun hc => ?_)) <;> (try simp at hc) <;> (try (exfalso; omega))) | with_reducible refine And.intro (by first | omega | (unfold inI; omega) | exact andI_inI _) ?_)
    all_goals first
      | (exfalso; omega)
      | exact ⟨i + 1, by omega, by omega, (fits_mk [] (by simp [renL_d, bdL_d, sg, over, wipe, wl, memN, ins, rm, lk, fitFr, fit1, ren, renL, bd, bdL, app, fitHp, hget, renB, bdB, Int.add_assoc] <;> omega))⟩
  · repeat' (first | ((with_reducible first | refine execL_step (fun K' hK' => ?_) | refine quietL_step (fun K' hK' => ?_)); (first | with_reducible refine s_none rfl ?_ | refine s_some2 rfl ?_); simp only [go_sem, hl]) | (with_reducible refine hK' _ ?_; clear hK' K') | (with_reducible refine hK _ ?_; clear hK K; try simp only [go_sem, hl]) | with_reducible (first | refine stp ?_ | refine pw_seq_opsK kl35 G_ok (fun K hK => ?_) | refine pw_ops G_ok (fun K hK => ?_)) | refine inBlockA_other (by decide) ?_ | (with_reducible refine pw_seq_drawK kl35 G_ok mixed (by kernel_rfl) (fun K hK => ?_)) | (with_reducible refine pw_draw G_ok mixed (by kernel_rfl) ?_) | (with_reducible refine pK_mk (fun hc => ?_) (fun hc => ?_) <;> (try simp only [go_sem, hl]) <;> (try simp at hc) <;> (try (exfalso; omega))) | ((first | refine pw_seq (pw_cond rfl (fun hc => ?_) (fun hc => ?_)) | refine pw_cond rfl (fun hc => ?_) (fun hc => ?_)) <;> (try simp at hc) <;> (try (exfalso; omega))) | with_reducible refine And.intro (by first | omega | (unfold inI; omega) | exact andI_inI _) ?_)
    refine retQ_ret rfl rfl (by simp [rowsOf, lk]) ?_; rw [show i = n by omega]
theorem markStringS_ok (xs : List ByteArray) (q : Int) (hk : 0 ≤ q) (hb : q + (xs.length : Int) ≤ 1099511627776) : FnM Try.prog 33 1 (xs.map datS) [.int .i64 q] ((mkS q xs.length).map datS) [.int .i64 (q + (xs.length : Int))] := by
  refine fn_okM G_ok Try.func33 rfl rfl (by simp [D.sc]) (by simp [D.sc]) fun ty => ?_; simp only [Try.ntmps33, List.length_cons, List.length_nil, Nat.reduceAdd, Nat.reduceSub, List.map_cons, List.map_nil, List.length_map, enm]
  repeat' (first | ((with_reducible first | refine execL_step (fun K' hK' => ?_)); (first | with_reducible refine s_none rfl ?_ | refine s_some2 rfl ?_); simp only [go_sem]) | (with_reducible refine hK' _ ?_; clear hK' K') | (with_reducible refine hK _ ?_; clear hK K; try simp only [go_sem]) | with_reducible (first | refine stp ?_ | refine pw_seq_opsK kl33 G_ok (fun K hK => ?_) | refine pw_ops G_ok (fun K hK => ?_)) | refine inBlockA_other (by decide) ?_ | (with_reducible refine pK_mk (fun hc => ?_) (fun hc => ?_) <;> (try simp only [go_sem]) <;> (try simp at hc) <;> (try (exfalso; omega))) | ((first | refine pw_seq (pw_cond rfl (fun hc => ?_) (fun hc => ?_)) | refine pw_cond rfl (fun hc => ?_) (fun hc => ?_)) <;> (try simp at hc) <;> (try (exfalso; omega))) | with_reducible refine And.intro (by first | omega | (unfold inI; omega) | exact andI_inI _) ?_)
  refine pw_loop_over [1, 4, 5, 6, 7, 8, 9, 10, 11, 12, 13, 14, 15, 16, 17, 18] (fun k : Nat => [(5, .d (.int .i64 (k : Int))), (1, .d (.int .i64 (q + (k : Int))))]) (fun k : Nat => [(0, .deep 1 ty 1 ((mkSTo q xs k).map datS))]) 1 (fun k : Nat => k ≤ xs.length) (fun k : Nat => xs.length - k) 0 (Nat.zero_le _) (fits_mk [] (by simp [renL_d, bdL_d, sg, over, wipe, wl, memN, ins, rm, lk, fitFr, fit1, ren, renL, bd, bdL, app, fitHp, hget, renB, bdB, mkSTo_zero] <;> omega)) ?_
  intro k hk
  have hL := mkSTo_len (q := q) hk
  simp only [over, wipe, wl, memN, ins, rm, if_true, if_false, Nat.reduceEqDiff, Bool.false_eq_true, reduceCtorEq]
  by_cases hlt : k < xs.length
  · have hx := mkSTo_get (q := q) hlt
    repeat' (first | ((with_reducible first | refine execL_step (fun K' hK' => ?_)); (first | with_reducible refine s_none rfl ?_ | refine s_some2 rfl ?_); simp only [go_sem, hL, hlt, List.getElem?_map, hx, Option.map_some, datS]) | (with_reducible refine hK' _ ?_; clear hK' K') | (with_reducible refine hK _ ?_; clear hK K; try simp only [go_sem, hL, hlt, List.getElem?_map, hx, Option.map_some, datS]) | with_reducible (first | refine stp ?_ | refine pw_seq_opsK kl33 G_ok (fun K hK => ?_) | refine pw_ops G_ok (fun K hK => ?_)) | ((with_reducible first | apply CallK.eq); (focus (with_reducible first | exact markText_ok (q + (k : Int)) (by omega))); (focus (first | exact rfl | (simp [RV.flat, D.sc, datI]; done))); try simp only [go_sem, hL, hlt, List.getElem?_map, hx, Option.map_some, datS]) | refine inBlockA_other (by decide) ?_ | (with_reducible refine pK_mk (fun hc => ?_) (fun hc => ?_) <;> (try simp only [go_sem, hL, hlt, List.getElem?_map, hx, Option.map_some, datS]) <;> (try simp at hc) <;> (try (exfalso; omega))) | ((first | refine pw_seq (pw_cond rfl (fun hc => ?_) (fun hc => ?_)) | refine pw_cond rfl (fun hc => ?_) (fun hc => ?_)) <;> (try simp at hc) <;> (try (exfalso; omega))) | with_reducible refine And.intro (by first | omega | (unfold inI; omega) | exact andI_inI _) ?_)
    have hst : ((mkSTo q xs k).map datS).set k [D.str (mkText (q + (k : Int)))] = (mkSTo q xs (k + 1)).map datS := by rw [← mkSTo_set hlt, List.map_set]; rfl
    refine po_store_deep (e := datS xs[k]) (ds := [.str (mkText (q + (k : Int)))]) rfl (G_ok _ _ G9) rfl rfl (by rw [List.getElem?_map, hx]; rfl) rfl rfl rfl rfl (Nat.le_refl _) ?_
    repeat' (first | ((with_reducible first | refine execL_step (fun K' hK' => ?_)); (first | with_reducible refine s_none rfl ?_ | refine s_some2 rfl ?_); simp only [go_sem, datS]) | (with_reducible refine hK' _ ?_; clear hK' K') | (with_reducible refine hK _ ?_; clear hK K; try simp only [go_sem, datS]) | with_reducible (first | refine stp ?_ | refine pw_seq_opsK kl33 G_ok (fun K hK => ?_) | refine pw_ops G_ok (fun K hK => ?_)) | refine inBlockA_other (by decide) ?_ | (with_reducible refine pK_mk (fun hc => ?_) (fun hc => ?_) <;> (try simp only [go_sem, datS]) <;> (try simp at hc) <;> (try (exfalso; omega))) | ((first | refine pw_seq (pw_cond rfl (fun hc => ?_) (fun hc => ?_)) | refine pw_cond rfl (fun hc => ?_) (fun hc => ?_)) <;> (try simp at hc) <;> (try (exfalso; omega))) | with_reducible refine And.intro (by first | omega | (unfold inI; omega) | exact andI_inI _) ?_)
    exact ⟨k + 1, by omega, by omega, (fits_mk [] (by simp [renL_d, bdL_d, sg, over, wipe, wl, memN, ins, rm, lk, fitFr, fit1, ren, renL, bd, bdL, app, fitHp, hget, renB, bdB, Int.add_assoc, hst] <;> omega))⟩
  · obtain rfl : k = xs.length := by omega
    repeat' (first | ((with_reducible first | refine execL_step (fun K' hK' => ?_)); (first | with_reducible refine s_none rfl ?_ | refine s_some2 rfl ?_); simp only [go_sem, hL]) | (with_reducible refine hK' _ ?_; clear hK' K') | (with_reducible refine hK _ ?_; clear hK K; try simp only [go_sem, hL]) | with_reducible (first | refine stp ?_ | refine pw_seq_opsK kl33 G_ok (fun K hK => ?_) | refine pw_ops G_ok (fun K hK => ?_)) | refine inBlockA_other (by decide) ?_ | (with_reducible refine pK_mk (fun hc => ?_) (fun hc => ?_) <;> (try simp only [go_sem, hL]) <;> (try simp at hc) <;> (try (exfalso; omega))) | ((first | refine pw_seq (pw_cond rfl (fun hc => ?_) (fun hc => ?_)) | refine pw_cond rfl (fun hc => ?_) (fun hc => ?_)) <;> (try simp at hc) <;> (try (exfalso; omega))) | with_reducible refine And.intro (by first | omega | (unfold inI; omega) | exact andI_inI _) ?_)
    rw [mkSTo_end]
    exact ⟨rfl, 0, rfl⟩
end Go.Proofs.Yteinekbgnleohaa
