/-
  Items after inquiries: the reference's function, in the abstract machine.
-/
import Derived.Test.YtphakidbddamfaaGreatZIq
import Derived.Test.YtphakidbddamfaaGreatZJc
import Derived.Test.YtphakidbddamfaaGreatZSg
import Derived.Test.YtphakidbddamfaaGreatZOrd
set_option linter.unusedSimpArgs false
set_option linter.unusedVariables false
set_option maxHeartbeats 2000000
set_option maxRecDepth 100000
namespace Go.Proofs.YtphakidbddamfaaGreat
open Go.RowKit

theorem prevT_nn {l : List ItemD} {q : List InquiryD} {k : Nat} (hJ : Upto (InqAt l q) q k) (hk : k ≤ q.length) : 0 ≤ prevT q k := by
  rcases Nat.eq_zero_or_pos k with h0 | h0
  · rw [h0]; exact Int.le_refl _
  · have hp := List.getElem?_eq_getElem (show k - 1 < q.length by omega)
    rw [prevT_pos h0 hp]
    exact (hJ _ _ (by omega) hp).1
set_option maxHeartbeats 8000000 in
theorem iqRun_ok (l : List ItemD) (q : List InquiryD) (hn : l.length ≤ 1048576) (hs : ∀ r ∈ l, ItFit 1048576 r) (hv : ItsOk l) (hq : q.length ≤ 9223372036854775807) : FnEq Tryz.prog 64 [.d (.lst 3 (l.map ItemD.dat)), .d (.lst 5 (q.map InquiryD.dat))] (decR l q) := by
  have hs63 : ∀ r ∈ l, ItFit 9223372036854775807 r := fun r hr => (hs r hr).mono (by decide)
  refine fn_ok G_ok Tryz.func64 rfl rfl ?_; simp only [Tryz.ntmps64, List.length_cons, List.length_nil, Nat.reduceAdd, Nat.reduceSub, enm]
  by_cases h0 : l.length = 0
  · have hc1 := itOwn_ok l hn hs
    rw [show rvI l = _ from if_pos h0] at hc1
    have hn63 : l.length ≤ 9223372036854775807 := by omega
    have hnh : ∀ i j, ¬ HasNm l i j := fun i j h => by obtain ⟨_, _, y, hy, _⟩ := h; have := (List.getElem?_eq_some_iff.1 hy).1; omega
    repeat' (first | with_reducible refine stop_seq (id := 6) ?_ | with_reducible refine stop_one (id := 6) ?_ | with_reducible refine stop_seq (id := 10) ?_ | with_reducible refine stop_one (id := 10) ?_ | ((with_reducible first | (refine hK _ ?_; clear hK K) | refine stq fun K' hK' => ?_ | refine stc ?_); try simp only [go_sem]) | (with_reducible first | refine stp ?_ | (refine hK' _ ?_; clear hK' K') | refine kN kl64 fun K hK => ?_ | refine kO fun K hK => ?_) | (refine xS rfl fun K' hK' => ?_; simp only [go_sem]) | (refine qS rfl fun K' hK' => ?_; simp only [go_sem]) | ((with_reducible first | apply CallK.eq | apply CallQ.eqs); (· with_reducible first | exact hc1); (· first | exact rfl | (simp [RV.flat, D.sc, datI]; done)); try simp only [go_sem]) | refine iB ?_ | (with_reducible refine pw_seq_tailK kl64 G_ok 0 11 mixed (by kernel_rfl) (fun K hK => ?_); simp only [List.take_succ_cons, List.take_zero, List.drop_succ_cons, List.drop_zero]) | (with_reducible refine pw_seq_drawK kl64 G_ok mixed (by kernel_rfl) (fun K hK => ?_)) | (with_reducible refine pw_draw G_ok mixed (by kernel_rfl) ?_) | (with_reducible refine pK_mk ?_ ?_ <;> (intro hc; (try simp only [go_sem]); (try simp at hc); try (exfalso; omega))) | with_reducible refine And.intro (by first | omega | (unfold inI; omega)) ?_)
    refine pw_loop_over [4, 5, 7, 9, 14, 15, 16, 17, 18, 19, 20, 21, 22, 23, 24, 25, 26, 27, 28, 29, 30, 31, 32, 33, 34, 35, 36, 37, 38, 39, 40, 41, 42, 43, 44, 45, 46, 47, 48, 49, 50, 51, 52, 53, 54, 55, 56, 57, 58, 59, 60, 61, 62, 63, 64, 65, 66, 67, 68] (fun k : Nat => [(14, .d (.int .i64 (k : Int))), (6, .row 0 0), (7, .d (.int .i64 0))]) (fun k : Nat => [(0, .row 143 3 [])]) 1 (fun k : Nat => k ≤ q.length ∧ k = 0) (fun k : Nat => q.length - k) 0 ⟨Nat.zero_le _, rfl⟩ (fits_mk [] (by simp [renL_d, bdL_d, sg, over, wipe, wl, memN, ins, rm, lk, fitFr, fit1, ren, renL, bd, bdL, app, fitHp, hget, renB, bdB] <;> omega)) ?_
    rintro k ⟨hk, hk0⟩
    simp only [over, wipe, wl, memN, ins, rm, if_true, if_false, Nat.reduceEqDiff, Bool.false_eq_true, reduceCtorEq]
    by_cases hlt : k < q.length
    · have hx := List.getElem?_eq_getElem hlt
      generalize q[k] = x at hx
      have hNb := bP_false (hnh x.item x.name)
      have hA : ¬ InqAt l q k x := fun h => hnh _ _ h.2.2.2.1
      repeat' (first | ((with_reducible first | (refine hK _ ?_; clear hK K) | refine stq fun K' hK' => ?_ | refine stc ?_); try simp only [go_sem, List.getElem?_map, hx, hNb, Option.map_some, InquiryD.dat, datI, List.length_map]) | (with_reducible first | refine stp ?_ | (refine hK' _ ?_; clear hK' K') | refine kN kl64 fun K hK => ?_ | refine kO fun K hK => ?_) | (refine xS rfl fun K' hK' => ?_; simp only [go_sem, List.getElem?_map, hx, hNb, Option.map_some, InquiryD.dat, datI, List.length_map]) | (refine qS rfl fun K' hK' => ?_; simp only [go_sem, List.getElem?_map, hx, hNb, Option.map_some, InquiryD.dat, datI, List.length_map]) | ((with_reducible first | apply CallK.eq | apply CallQ.eqs); (· with_reducible first | exact l1In_ok _ _ _ | exact hiName_ok l x.item x.name hn63 hs63); (· first | exact rfl | (simp [RV.flat, D.sc, datI]; done)); try simp only [go_sem, List.getElem?_map, hx, hNb, Option.map_some, InquiryD.dat, datI, List.length_map]) | refine iB ?_ | (with_reducible refine pw_seq_drawK (id := 6) kl64 G_ok mixed (by kernel_rfl) (fun K hK => ?_)) | (with_reducible refine pw_draw (id := 6) G_ok mixed (by kernel_rfl) ?_) | (with_reducible refine pK_mk ?_ ?_ <;> (intro hc; (try simp only [go_sem, List.getElem?_map, hx, hNb, Option.map_some, InquiryD.dat, datI, List.length_map]); (try simp at hc); try (exfalso; omega))) | with_reducible refine And.intro (by first | omega | (unfold inI; omega)) ?_)
      all_goals first
        | (exfalso; omega)
        | ((refine retQ_ret rfl (by simp only [h0, retL, ret1, hget, lk, List.length_map, List.length_nil, List.length_append, List.length_take, if_true, if_false, Nat.reduceEqDiff, Nat.reduceBEq, Bool.false_eq_true, Option.some.injEq]; rfl) (by simp [rowsOf, lk]) ?_); exact (decR_no fun h => hA (h _ x hx)).symm)
    · have hq0 : q = [] := List.length_eq_zero_iff.1 (by omega)
      have hr := decR_yes (l := l) (q := q) (fun j x hx => by rw [hq0] at hx; simp at hx)
      have hil := itTo_len l q q.length
      rw [show rvI (itTo l q q.length) = _ from if_pos (by omega)] at hr
      repeat' (first | with_reducible refine stop_seq (id := 6) ?_ | with_reducible refine stop_one (id := 6) ?_ | with_reducible refine stop_seq (id := 10) ?_ | with_reducible refine stop_one (id := 10) ?_ | ((with_reducible first | (refine hK _ ?_; clear hK K) | refine stq fun K' hK' => ?_ | refine stc ?_); try simp only [go_sem]) | (with_reducible first | refine stp ?_ | (refine hK' _ ?_; clear hK' K') | refine kN kl64 fun K hK => ?_ | refine kO fun K hK => ?_) | (refine xS rfl fun K' hK' => ?_; simp only [go_sem]) | (refine qS rfl fun K' hK' => ?_; simp only [go_sem]) | refine iB ?_ | (with_reducible refine pw_seq_tailK kl64 G_ok 0 11 mixed (by kernel_rfl) (fun K hK => ?_); simp only [List.take_succ_cons, List.take_zero, List.drop_succ_cons, List.drop_zero]) | (with_reducible refine pw_seq_drawK kl64 G_ok mixed (by kernel_rfl) (fun K hK => ?_)) | (with_reducible refine pw_draw G_ok mixed (by kernel_rfl) ?_) | (with_reducible refine pK_mk ?_ ?_ <;> (intro hc; (try simp only [go_sem]); (try simp at hc); try (exfalso; omega))) | with_reducible refine And.intro (by first | omega | (unfold inI; omega)) ?_)
      all_goals first
        | (exfalso; omega)
        | ((refine retQ_ret rfl (by simp only [h0, retL, ret1, hget, lk, List.length_map, List.length_nil, List.length_append, List.length_take, if_true, if_false, Nat.reduceEqDiff, Nat.reduceBEq, Bool.false_eq_true, Option.some.injEq]; rfl) (by simp [rowsOf, lk]) ?_); rw [hr])
  · have hc1 := itOwn_ok l hn hs
    rw [show rvI l = _ from if_neg h0] at hc1
    have hil := itTo_len l q
    have hn63 : l.length ≤ 9223372036854775807 := by omega
    repeat' (first | with_reducible refine stop_seq (id := 6) ?_ | with_reducible refine stop_one (id := 6) ?_ | with_reducible refine stop_seq (id := 10) ?_ | with_reducible refine stop_one (id := 10) ?_ | ((with_reducible first | (refine hK _ ?_; clear hK K) | refine stq fun K' hK' => ?_ | refine stc ?_); try simp only [go_sem]) | (with_reducible first | refine stp ?_ | (refine hK' _ ?_; clear hK' K') | refine kN kl64 fun K hK => ?_ | refine kO fun K hK => ?_) | (refine xS rfl fun K' hK' => ?_; simp only [go_sem]) | (refine qS rfl fun K' hK' => ?_; simp only [go_sem]) | ((with_reducible first | apply CallK.eq | apply CallQ.eqs); (· with_reducible first | exact hc1); (· first | exact rfl | (simp [RV.flat, D.sc, datI]; done)); try simp only [go_sem]) | refine iB ?_ | (with_reducible refine pw_seq_tailK kl64 G_ok 0 11 mixed (by kernel_rfl) (fun K hK => ?_); simp only [List.take_succ_cons, List.take_zero, List.drop_succ_cons, List.drop_zero]) | (with_reducible refine pw_seq_drawK kl64 G_ok mixed (by kernel_rfl) (fun K hK => ?_)) | (with_reducible refine pw_draw G_ok mixed (by kernel_rfl) ?_) | (with_reducible refine pK_mk ?_ ?_ <;> (intro hc; (try simp only [go_sem]); (try simp at hc); try (exfalso; omega))) | with_reducible refine And.intro (by first | omega | (unfold inI; omega)) ?_)
    refine pw_loop_over [4, 5, 7, 9, 14, 15, 16, 17, 18, 19, 20, 21, 22, 23, 24, 25, 26, 27, 28, 29, 30, 31, 32, 33, 34, 35, 36, 37, 38, 39, 40, 41, 42, 43, 44, 45, 46, 47, 48, 49, 50, 51, 52, 53, 54, 55, 56, 57, 58, 59, 60, 61, 62, 63, 64, 65, 66, 67, 68] (fun k : Nat => [(14, .d (.int .i64 (k : Int))), (6, .row 0 l.length), (7, .d (.int .i64 (prevT q k)))]) (fun k : Nat => [(0, .deep 0 143 3 ((itTo l q k).map ItemD.dat))]) 1 (fun k : Nat => k ≤ q.length ∧ Upto (InqAt l q) q k) (fun k : Nat => q.length - k) 0 ⟨Nat.zero_le _, Upto.zero _ _⟩ (fits_mk [] (by simp [renL_d, bdL_d, sg, over, wipe, wl, memN, ins, rm, lk, fitFr, fit1, ren, renL, bd, bdL, app, fitHp, hget, renB, bdB, itTo_zero, prevT_zero] <;> omega)) ?_
    rintro k ⟨hk, hJ⟩
    simp only [over, wipe, wl, memN, ins, rm, if_true, if_false, Nat.reduceEqDiff, Bool.false_eq_true, reduceCtorEq]
    have hilk := hil k
    by_cases hlt : k < q.length
    · have hx := List.getElem?_eq_getElem hlt
      generalize q[k] = x at hx
      have hps := prevT_pos (q := q) (k := k + 1) (p := x) (by omega) (by rw [Nat.add_sub_cancel]; exact hx)
      have hpt := prevT_nn hJ hk
      by_cases hN : HasNm l x.item x.name
      · have hNb := bP_true hN
        have hiff := inqAt_iff (q := q) (k := k) hN
        obtain ⟨a, b, m, ha, hb, hnm, hml, hjn, hmn, hm, hmk⟩ := hN.there (q := q) hv k
        rw [hmk] at hiff
        have hi0 := hN.1
        have hj0 := hN.2.1
        have hilt : x.item.toNat < l.length := (List.getElem?_eq_some_iff.1 ha).1
        have hjlt : x.name.toNat < b.marks.length := by omega
        generalize prevT q k = pt at hiff hpt
        refine pw_alias (id := 0) (k := x.item.toNat) (off := 1) (es' := b.marks.map datI) rfl (by simp [alC, hb, ItemD.dat]; rfl) ?_
        repeat' (first | ((with_reducible first | (refine hK _ ?_; clear hK K) | refine stq fun K' hK' => ?_ | refine stc ?_); try simp only [go_sem, List.getElem?_map, hx, hNb, Option.map_some, InquiryD.dat, ItemD.dat, hb, hilk, hilt, hjlt, hm, datI, List.length_map, hi0, hj0]) | (with_reducible first | refine stp ?_ | (refine hK' _ ?_; clear hK' K') | refine kN kl64 fun K hK => ?_ | refine kO fun K hK => ?_) | (refine xS rfl fun K' hK' => ?_; simp only [go_sem, List.getElem?_map, hx, hNb, Option.map_some, InquiryD.dat, ItemD.dat, hb, hilk, hilt, hjlt, hm, datI, List.length_map, hi0, hj0]) | (refine qS rfl fun K' hK' => ?_; simp only [go_sem, List.getElem?_map, hx, hNb, Option.map_some, InquiryD.dat, ItemD.dat, hb, hilk, hilt, hjlt, hm, datI, List.length_map, hi0, hj0]) | ((with_reducible first | apply CallK.eq | apply CallQ.eqs); (· with_reducible first | exact l1In_ok _ _ _ | exact hiName_ok l x.item x.name hn63 hs63); (· first | exact rfl | (simp [RV.flat, D.sc, datI]; done)); try simp only [go_sem, List.getElem?_map, hx, hNb, Option.map_some, InquiryD.dat, ItemD.dat, hb, hilk, hilt, hjlt, hm, datI, List.length_map, hi0, hj0]) | refine iB ?_ | (with_reducible refine pw_seq_drawK (id := 6) kl64 G_ok mixed (by kernel_rfl) (fun K hK => ?_)) | (with_reducible refine pw_draw (id := 6) G_ok mixed (by kernel_rfl) ?_) | (with_reducible refine pK_mk ?_ ?_ <;> (intro hc; (try simp only [go_sem, List.getElem?_map, hx, hNb, Option.map_some, InquiryD.dat, ItemD.dat, hb, hilk, hilt, hjlt, hm, datI, List.length_map, hi0, hj0]); (try simp at hc); try (exfalso; omega))) | with_reducible refine And.intro (by first | omega | (unfold inI; omega)) ?_)
        all_goals first
          | ((refine retQ_ret rfl (by simp only [hilk, retL, ret1, hget, lk, List.length_map, List.length_nil, List.length_append, List.length_take, if_true, if_false, Nat.reduceEqDiff, Nat.reduceBEq, Bool.false_eq_true, Option.some.injEq]; rfl) (by simp [rowsOf, lk]) ?_); exact (decR_no fun h => absurd (h _ x hx) (by rw [hiff]; omega)).symm)
          | skip
        refine pq_load_al (i' := 1) (k := x.item.toNat) (off := 1) (es' := b.marks.map datI) (ti := .slc 3 1 8 [.int .i64 0]) rfl (G_ok _ _ G23) rfl rfl rfl (by simp [alC, hb, ItemD.dat]; rfl) rfl ?_
        repeat' (first | ((with_reducible first | (refine hK _ ?_; clear hK K) | refine stq fun K' hK' => ?_ | refine stc ?_); try simp only [go_sem, List.getElem?_map, hx, hNb, Option.map_some, InquiryD.dat, ItemD.dat, hb, hilk, hilt, hjlt, hm, datI, List.length_map, hi0, hj0]) | (with_reducible first | refine stp ?_ | (refine hK' _ ?_; clear hK' K') | refine kN kl64 fun K hK => ?_ | refine kO fun K hK => ?_) | (refine xS rfl fun K' hK' => ?_; simp only [go_sem, List.getElem?_map, hx, hNb, Option.map_some, InquiryD.dat, ItemD.dat, hb, hilk, hilt, hjlt, hm, datI, List.length_map, hi0, hj0]) | (refine qS rfl fun K' hK' => ?_; simp only [go_sem, List.getElem?_map, hx, hNb, Option.map_some, InquiryD.dat, ItemD.dat, hb, hilk, hilt, hjlt, hm, datI, List.length_map, hi0, hj0]) | ((with_reducible first | apply CallK.eq | apply CallQ.eqs); (· with_reducible first | exact l1In_ok _ _ _ | exact hiName_ok l x.item x.name hn63 hs63); (· first | exact rfl | (simp [RV.flat, D.sc, datI]; done)); try simp only [go_sem, List.getElem?_map, hx, hNb, Option.map_some, InquiryD.dat, ItemD.dat, hb, hilk, hilt, hjlt, hm, datI, List.length_map, hi0, hj0]) | refine iB ?_ | (with_reducible refine pw_seq_drawK (id := 6) kl64 G_ok mixed (by kernel_rfl) (fun K hK => ?_)) | (with_reducible refine pw_draw (id := 6) G_ok mixed (by kernel_rfl) ?_) | (with_reducible refine pK_mk ?_ ?_ <;> (intro hc; (try simp only [go_sem, List.getElem?_map, hx, hNb, Option.map_some, InquiryD.dat, ItemD.dat, hb, hilk, hilt, hjlt, hm, datI, List.length_map, hi0, hj0]); (try simp at hc); try (exfalso; omega))) | with_reducible refine And.intro (by first | omega | (unfold inI; omega)) ?_)
        all_goals first
          | ((refine retQ_ret rfl (by simp only [hilk, retL, ret1, hget, lk, List.length_map, List.length_nil, List.length_append, List.length_take, if_true, if_false, Nat.reduceEqDiff, Nat.reduceBEq, Bool.false_eq_true, Option.some.injEq]; rfl) (by simp [rowsOf, lk]) ?_); exact (decR_no fun h => absurd (h _ x hx) (by rw [hiff]; omega)).symm)
          | skip
        all_goals
          (by_cases hacc : x.acc = true)
        all_goals first
          | (exfalso; simp_all; done)
          | skip
        all_goals
          have hA : InqAt l q k x := hiff.2 (by omega)
          have hJ' := hJ.succ hx hA
        all_goals try
          (have hset := itTo_not (l := l) hx (by simpa using hacc)
           exact ⟨k + 1, ⟨by omega, hJ'⟩, by omega, (fits_mk [] (by simp [renL_d, bdL_d, sg, over, wipe, wl, memN, ins, rm, lk, fitFr, fit1, ren, renL, bd, bdL, app, fitHp, hget, renB, bdB, hset, hps] <;> omega))⟩)
        refine pw_draw_tail G_ok 0 11 mixed (by decide +kernel) ?_
        simp only [List.take_succ_cons, List.take_zero, List.drop_succ_cons, List.drop_zero]
        repeat' (first | ((with_reducible first | (refine hK _ ?_; clear hK K) | refine stq fun K' hK' => ?_ | refine stc ?_); try simp only [go_sem, List.getElem?_map, hx, hNb, Option.map_some, InquiryD.dat, ItemD.dat, hb, hilk, hilt, hjlt, hm, datI, List.length_map, hi0, hj0]) | (with_reducible first | refine stp ?_ | (refine hK' _ ?_; clear hK' K') | refine kN kl64 fun K hK => ?_ | refine kO fun K hK => ?_) | (refine xS rfl fun K' hK' => ?_; simp only [go_sem, List.getElem?_map, hx, hNb, Option.map_some, InquiryD.dat, ItemD.dat, hb, hilk, hilt, hjlt, hm, datI, List.length_map, hi0, hj0]) | (refine qS rfl fun K' hK' => ?_; simp only [go_sem, List.getElem?_map, hx, hNb, Option.map_some, InquiryD.dat, ItemD.dat, hb, hilk, hilt, hjlt, hm, datI, List.length_map, hi0, hj0]) | refine iB ?_ | (with_reducible refine pw_seq_drawK (id := 6) kl64 G_ok mixed (by kernel_rfl) (fun K hK => ?_)) | (with_reducible refine pw_draw (id := 6) G_ok mixed (by kernel_rfl) ?_) | (with_reducible refine pK_mk ?_ ?_ <;> (intro hc; (try simp only [go_sem, List.getElem?_map, hx, hNb, Option.map_some, InquiryD.dat, ItemD.dat, hb, hilk, hilt, hjlt, hm, datI, List.length_map, hi0, hj0]); (try simp at hc); try (exfalso; omega))) | with_reducible refine And.intro (by first | omega | (unfold inI; omega)) ?_)
        refine pq_load_al (i' := 1) (k := x.item.toNat) (off := 1) (es' := b.marks.map datI) (ti := .slc 3 1 8 [.int .i64 0]) rfl (G_ok _ _ G23) rfl rfl rfl (by simp [alC, hb, ItemD.dat]; rfl) rfl ?_
        repeat' (first | ((with_reducible first | (refine hK _ ?_; clear hK K) | refine stq fun K' hK' => ?_ | refine stc ?_); try simp only [go_sem, List.getElem?_map, hx, hNb, Option.map_some, InquiryD.dat, ItemD.dat, hb, hilk, hilt, hjlt, hm, datI, List.length_map, hi0, hj0]) | (with_reducible first | refine stp ?_ | (refine hK' _ ?_; clear hK' K') | refine kN kl64 fun K hK => ?_ | refine kO fun K hK => ?_) | (refine xS rfl fun K' hK' => ?_; simp only [go_sem, List.getElem?_map, hx, hNb, Option.map_some, InquiryD.dat, ItemD.dat, hb, hilk, hilt, hjlt, hm, datI, List.length_map, hi0, hj0]) | (refine qS rfl fun K' hK' => ?_; simp only [go_sem, List.getElem?_map, hx, hNb, Option.map_some, InquiryD.dat, ItemD.dat, hb, hilk, hilt, hjlt, hm, datI, List.length_map, hi0, hj0]) | refine iB ?_ | (with_reducible refine pw_seq_drawK (id := 6) kl64 G_ok mixed (by kernel_rfl) (fun K hK => ?_)) | (with_reducible refine pw_draw (id := 6) G_ok mixed (by kernel_rfl) ?_) | (with_reducible refine pK_mk ?_ ?_ <;> (intro hc; (try simp only [go_sem, List.getElem?_map, hx, hNb, Option.map_some, InquiryD.dat, ItemD.dat, hb, hilk, hilt, hjlt, hm, datI, List.length_map, hi0, hj0]); (try simp at hc); try (exfalso; omega))) | with_reducible refine And.intro (by first | omega | (unfold inI; omega)) ?_)
        refine po_store_al (es' := b.marks.map datI) (e1 := datI m) (ds := [.int .i64 x.mark]) rfl (G_ok _ _ G3) rfl rfl rfl (by simp [alC, hb, ItemD.dat]) (by rw [List.getElem?_map, hm]; rfl) rfl rfl rfl (Nat.le_refl _) ?_
        have hset := itTo_acc hx hb hacc
        repeat' (first | ((with_reducible first | (refine hK _ ?_; clear hK K) | refine stq fun K' hK' => ?_ | refine stc ?_); try simp only [go_sem, setC, List.getElem?_map, hb, Option.map_some, ItemD.dat, List.set_cons_succ, List.set_cons_zero, spl, datI, hset]) | (with_reducible first | refine stp ?_ | (refine hK' _ ?_; clear hK' K') | refine kN kl64 fun K hK => ?_ | refine kO fun K hK => ?_) | (refine xS rfl fun K' hK' => ?_; simp only [go_sem, setC, List.getElem?_map, hb, Option.map_some, ItemD.dat, List.set_cons_succ, List.set_cons_zero, spl, datI, hset]) | (refine qS rfl fun K' hK' => ?_; simp only [go_sem, setC, List.getElem?_map, hb, Option.map_some, ItemD.dat, List.set_cons_succ, List.set_cons_zero, spl, datI, hset]) | refine iB ?_ | (with_reducible refine pw_seq_drawK (id := 6) kl64 G_ok mixed (by kernel_rfl) (fun K hK => ?_)) | (with_reducible refine pw_draw (id := 6) G_ok mixed (by kernel_rfl) ?_) | (with_reducible refine pK_mk ?_ ?_ <;> (intro hc; (try simp only [go_sem, setC, List.getElem?_map, hb, Option.map_some, ItemD.dat, List.set_cons_succ, List.set_cons_zero, spl, datI, hset]); (try simp at hc); try (exfalso; omega))) | with_reducible refine And.intro (by first | omega | (unfold inI; omega)) ?_)
        exact ⟨k + 1, ⟨by omega, hJ'⟩, by omega, (fits_mk [] (by simp [renL_d, bdL_d, sg, over, wipe, wl, memN, ins, rm, lk, fitFr, fit1, ren, renL, bd, bdL, app, fitHp, hget, renB, bdB, hps] <;> omega))⟩
      · have hNb := bP_false hN
        have hA : ¬ InqAt l q k x := fun h => hN h.2.2.2.1
        repeat' (first | ((with_reducible first | (refine hK _ ?_; clear hK K) | refine stq fun K' hK' => ?_ | refine stc ?_); try simp only [go_sem, List.getElem?_map, hx, hNb, Option.map_some, InquiryD.dat, datI, List.length_map]) | (with_reducible first | refine stp ?_ | (refine hK' _ ?_; clear hK' K') | refine kN kl64 fun K hK => ?_ | refine kO fun K hK => ?_) | (refine xS rfl fun K' hK' => ?_; simp only [go_sem, List.getElem?_map, hx, hNb, Option.map_some, InquiryD.dat, datI, List.length_map]) | (refine qS rfl fun K' hK' => ?_; simp only [go_sem, List.getElem?_map, hx, hNb, Option.map_some, InquiryD.dat, datI, List.length_map]) | ((with_reducible first | apply CallK.eq | apply CallQ.eqs); (· with_reducible first | exact l1In_ok _ _ _ | exact hiName_ok l x.item x.name hn63 hs63); (· first | exact rfl | (simp [RV.flat, D.sc, datI]; done)); try simp only [go_sem, List.getElem?_map, hx, hNb, Option.map_some, InquiryD.dat, datI, List.length_map]) | refine iB ?_ | (with_reducible refine pw_seq_drawK (id := 6) kl64 G_ok mixed (by kernel_rfl) (fun K hK => ?_)) | (with_reducible refine pw_draw (id := 6) G_ok mixed (by kernel_rfl) ?_) | (with_reducible refine pK_mk ?_ ?_ <;> (intro hc; (try simp only [go_sem, List.getElem?_map, hx, hNb, Option.map_some, InquiryD.dat, datI, List.length_map]); (try simp at hc); try (exfalso; omega))) | with_reducible refine And.intro (by first | omega | (unfold inI; omega)) ?_)
        all_goals first
          | (exfalso; omega)
          | ((refine retQ_ret rfl (by simp only [hilk, retL, ret1, hget, lk, List.length_map, List.length_nil, List.length_append, List.length_take, if_true, if_false, Nat.reduceEqDiff, Nat.reduceBEq, Bool.false_eq_true, Option.some.injEq]; rfl) (by simp [rowsOf, lk]) ?_); exact (decR_no fun h => hA (h _ x hx)).symm)
    · obtain rfl : k = q.length := by omega
      have hr := decR_yes (show InqsOk l q from hJ.all (by omega))
      rw [show rvI (itTo l q q.length) = _ from if_neg (by rw [hilk]; exact h0)] at hr
      repeat' (first | with_reducible refine stop_seq (id := 6) ?_ | with_reducible refine stop_one (id := 6) ?_ | with_reducible refine stop_seq (id := 10) ?_ | with_reducible refine stop_one (id := 10) ?_ | ((with_reducible first | (refine hK _ ?_; clear hK K) | refine stq fun K' hK' => ?_ | refine stc ?_); try simp only [go_sem]) | (with_reducible first | refine stp ?_ | (refine hK' _ ?_; clear hK' K') | refine kN kl64 fun K hK => ?_ | refine kO fun K hK => ?_) | (refine xS rfl fun K' hK' => ?_; simp only [go_sem]) | (refine qS rfl fun K' hK' => ?_; simp only [go_sem]) | refine iB ?_ | (with_reducible refine pw_seq_tailK kl64 G_ok 0 11 mixed (by kernel_rfl) (fun K hK => ?_); simp only [List.take_succ_cons, List.take_zero, List.drop_succ_cons, List.drop_zero]) | (with_reducible refine pw_seq_drawK kl64 G_ok mixed (by kernel_rfl) (fun K hK => ?_)) | (with_reducible refine pw_draw G_ok mixed (by kernel_rfl) ?_) | (with_reducible refine pK_mk ?_ ?_ <;> (intro hc; (try simp only [go_sem]); (try simp at hc); try (exfalso; omega))) | with_reducible refine And.intro (by first | omega | (unfold inI; omega)) ?_)
      all_goals first
        | (exfalso; omega)
        | ((refine retQ_ret rfl (by simp only [hilk, retL, ret1, hget, lk, List.length_map, List.length_nil, List.length_append, List.length_take, if_true, if_false, Nat.reduceEqDiff, Nat.reduceBEq, Bool.false_eq_true, Option.some.injEq]; rfl) (by simp [rowsOf, lk]) ?_); rw [hr])
end Go.Proofs.YtphakidbddamfaaGreat

/-
  Inquiries: AreInquiries, ItemsAfter, AsHistory, the program's functions and the reference's, in the abstract machine.
-/
set_option linter.unusedSimpArgs false
set_option linter.unusedVariables false
set_option maxHeartbeats 2000000
set_option maxRecDepth 100000
namespace Go.Proofs.YtphakidbddamfaaGreat
open Go.ChangeShapes Go.WideShapes Go.ChangeAt Go.RowKit Go.Deep

theorem rvI_data (l : List ItemD) : (rvI l).data = .d (.lst 3 (l.map ItemD.dat)) := by
  unfold rvI
  split
  · rename_i h; rw [List.length_eq_zero_iff.1 h]; rfl
  · rfl
theorem eq_dataI {P : Program} {f : FuncId} {args : List PV} {rs : List RV} (h : FnEq P f args rs) : FnEq P f args (rs.map RV.data) := FnOK.data (h.mono fun _ e => by rw [e])
noncomputable def iqW (l : List ItemD) (q : List InquiryD) : List ItemD := if bP (InqsOk l q) = true then itTo l q q.length else []
theorem decR_data (l : List ItemD) (q : List InquiryD) : (decR l q).map RV.data = [.d (.lst 3 ((iqW l q).map ItemD.dat)), .d (.bool (bP (InqsOk l q ∧ q.length ≤ 20)))] := by
  by_cases h : InqsOk l q
  · have e : bP (InqsOk l q ∧ q.length ≤ 20) = decide ((q.length : Int) ≤ 20) := by
      rw [Bool.eq_iff_iff, bP_iff, decide_eq_true_eq]; exact ⟨fun h => by omega, fun h' => ⟨h, by omega⟩⟩
    rw [decR_yes h, iqW, if_pos (bP_true h), e]
    simp only [List.map_cons, List.map_nil, rvI_data]
    rfl
  · rw [decR_no h, iqW, if_neg (by rw [bP_false h]; simp), bP_false fun h' => h h'.1]
    rfl
end Go.Proofs.YtphakidbddamfaaGreat

/-
  Scores after inquiries: the program's functions, in the abstract machine.
-/
set_option linter.unusedSimpArgs false
set_option linter.unusedVariables false
set_option maxHeartbeats 2000000
set_option maxRecDepth 100000
namespace Go.Proofs.YtphakidbddamfaaGreat
open Go.RowKit

theorem stepI_set {l : List ItemD} {i j m : Int} {b : ItemD} (hb : l[i.toNat]? = some b) : (l.map ItemD.dat).set i.toNat [.lst 1 (b.names.map datS), .lst 1 ((b.marks.map datI).set j.toNat [.int .i64 m]), .bool b.late] = (stepI l (oneI i j m)).map ItemD.dat := by
  rw [stepI, if_pos (show (oneI i j m).acc = true from rfl), show (oneI i j m).item.toNat = i.toNat from rfl, hb]
  simp only [List.map_set, setMk, ItemD.dat, datI, oneI]
theorem withCall_ok (l : List ItemD) (i j m : Int) (hn : l.length ≤ 1048576) (hs : ∀ r ∈ l, ItFit 1048576 r) (hv : ItsOk l) (hN : HasNm l i j) : FnEq Tryz.prog 75 [.d (.lst 3 (l.map ItemD.dat)), .d (.int .i64 i), .d (.int .i64 j), .d (.int .i64 m)] [.deep 143 3 ((stepI l (oneI i j m)).map ItemD.dat)] := by
  have hi0 := hN.1
  have hj0 := hN.2.1
  obtain ⟨a, b, mk, ha, hb, hnm, hml, hjn, hmn, hm, hmk⟩ := hN.there (q := []) hv 0
  rw [itTo_zero] at hb
  have hilt : i.toNat < l.length := (List.getElem?_eq_some_iff.1 ha).1
  have hjlt : j.toNat < b.marks.length := by omega
  have h0 : l.length ≠ 0 := by omega
  have hc1 := copyItems_ok l hn hs
  rw [show rvI l = _ from if_neg h0] at hc1
  have hset := stepI_set (j := j) (m := m) hb
  have hln := stepI_len l (oneI i j m)
  refine fn_ok G_ok Tryz.func75 rfl rfl ?_; simp only [Tryz.ntmps75, List.length_cons, List.length_nil, Nat.reduceAdd, Nat.reduceSub, enm]
  repeat' (first | ((with_reducible first | (refine hK _ ?_; clear hK K) | refine stq fun K' hK' => ?_ | refine stc ?_); try simp only [go_sem, List.getElem?_map, Option.map_some, ItemD.dat, hb, hilt, hjlt, hm, datI, List.length_map, hi0, hj0]) | (with_reducible first | refine stp ?_ | (refine hK' _ ?_; clear hK' K') | refine kN kl75 fun K hK => ?_ | refine kO fun K hK => ?_) | ((with_reducible apply CallK.eq); (· with_reducible first | exact hc1); (· simp [RV.flat, D.sc, datI]); try simp only [go_sem, List.getElem?_map, Option.map_some, ItemD.dat, hb, hilt, hjlt, hm, datI, List.length_map, hi0, hj0]) | (with_reducible refine pK_mk ?_ ?_ <;> (intro hc; (try simp only [go_sem, List.getElem?_map, Option.map_some, ItemD.dat, hb, hilt, hjlt, hm, datI, List.length_map, hi0, hj0]); (try simp at hc); try (exfalso; omega))) | with_reducible refine And.intro (by first | omega | (unfold inI; omega)) ?_)
  all_goals first
    | (exfalso; omega)
    | skip
  all_goals first
    | (refine po_store_al (es' := b.marks.map datI) (e1 := datI mk) (ds := [.int .i64 m]) rfl (G_ok _ _ G3) rfl rfl rfl (by simp [alC, hb, ItemD.dat]) (by rw [List.getElem?_map, hm]; rfl) rfl rfl rfl (Nat.le_refl _) ?_)
    | skip
  repeat' (first | ((with_reducible first | (refine hK _ ?_; clear hK K) | refine stq fun K' hK' => ?_ | refine stc ?_); try simp only [go_sem, setC, List.getElem?_map, hb, Option.map_some, ItemD.dat, List.set_cons_succ, List.set_cons_zero, spl, datI, hset]) | (with_reducible first | refine stp ?_ | (refine hK' _ ?_; clear hK' K') | refine kN kl75 fun K hK => ?_ | refine kO fun K hK => ?_) | (with_reducible refine pK_mk ?_ ?_ <;> (intro hc; (try simp only [go_sem, setC, List.getElem?_map, hb, Option.map_some, ItemD.dat, List.set_cons_succ, List.set_cons_zero, spl, datI, hset]); (try simp at hc); try (exfalso; omega))) | with_reducible refine And.intro (by first | omega | (unfold inI; omega)) ?_)
  all_goals first
    | (exfalso; omega)
    | ((refine retQ_ret rfl (by simp only [hln, retL, ret1, hget, lk, List.length_map, List.length_nil, List.length_append, List.length_take, if_true, if_false, Nat.reduceEqDiff, Nat.reduceBEq, Bool.false_eq_true, Option.some.injEq]; rfl) (by simp [rowsOf, lk]) ?_); rfl)
theorem scoreWith_ok (c : CodeD) (p : PerfD) (f : Int) (l : List ItemD) (h : AskP c (withI p l) f) : FnEq Tryz.prog 74 [.agg c.cs, .agg p.cs, .d (.int .i64 f), .d (.lst 3 (l.map ItemD.dat))] [.d (.int .i64 (segW c (withI p l) f))] := by
  have hs0 := segmentScore_ok c (withI p l) f h
  simp only [withI] at hs0
  refine fn_ok G_ok Tryz.func74 rfl rfl ?_; simp only [Tryz.ntmps74, List.length_cons, List.length_nil, Nat.reduceAdd, Nat.reduceSub, enm]
  repeat' (first | ((with_reducible first | (refine hK _ ?_; clear hK K) | refine stq fun K' hK' => ?_ | refine stc ?_); try simp only [go_sem]) | (with_reducible first | refine stp ?_ | (refine hK' _ ?_; clear hK' K') | refine kN kl74 fun K hK => ?_ | refine kO fun K hK => ?_) | ((with_reducible apply CallK.eq); (· with_reducible first | exact hs0); (· simp [RV.flat, D.sc, datI]); try simp only [go_sem]) | (with_reducible refine pK_mk ?_ ?_ <;> (intro hc; (try simp only [go_sem]); (try simp at hc); try (exfalso; omega))) | with_reducible refine And.intro (by first | omega | (unfold inI; omega)) ?_)
  all_goals first
    | (exfalso; omega)
    | (refine retQ_ret rfl rfl (by simp [rowsOf, lk]) ?_; rfl)
theorem impl_ScoreAfter_ok (c : CodeD) (p : PerfD) (f : Int) (q : List InquiryD) (hcf : CdFit 1048576 c) (hpf : PfFit 1048576 p) (hq : q.length ≤ 1048576) : FnEq Tryz.prog 21 [.agg c.cs, .agg p.cs, .d (.int .i64 f), .d (.lst 5 (q.map InquiryD.dat))] [.d (.int .i64 ((ansScoreAfter c p f q).getD 0)), .d (.bool (ansScoreAfter c p f q).isSome)] := by
  have hs0 := canScore_ok c p f hcf hpf
  refine fn_ok G_ok Tryz.func21 rfl rfl ?_; simp only [Tryz.ntmps21, List.length_cons, List.length_nil, Nat.reduceAdd, Nat.reduceSub, enm]
  by_cases hA : AskP c p f
  · have hb := bP_true hA
    have hd := eq_dataI (decided_ok p.items q hpf.1.1 hpf.1.2 hA.1.2.1 (by omega))
    rw [decR_data] at hd
    by_cases hI : InqsOk p.items q ∧ q.length ≤ 20
    · have hb2 := bP_true hI
      rw [show ansScoreAfter c p f q = _ from optP_pos ⟨hA, hI⟩]
      have hw : iqW p.items q = itTo p.items q q.length := if_pos (bP_true hI.1)
      rw [hw] at hd
      have hs1 := scoreWith_ok c p f _ (ask_itTo hA hI.1)
      repeat' (first | ((with_reducible first | (refine hK _ ?_; clear hK K) | refine stq fun K' hK' => ?_ | refine stc ?_); try simp only [go_sem, hb, hb2]) | (with_reducible first | refine stp ?_ | (refine hK' _ ?_; clear hK' K') | refine kN kl21 fun K hK => ?_ | refine kO fun K hK => ?_) | ((with_reducible apply CallK.eq); (· with_reducible first | exact hs0 | exact hd | exact hs1); (· simp [RV.flat, D.sc, datI]); try simp only [go_sem, hb, hb2]) | (with_reducible refine pK_mk ?_ ?_ <;> (intro hc; (try simp only [go_sem, hb, hb2]); (try simp at hc); try (exfalso; omega))) | with_reducible refine And.intro (by first | omega | (unfold inI; omega)) ?_)
      all_goals first
        | (exfalso; omega)
        | (refine retQ_ret rfl rfl (by simp [rowsOf, lk]) ?_; rfl)
    · have hb2 := bP_false hI
      rw [show ansScoreAfter c p f q = _ from optP_neg fun h => hI h.2]
      repeat' (first | ((with_reducible first | (refine hK _ ?_; clear hK K) | refine stq fun K' hK' => ?_ | refine stc ?_); try simp only [go_sem, hb, hb2]) | (with_reducible first | refine stp ?_ | (refine hK' _ ?_; clear hK' K') | refine kN kl21 fun K hK => ?_ | refine kO fun K hK => ?_) | ((with_reducible apply CallK.eq); (· with_reducible first | exact hs0 | exact hd); (· simp [RV.flat, D.sc, datI]); try simp only [go_sem, hb, hb2]) | (with_reducible refine pK_mk ?_ ?_ <;> (intro hc; (try simp only [go_sem, hb, hb2]); (try simp at hc); try (exfalso; omega))) | with_reducible refine And.intro (by first | omega | (unfold inI; omega)) ?_)
      all_goals first
        | (exfalso; omega)
        | (refine retQ_ret rfl rfl (by simp [rowsOf, lk]) ?_; rfl)
  · have hb := bP_false hA
    rw [show ansScoreAfter c p f q = _ from optP_neg fun h => hA h.1]
    repeat' (first | ((with_reducible first | (refine hK _ ?_; clear hK K) | refine stq fun K' hK' => ?_ | refine stc ?_); try simp only [go_sem, hb]) | (with_reducible first | refine stp ?_ | (refine hK' _ ?_; clear hK' K') | refine kN kl21 fun K hK => ?_ | refine kO fun K hK => ?_) | ((with_reducible apply CallK.eq); (· with_reducible first | exact hs0); (· simp [RV.flat, D.sc, datI]); try simp only [go_sem, hb]) | (with_reducible refine pK_mk ?_ ?_ <;> (intro hc; (try simp only [go_sem, hb]); (try simp at hc); try (exfalso; omega))) | with_reducible refine And.intro (by first | omega | (unfold inI; omega)) ?_)
    all_goals first
      | (exfalso; omega)
      | (refine retQ_ret rfl rfl (by simp [rowsOf, lk]) ?_; rfl)
end Go.Proofs.YtphakidbddamfaaGreat
