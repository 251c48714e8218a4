/-
  Items after inquiries: the program's function and the reference's, in the abstract machine.
-/
import Derived.Test.YtphakidbddamfaaGreatZIc
import Derived.Test.YtphakidbddamfaaGreatZOrd
set_option linter.unusedSimpArgs false
set_option linter.unusedVariables false
set_option maxHeartbeats 2000000
set_option maxRecDepth 100000
namespace Go.Proofs.YtphakidbddamfaaGreat
open Go.RowKit

theorem hasNameAt_ok (l : List ItemD) (i j : Int) (hn : l.length ≤ 9223372036854775807) (hs : ∀ r ∈ l, ItFit 9223372036854775807 r) : FnEq Tryz.prog 127 [.d (.lst 3 (l.map ItemD.dat)), .d (.int .i64 i), .d (.int .i64 j)] [.d (.bool (bP (HasNm l i j)))] := by
  refine fn_ok G_ok Tryz.func127 rfl rfl ?_; simp only [Tryz.ntmps127, List.length_cons, List.length_nil, Nat.reduceAdd, Nat.reduceSub, enm]
  by_cases hi : 0 ≤ i ∧ i < (l.length : Int)
  · have hlt : i.toNat < l.length := by omega
    have hx := List.getElem?_eq_getElem hlt
    generalize l[i.toNat] = x at hx
    obtain ⟨hf1, hf2, hf3⟩ := hs x (List.mem_of_getElem? hx)
    have hb : (decide (0 ≤ i) && decide (i ≤ (l.length : Int) - 1)) = true := by simp; omega
    have e : bP (HasNm l i j) = (decide (0 ≤ j) && decide (j ≤ (x.names.length : Int) - 1)) := by
      rw [Bool.eq_iff_iff, bP_iff]; simp only [Bool.and_eq_true, decide_eq_true_eq]; constructor
      · rintro ⟨h1, h2, y, hy, h3⟩; rw [hx] at hy; cases hy; omega
      · rintro ⟨h1, h2⟩; exact ⟨hi.1, h1, x, hx, by omega⟩
    repeat' (first | ((with_reducible first | (refine hK _ ?_; clear hK K) | refine stq fun K' hK' => ?_ | refine stc ?_); try simp only [go_sem, List.getElem?_map, hx, Option.map_some, ItemD.dat, hb, hlt, hi]) | (with_reducible first | refine stp ?_ | (refine hK' _ ?_; clear hK' K') | refine kN kl127 fun K hK => ?_ | refine kO fun K hK => ?_) | (refine xS rfl fun K' hK' => ?_; simp only [go_sem, List.getElem?_map, hx, Option.map_some, ItemD.dat, hb, hlt, hi]) | ((with_reducible apply CallK.eq); (· with_reducible first | exact within_ok _ _ _); (· simp [RV.flat, D.sc, datI]); try simp only [go_sem, List.getElem?_map, hx, Option.map_some, ItemD.dat, hb, hlt, hi]) | (with_reducible refine pK_mk ?_ ?_ <;> (intro hc; (try simp only [go_sem, List.getElem?_map, hx, Option.map_some, ItemD.dat, hb, hlt, hi]); (try simp at hc); try (exfalso; omega))) | with_reducible refine And.intro (by first | omega | (unfold inI; omega)) ?_)
    all_goals first
      | (exfalso; omega)
      | (refine retQ_ret rfl rfl (by simp [rowsOf, lk]) ?_; rw [e])
  · have hb : (decide (0 ≤ i) && decide (i ≤ (l.length : Int) - 1)) = false := by
      rw [Bool.eq_false_iff]; intro h; simp at h; omega
    have e : bP (HasNm l i j) = false := bP_false fun h => hi ⟨h.1, by obtain ⟨h1, h2, y, hy, _⟩ := h; have := (List.getElem?_eq_some_iff.1 hy).1; omega⟩
    repeat' (first | ((with_reducible first | (refine hK _ ?_; clear hK K) | refine stq fun K' hK' => ?_ | refine stc ?_); try simp only [go_sem, hb]) | (with_reducible first | refine stp ?_ | (refine hK' _ ?_; clear hK' K') | refine kN kl127 fun K hK => ?_ | refine kO fun K hK => ?_) | (refine xS rfl fun K' hK' => ?_; simp only [go_sem, hb]) | ((with_reducible apply CallK.eq); (· with_reducible first | exact within_ok _ _ _); (· simp [RV.flat, D.sc, datI]); try simp only [go_sem, hb]) | (with_reducible refine pK_mk ?_ ?_ <;> (intro hc; (try simp only [go_sem, hb]); (try simp at hc); try (exfalso; omega))) | with_reducible refine And.intro (by first | omega | (unfold inI; omega)) ?_)
    all_goals first
      | (exfalso; omega)
      | (refine retQ_ret rfl rfl (by simp [rowsOf, lk]) ?_; rw [e])
theorem hiName_ok (l : List ItemD) (i j : Int) (hn : l.length ≤ 9223372036854775807) (hs : ∀ r ∈ l, ItFit 9223372036854775807 r) : FnEq Tryz.prog 121 [.d (.lst 3 (l.map ItemD.dat)), .d (.int .i64 i), .d (.int .i64 j)] [.d (.bool (bP (HasNm l i j)))] := by
  refine fn_ok G_ok Tryz.func121 rfl rfl ?_; simp only [Tryz.ntmps121, List.length_cons, List.length_nil, Nat.reduceAdd, Nat.reduceSub, enm]
  by_cases hi : 0 ≤ i ∧ i < (l.length : Int)
  · have hlt : i.toNat < l.length := by omega
    have hx := List.getElem?_eq_getElem hlt
    generalize l[i.toNat] = x at hx
    obtain ⟨hf1, hf2, hf3⟩ := hs x (List.mem_of_getElem? hx)
    have hb : (decide (0 ≤ i) && decide (i ≤ (l.length : Int) - 1)) = true := by simp; omega
    have e : bP (HasNm l i j) = (decide (0 ≤ j) && decide (j ≤ (x.names.length : Int) - 1)) := by
      rw [Bool.eq_iff_iff, bP_iff]; simp only [Bool.and_eq_true, decide_eq_true_eq]; constructor
      · rintro ⟨h1, h2, y, hy, h3⟩; rw [hx] at hy; cases hy; omega
      · rintro ⟨h1, h2⟩; exact ⟨hi.1, h1, x, hx, by omega⟩
    repeat' (first | ((with_reducible first | (refine hK _ ?_; clear hK K) | refine stq fun K' hK' => ?_ | refine stc ?_); try simp only [go_sem, List.getElem?_map, hx, Option.map_some, ItemD.dat, hb, hlt, hi]) | (with_reducible first | refine stp ?_ | (refine hK' _ ?_; clear hK' K') | refine kN kl121 fun K hK => ?_ | refine kO fun K hK => ?_) | (refine xS rfl fun K' hK' => ?_; simp only [go_sem, List.getElem?_map, hx, Option.map_some, ItemD.dat, hb, hlt, hi]) | ((with_reducible apply CallK.eq); (· with_reducible first | exact l1In_ok _ _ _); (· simp [RV.flat, D.sc, datI]); try simp only [go_sem, List.getElem?_map, hx, Option.map_some, ItemD.dat, hb, hlt, hi]) | (with_reducible refine pK_mk ?_ ?_ <;> (intro hc; (try simp only [go_sem, List.getElem?_map, hx, Option.map_some, ItemD.dat, hb, hlt, hi]); (try simp at hc); try (exfalso; omega))) | with_reducible refine And.intro (by first | omega | (unfold inI; omega)) ?_)
    all_goals first
      | (exfalso; omega)
      | (refine retQ_ret rfl rfl (by simp [rowsOf, lk]) ?_; rw [e])
  · have hb : (decide (0 ≤ i) && decide (i ≤ (l.length : Int) - 1)) = false := by
      rw [Bool.eq_false_iff]; intro h; simp at h; omega
    have e : bP (HasNm l i j) = false := bP_false fun h => hi ⟨h.1, by obtain ⟨h1, h2, y, hy, _⟩ := h; have := (List.getElem?_eq_some_iff.1 hy).1; omega⟩
    repeat' (first | ((with_reducible first | (refine hK _ ?_; clear hK K) | refine stq fun K' hK' => ?_ | refine stc ?_); try simp only [go_sem, hb]) | (with_reducible first | refine stp ?_ | (refine hK' _ ?_; clear hK' K') | refine kN kl121 fun K hK => ?_ | refine kO fun K hK => ?_) | (refine xS rfl fun K' hK' => ?_; simp only [go_sem, hb]) | ((with_reducible apply CallK.eq); (· with_reducible first | exact l1In_ok _ _ _); (· simp [RV.flat, D.sc, datI]); try simp only [go_sem, hb]) | (with_reducible refine pK_mk ?_ ?_ <;> (intro hc; (try simp only [go_sem, hb]); (try simp at hc); try (exfalso; omega))) | with_reducible refine And.intro (by first | omega | (unfold inI; omega)) ?_)
    all_goals first
      | (exfalso; omega)
      | (refine retQ_ret rfl rfl (by simp [rowsOf, lk]) ?_; rw [e])
theorem isMark_ok (n : Int) : FnEq Tryz.prog 128 [.d (.int .i64 n)] [.d (.bool (decide (0 ≤ n) && decide (n ≤ 3)))] := by
  refine fn_ok G_ok Tryz.func128 rfl rfl ?_; simp only [Tryz.ntmps128, List.length_cons, List.length_nil, Nat.reduceAdd, Nat.reduceSub, enm]
  repeat' (first | ((with_reducible first | (refine hK _ ?_; clear hK K) | refine stq fun K' hK' => ?_ | refine stc ?_); try simp only [go_sem]) | (with_reducible first | refine stp ?_ | (refine hK' _ ?_; clear hK' K') | refine kN kl128 fun K hK => ?_ | refine kO fun K hK => ?_) | ((with_reducible apply CallK.eq); (· with_reducible first | exact within_ok _ _ _); (· simp [RV.flat, D.sc, datI]); try simp only [go_sem]) | (with_reducible refine pK_mk ?_ ?_ <;> (intro hc; (try simp only [go_sem]); (try simp at hc); try (exfalso; omega))) | with_reducible refine And.intro (by first | omega | (unfold inI; omega)) ?_)
  refine retQ_ret rfl rfl (by simp [rowsOf, lk]) ?_; rfl
/-- what comes of a list and inquiries -/
noncomputable def decR (l : List ItemD) (q : List InquiryD) : List RV := if bP (InqsOk l q) = true then [rvI (itTo l q q.length), .d (.bool (decide ((q.length : Int) ≤ 20)))] else [.row 143 3 [], .d (.bool false)]
theorem decR_yes {l : List ItemD} {q : List InquiryD} (h : InqsOk l q) : decR l q = [rvI (itTo l q q.length), .d (.bool (decide ((q.length : Int) ≤ 20)))] := if_pos (bP_true h)
theorem decR_no {l : List ItemD} {q : List InquiryD} (h : ¬ InqsOk l q) : decR l q = [.row 143 3 [], .d (.bool false)] := if_neg (by rw [bP_false h]; simp)
theorem prevT_zero (q : List InquiryD) : prevT q 0 = 0 := rfl
theorem prevT_pos {q : List InquiryD} {k : Nat} {p : InquiryD} (h0 : 0 < k) (hp : q[k - 1]? = some p) : prevT q k = p.tick := by
  unfold prevT; rw [if_neg (by omega), List.getD_eq_getElem?_getD, hp]; rfl
theorem inqAt_iff {l : List ItemD} {q : List InquiryD} {k : Nat} {x : InquiryD} (hN : HasNm l x.item x.name) : InqAt l q k x ↔ (0 ≤ x.tick ∧ x.tick ≤ 100000 ∧ prevT q k ≤ x.tick ∧ 0 ≤ x.mark ∧ x.mark ≤ 3 ∧ mkAt (itTo l q k) x.item.toNat x.name.toNat ≠ x.mark) := by
  unfold InqAt
  constructor
  · rintro ⟨h1, h2, h3, _, h4, h5, h6⟩; exact ⟨h1, h2, h3, h4, h5, h6⟩
  · rintro ⟨h1, h2, h3, h4, h5, h6⟩; exact ⟨h1, h2, h3, hN, h4, h5, h6⟩
theorem itTo_acc {l : List ItemD} {q : List InquiryD} {k : Nat} {x : InquiryD} {b : ItemD} (hx : q[k]? = some x) (hb : (itTo l q k)[x.item.toNat]? = some b) (ha : x.acc = true) : ((itTo l q k).map ItemD.dat).set x.item.toNat [.lst 1 (b.names.map datS), .lst 1 ((b.marks.map datI).set x.name.toNat [.int .i64 x.mark]), .bool b.late] = (itTo l q (k + 1)).map ItemD.dat := by
  rw [itTo_succ hx, stepI, if_pos ha, hb]
  simp only [List.map_set, setMk, ItemD.dat, datI]
theorem itTo_not {l : List ItemD} {q : List InquiryD} {k : Nat} {x : InquiryD} (hx : q[k]? = some x) (ha : x.acc = false) : itTo l q (k + 1) = itTo l q k := by
  rw [itTo_succ hx, stepI, if_neg (by rw [ha]; simp)]
set_option maxHeartbeats 8000000 in
theorem decided_ok (l : List ItemD) (q : List InquiryD) (hn : l.length ≤ 1048576) (hs : ∀ r ∈ l, ItFit 1048576 r) (hv : ItsOk l) (hq : q.length ≤ 9223372036854775807) : FnEq Tryz.prog 73 [.d (.lst 3 (l.map ItemD.dat)), .d (.lst 5 (q.map InquiryD.dat))] (decR l q) := by
  have hs63 : ∀ r ∈ l, ItFit 9223372036854775807 r := fun r hr => (hs r hr).mono (by decide)
  refine fn_ok G_ok Tryz.func73 rfl rfl ?_; simp only [Tryz.ntmps73, List.length_cons, List.length_nil, Nat.reduceAdd, Nat.reduceSub, enm]
  by_cases h0 : l.length = 0
  · have hc1 := copyItems_ok l hn hs
    rw [show rvI l = _ from if_pos h0] at hc1
    have hn63 : l.length ≤ 9223372036854775807 := by omega
    have hnh : ∀ i j, ¬ HasNm l i j := fun i j h => by obtain ⟨_, _, y, hy, _⟩ := h; have := (List.getElem?_eq_some_iff.1 hy).1; omega
    repeat' (first | ((with_reducible first | (refine hK _ ?_; clear hK K) | refine stq fun K' hK' => ?_ | refine stc ?_); try simp only [go_sem]) | (with_reducible first | refine stp ?_ | (refine hK' _ ?_; clear hK' K') | refine kN kl73 fun K hK => ?_ | refine kO fun K hK => ?_) | (refine xS rfl fun K' hK' => ?_; simp only [go_sem]) | (refine qS rfl fun K' hK' => ?_; simp only [go_sem]) | ((with_reducible first | apply CallK.eq | apply CallQ.eqs); (· with_reducible first | exact hc1); (· first | exact rfl | (simp [RV.flat, D.sc, datI]; done)); try simp only [go_sem]) | refine iB ?_ | (with_reducible refine pw_seq_drawK kl73 G_ok mixed (by kernel_rfl) (fun K hK => ?_)) | (with_reducible refine pw_draw G_ok mixed (by kernel_rfl) ?_) | (with_reducible refine pK_mk ?_ ?_ <;> (intro hc; (try simp only [go_sem]); (try simp at hc); try (exfalso; omega))) | with_reducible refine And.intro (by first | omega | (unfold inI; omega)) ?_)
    refine pw_loop_over [4, 5, 7, 8, 9, 14, 15, 16, 17, 18, 19, 20, 21, 22, 23, 24, 25, 26, 27, 28, 29, 30, 31, 32, 33, 34, 35, 36, 37, 38, 39, 40, 41, 42, 43, 44, 45, 46, 47, 48, 49, 50, 51, 52, 53, 54, 55, 56, 57, 58, 59, 60, 61, 62, 63, 64, 65, 66, 67, 68, 69, 70, 71, 72, 73, 74, 75] (fun k : Nat => [(14, .d (.int .i64 (k : Int))), (6, .row 0 0)]) (fun k : Nat => [(0, .row 143 3 [])]) 1 (fun k : Nat => k ≤ q.length ∧ k = 0) (fun k : Nat => q.length - k) 0 ⟨Nat.zero_le _, rfl⟩ (fits_mk [] (by simp [renL_d, bdL_d, sg, over, wipe, wl, memN, ins, rm, lk, fitFr, fit1, ren, renL, bd, bdL, app, fitHp, hget, renB, bdB] <;> omega)) ?_
    rintro k ⟨hk, hk0⟩
    simp only [over, wipe, wl, memN, ins, rm, if_true, if_false, Nat.reduceEqDiff, Bool.false_eq_true, reduceCtorEq]
    by_cases hlt : k < q.length
    · have hx := List.getElem?_eq_getElem hlt
      generalize q[k] = x at hx
      have hNb := bP_false (hnh x.item x.name)
      have hA : ¬ InqAt l q k x := fun h => hnh _ _ h.2.2.2.1
      repeat' (first | ((with_reducible first | (refine hK _ ?_; clear hK K) | refine stq fun K' hK' => ?_ | refine stc ?_); try simp only [go_sem, List.getElem?_map, hx, hNb, Option.map_some, InquiryD.dat, datI, List.length_map]) | (with_reducible first | refine stp ?_ | (refine hK' _ ?_; clear hK' K') | refine kN kl73 fun K hK => ?_ | refine kO fun K hK => ?_) | (refine xS rfl fun K' hK' => ?_; simp only [go_sem, List.getElem?_map, hx, hNb, Option.map_some, InquiryD.dat, datI, List.length_map]) | (refine qS rfl fun K' hK' => ?_; simp only [go_sem, List.getElem?_map, hx, hNb, Option.map_some, InquiryD.dat, datI, List.length_map]) | ((with_reducible first | apply CallK.eq | apply CallQ.eqs); (· with_reducible first | exact isTick_ok _ | exact hasNameAt_ok l x.item x.name hn63 hs63 | exact isMark_ok _); (· first | exact rfl | (simp [RV.flat, D.sc, datI]; done)); try simp only [go_sem, List.getElem?_map, hx, hNb, Option.map_some, InquiryD.dat, datI, List.length_map]) | refine iB ?_ | (with_reducible refine pw_seq_drawK kl73 G_ok mixed (by kernel_rfl) (fun K hK => ?_)) | (with_reducible refine pw_draw G_ok mixed (by kernel_rfl) ?_) | (with_reducible refine pK_mk ?_ ?_ <;> (intro hc; (try simp only [go_sem, List.getElem?_map, hx, hNb, Option.map_some, InquiryD.dat, datI, List.length_map]); (try simp at hc); try (exfalso; omega))) | with_reducible refine And.intro (by first | omega | (unfold inI; omega)) ?_)
      all_goals first
        | (exfalso; omega)
        | ((refine retQ_ret rfl (by simp only [h0, retL, ret1, hget, lk, List.length_map, List.length_nil, List.length_append, List.length_take, if_true, if_false, Nat.reduceEqDiff, Nat.reduceBEq, Bool.false_eq_true, Option.some.injEq]; rfl) (by simp [rowsOf, lk]) ?_); exact (decR_no fun h => hA (h _ x hx)).symm)
    · have hq0 : q = [] := List.length_eq_zero_iff.1 (by omega)
      have hr := decR_yes (l := l) (q := q) (fun j x hx => by rw [hq0] at hx; simp at hx)
      have hil := itTo_len l q q.length
      rw [show rvI (itTo l q q.length) = _ from if_pos (by omega)] at hr
      repeat' (first | ((with_reducible first | (refine hK _ ?_; clear hK K) | refine stq fun K' hK' => ?_ | refine stc ?_); try simp only [go_sem]) | (with_reducible first | refine stp ?_ | (refine hK' _ ?_; clear hK' K') | refine kN kl73 fun K hK => ?_ | refine kO fun K hK => ?_) | (refine xS rfl fun K' hK' => ?_; simp only [go_sem]) | (refine qS rfl fun K' hK' => ?_; simp only [go_sem]) | refine iB ?_ | (with_reducible refine pw_seq_drawK kl73 G_ok mixed (by kernel_rfl) (fun K hK => ?_)) | (with_reducible refine pw_draw G_ok mixed (by kernel_rfl) ?_) | (with_reducible refine pK_mk ?_ ?_ <;> (intro hc; (try simp only [go_sem]); (try simp at hc); try (exfalso; omega))) | with_reducible refine And.intro (by first | omega | (unfold inI; omega)) ?_)
      all_goals first
        | (exfalso; omega)
        | ((refine retQ_ret rfl (by simp only [h0, retL, ret1, hget, lk, List.length_map, List.length_nil, List.length_append, List.length_take, if_true, if_false, Nat.reduceEqDiff, Nat.reduceBEq, Bool.false_eq_true, Option.some.injEq]; rfl) (by simp [rowsOf, lk]) ?_); rw [hr])
  · have hc1 := copyItems_ok l hn hs
    rw [show rvI l = _ from if_neg h0] at hc1
    have hil := itTo_len l q
    have hn63 : l.length ≤ 9223372036854775807 := by omega
    repeat' (first | ((with_reducible first | (refine hK _ ?_; clear hK K) | refine stq fun K' hK' => ?_ | refine stc ?_); try simp only [go_sem]) | (with_reducible first | refine stp ?_ | (refine hK' _ ?_; clear hK' K') | refine kN kl73 fun K hK => ?_ | refine kO fun K hK => ?_) | (refine xS rfl fun K' hK' => ?_; simp only [go_sem]) | (refine qS rfl fun K' hK' => ?_; simp only [go_sem]) | ((with_reducible first | apply CallK.eq | apply CallQ.eqs); (· with_reducible first | exact hc1); (· first | exact rfl | (simp [RV.flat, D.sc, datI]; done)); try simp only [go_sem]) | refine iB ?_ | (with_reducible refine pw_seq_drawK kl73 G_ok mixed (by kernel_rfl) (fun K hK => ?_)) | (with_reducible refine pw_draw G_ok mixed (by kernel_rfl) ?_) | (with_reducible refine pK_mk ?_ ?_ <;> (intro hc; (try simp only [go_sem]); (try simp at hc); try (exfalso; omega))) | with_reducible refine And.intro (by first | omega | (unfold inI; omega)) ?_)
    refine pw_loop_over [4, 5, 7, 8, 9, 14, 15, 16, 17, 18, 19, 20, 21, 22, 23, 24, 25, 26, 27, 28, 29, 30, 31, 32, 33, 34, 35, 36, 37, 38, 39, 40, 41, 42, 43, 44, 45, 46, 47, 48, 49, 50, 51, 52, 53, 54, 55, 56, 57, 58, 59, 60, 61, 62, 63, 64, 65, 66, 67, 68, 69, 70, 71, 72, 73, 74, 75] (fun k : Nat => [(14, .d (.int .i64 (k : Int))), (6, .row 0 l.length)]) (fun k : Nat => [(0, .deep 0 143 3 ((itTo l q k).map ItemD.dat))]) 1 (fun k : Nat => k ≤ q.length ∧ Upto (InqAt l q) q k) (fun k : Nat => q.length - k) 0 ⟨Nat.zero_le _, Upto.zero _ _⟩ (fits_mk [] (by simp [renL_d, bdL_d, sg, over, wipe, wl, memN, ins, rm, lk, fitFr, fit1, ren, renL, bd, bdL, app, fitHp, hget, renB, bdB, itTo_zero] <;> omega)) ?_
    rintro k ⟨hk, hJ⟩
    simp only [over, wipe, wl, memN, ins, rm, if_true, if_false, Nat.reduceEqDiff, Bool.false_eq_true, reduceCtorEq]
    have hilk := hil k
    by_cases hlt : k < q.length
    · have hx := List.getElem?_eq_getElem hlt
      generalize q[k] = x at hx
      by_cases hN : HasNm l x.item x.name
      · have hNb := bP_true hN
        have hiff := inqAt_iff (q := q) (k := k) hN
        obtain ⟨a, b, m, ha, hb, hnm, hml, hjn, hmn, hm, hmk⟩ := hN.there (q := q) hv k
        rw [hmk] at hiff
        have hi0 := hN.1
        have hj0 := hN.2.1
        have hilt : x.item.toNat < l.length := (List.getElem?_eq_some_iff.1 ha).1
        have hjlt : x.name.toNat < b.marks.length := by omega
        rcases Nat.eq_zero_or_pos k with hk0 | hk0
        · have hpz : prevT q k = 0 := by rw [hk0]; rfl
          rw [hpz] at hiff
          repeat' (first | ((with_reducible first | (refine hK _ ?_; clear hK K) | refine stq fun K' hK' => ?_ | refine stc ?_); try simp only [go_sem, List.getElem?_map, hx, hNb, Option.map_some, InquiryD.dat, ItemD.dat, hb, hilk, hilt, hjlt, hm, datI, List.length_map, hi0, hj0]) | (with_reducible first | refine stp ?_ | (refine hK' _ ?_; clear hK' K') | refine kN kl73 fun K hK => ?_ | refine kO fun K hK => ?_) | (refine xS rfl fun K' hK' => ?_; simp only [go_sem, List.getElem?_map, hx, hNb, Option.map_some, InquiryD.dat, ItemD.dat, hb, hilk, hilt, hjlt, hm, datI, List.length_map, hi0, hj0]) | (refine qS rfl fun K' hK' => ?_; simp only [go_sem, List.getElem?_map, hx, hNb, Option.map_some, InquiryD.dat, ItemD.dat, hb, hilk, hilt, hjlt, hm, datI, List.length_map, hi0, hj0]) | ((with_reducible first | apply CallK.eq | apply CallQ.eqs); (· with_reducible first | exact isTick_ok _ | exact hasNameAt_ok l x.item x.name hn63 hs63 | exact isMark_ok _); (· first | exact rfl | (simp [RV.flat, D.sc, datI]; done)); try simp only [go_sem, List.getElem?_map, hx, hNb, Option.map_some, InquiryD.dat, ItemD.dat, hb, hilk, hilt, hjlt, hm, datI, List.length_map, hi0, hj0]) | refine iB ?_ | (with_reducible refine pw_seq_drawK kl73 G_ok mixed (by kernel_rfl) (fun K hK => ?_)) | (with_reducible refine pw_draw G_ok mixed (by kernel_rfl) ?_) | (with_reducible refine pK_mk ?_ ?_ <;> (intro hc; (try simp only [go_sem, List.getElem?_map, hx, hNb, Option.map_some, InquiryD.dat, ItemD.dat, hb, hilk, hilt, hjlt, hm, datI, List.length_map, hi0, hj0]); (try simp at hc); try (exfalso; omega))) | with_reducible refine And.intro (by first | omega | (unfold inI; omega)) ?_)
          all_goals first
            | (exfalso; omega)
            | ((refine retQ_ret rfl (by simp only [hilk, retL, ret1, hget, lk, List.length_map, List.length_nil, List.length_append, List.length_take, if_true, if_false, Nat.reduceEqDiff, Nat.reduceBEq, Bool.false_eq_true, Option.some.injEq]; rfl) (by simp [rowsOf, lk]) ?_); exact (decR_no fun h => absurd (h _ x hx) (by rw [hiff]; omega)).symm)
            | skip
          all_goals first
            | (refine po_store_al (es' := b.marks.map datI) (e1 := datI m) (ds := [.int .i64 x.mark]) rfl (G_ok _ _ G3) rfl rfl rfl (by simp [alC, hb, ItemD.dat]) (by rw [List.getElem?_map, hm]; rfl) rfl rfl rfl (Nat.le_refl _) ?_)
            | skip
          all_goals
            (by_cases hacc : x.acc = true)
          all_goals first
            | (exfalso; simp_all; done)
            | skip
          all_goals
            have hA : InqAt l q k x := hiff.2 (by omega)
            have hJ' := hJ.succ hx hA
          all_goals first
            | (have hset := itTo_acc hx hb hacc
               repeat' (first | ((with_reducible first | (refine hK _ ?_; clear hK K) | refine stq fun K' hK' => ?_ | refine stc ?_); try simp only [go_sem, setC, List.getElem?_map, hb, Option.map_some, ItemD.dat, List.set_cons_succ, List.set_cons_zero, spl, datI, hset]) | (with_reducible first | refine stp ?_ | (refine hK' _ ?_; clear hK' K') | refine kN kl73 fun K hK => ?_ | refine kO fun K hK => ?_) | (refine xS rfl fun K' hK' => ?_; simp only [go_sem, setC, List.getElem?_map, hb, Option.map_some, ItemD.dat, List.set_cons_succ, List.set_cons_zero, spl, datI, hset]) | (refine qS rfl fun K' hK' => ?_; simp only [go_sem, setC, List.getElem?_map, hb, Option.map_some, ItemD.dat, List.set_cons_succ, List.set_cons_zero, spl, datI, hset]) | refine iB ?_ | (with_reducible refine pw_seq_drawK kl73 G_ok mixed (by kernel_rfl) (fun K hK => ?_)) | (with_reducible refine pw_draw G_ok mixed (by kernel_rfl) ?_) | (with_reducible refine pK_mk ?_ ?_ <;> (intro hc; (try simp only [go_sem, setC, List.getElem?_map, hb, Option.map_some, ItemD.dat, List.set_cons_succ, List.set_cons_zero, spl, datI, hset]); (try simp at hc); try (exfalso; omega))) | with_reducible refine And.intro (by first | omega | (unfold inI; omega)) ?_)
               exact ⟨k + 1, ⟨by omega, hJ'⟩, by omega, (fits_mk [] (by simp [renL_d, bdL_d, sg, over, wipe, wl, memN, ins, rm, lk, fitFr, fit1, ren, renL, bd, bdL, app, fitHp, hget, renB, bdB] <;> omega))⟩)
            | (have hset := itTo_not (l := l) hx (by simpa using hacc)
               exact ⟨k + 1, ⟨by omega, hJ'⟩, by omega, (fits_mk [] (by simp [renL_d, bdL_d, sg, over, wipe, wl, memN, ins, rm, lk, fitFr, fit1, ren, renL, bd, bdL, app, fitHp, hget, renB, bdB, hset] <;> omega))⟩)
        · have hp := List.getElem?_eq_getElem (show k - 1 < q.length by omega)
          generalize q[k - 1] = p at hp
          have hkt : ((k : Int) - 1).toNat = k - 1 := by omega
          rw [prevT_pos hk0 hp] at hiff
          repeat' (first | ((with_reducible first | (refine hK _ ?_; clear hK K) | refine stq fun K' hK' => ?_ | refine stc ?_); try simp only [go_sem, List.getElem?_map, hx, hNb, Option.map_some, InquiryD.dat, ItemD.dat, hb, hilk, hilt, hjlt, hm, datI, List.length_map, hi0, hj0, hp, hkt]) | (with_reducible first | refine stp ?_ | (refine hK' _ ?_; clear hK' K') | refine kN kl73 fun K hK => ?_ | refine kO fun K hK => ?_) | (refine xS rfl fun K' hK' => ?_; simp only [go_sem, List.getElem?_map, hx, hNb, Option.map_some, InquiryD.dat, ItemD.dat, hb, hilk, hilt, hjlt, hm, datI, List.length_map, hi0, hj0, hp, hkt]) | (refine qS rfl fun K' hK' => ?_; simp only [go_sem, List.getElem?_map, hx, hNb, Option.map_some, InquiryD.dat, ItemD.dat, hb, hilk, hilt, hjlt, hm, datI, List.length_map, hi0, hj0, hp, hkt]) | ((with_reducible first | apply CallK.eq | apply CallQ.eqs); (· with_reducible first | exact isTick_ok _ | exact hasNameAt_ok l x.item x.name hn63 hs63 | exact isMark_ok _); (· first | exact rfl | (simp [RV.flat, D.sc, datI]; done)); try simp only [go_sem, List.getElem?_map, hx, hNb, Option.map_some, InquiryD.dat, ItemD.dat, hb, hilk, hilt, hjlt, hm, datI, List.length_map, hi0, hj0, hp, hkt]) | refine iB ?_ | (with_reducible refine pw_seq_drawK kl73 G_ok mixed (by kernel_rfl) (fun K hK => ?_)) | (with_reducible refine pw_draw G_ok mixed (by kernel_rfl) ?_) | (with_reducible refine pK_mk ?_ ?_ <;> (intro hc; (try simp only [go_sem, List.getElem?_map, hx, hNb, Option.map_some, InquiryD.dat, ItemD.dat, hb, hilk, hilt, hjlt, hm, datI, List.length_map, hi0, hj0, hp, hkt]); (try simp at hc); try (exfalso; omega))) | with_reducible refine And.intro (by first | omega | (unfold inI; omega)) ?_)
          all_goals first
            | (exfalso; omega)
            | ((refine retQ_ret rfl (by simp only [hilk, retL, ret1, hget, lk, List.length_map, List.length_nil, List.length_append, List.length_take, if_true, if_false, Nat.reduceEqDiff, Nat.reduceBEq, Bool.false_eq_true, Option.some.injEq]; rfl) (by simp [rowsOf, lk]) ?_); exact (decR_no fun h => absurd (h _ x hx) (by rw [hiff]; omega)).symm)
            | skip
          all_goals first
            | (refine po_store_al (es' := b.marks.map datI) (e1 := datI m) (ds := [.int .i64 x.mark]) rfl (G_ok _ _ G3) rfl rfl rfl (by simp [alC, hb, ItemD.dat]) (by rw [List.getElem?_map, hm]; rfl) rfl rfl rfl (Nat.le_refl _) ?_)
            | skip
          all_goals
            (by_cases hacc : x.acc = true)
          all_goals first
            | (exfalso; simp_all; done)
            | skip
          all_goals
            have hA : InqAt l q k x := hiff.2 (by omega)
            have hJ' := hJ.succ hx hA
          all_goals first
            | (have hset := itTo_acc hx hb hacc
               repeat' (first | ((with_reducible first | (refine hK _ ?_; clear hK K) | refine stq fun K' hK' => ?_ | refine stc ?_); try simp only [go_sem, setC, List.getElem?_map, hb, Option.map_some, ItemD.dat, List.set_cons_succ, List.set_cons_zero, spl, datI, hset]) | (with_reducible first | refine stp ?_ | (refine hK' _ ?_; clear hK' K') | refine kN kl73 fun K hK => ?_ | refine kO fun K hK => ?_) | (refine xS rfl fun K' hK' => ?_; simp only [go_sem, setC, List.getElem?_map, hb, Option.map_some, ItemD.dat, List.set_cons_succ, List.set_cons_zero, spl, datI, hset]) | (refine qS rfl fun K' hK' => ?_; simp only [go_sem, setC, List.getElem?_map, hb, Option.map_some, ItemD.dat, List.set_cons_succ, List.set_cons_zero, spl, datI, hset]) | refine iB ?_ | (with_reducible refine pw_seq_drawK kl73 G_ok mixed (by kernel_rfl) (fun K hK => ?_)) | (with_reducible refine pw_draw G_ok mixed (by kernel_rfl) ?_) | (with_reducible refine pK_mk ?_ ?_ <;> (intro hc; (try simp only [go_sem, setC, List.getElem?_map, hb, Option.map_some, ItemD.dat, List.set_cons_succ, List.set_cons_zero, spl, datI, hset]); (try simp at hc); try (exfalso; omega))) | with_reducible refine And.intro (by first | omega | (unfold inI; omega)) ?_)
               exact ⟨k + 1, ⟨by omega, hJ'⟩, by omega, (fits_mk [] (by simp [renL_d, bdL_d, sg, over, wipe, wl, memN, ins, rm, lk, fitFr, fit1, ren, renL, bd, bdL, app, fitHp, hget, renB, bdB] <;> omega))⟩)
            | (have hset := itTo_not (l := l) hx (by simpa using hacc)
               exact ⟨k + 1, ⟨by omega, hJ'⟩, by omega, (fits_mk [] (by simp [renL_d, bdL_d, sg, over, wipe, wl, memN, ins, rm, lk, fitFr, fit1, ren, renL, bd, bdL, app, fitHp, hget, renB, bdB, hset] <;> omega))⟩)
      · have hNb := bP_false hN
        have hA : ¬ InqAt l q k x := fun h => hN h.2.2.2.1
        rcases Nat.eq_zero_or_pos k with hk0 | hk0
        · repeat' (first | ((with_reducible first | (refine hK _ ?_; clear hK K) | refine stq fun K' hK' => ?_ | refine stc ?_); try simp only [go_sem, List.getElem?_map, hx, hNb, Option.map_some, InquiryD.dat, datI, List.length_map]) | (with_reducible first | refine stp ?_ | (refine hK' _ ?_; clear hK' K') | refine kN kl73 fun K hK => ?_ | refine kO fun K hK => ?_) | (refine xS rfl fun K' hK' => ?_; simp only [go_sem, List.getElem?_map, hx, hNb, Option.map_some, InquiryD.dat, datI, List.length_map]) | (refine qS rfl fun K' hK' => ?_; simp only [go_sem, List.getElem?_map, hx, hNb, Option.map_some, InquiryD.dat, datI, List.length_map]) | ((with_reducible first | apply CallK.eq | apply CallQ.eqs); (· with_reducible first | exact isTick_ok _ | exact hasNameAt_ok l x.item x.name hn63 hs63 | exact isMark_ok _); (· first | exact rfl | (simp [RV.flat, D.sc, datI]; done)); try simp only [go_sem, List.getElem?_map, hx, hNb, Option.map_some, InquiryD.dat, datI, List.length_map]) | refine iB ?_ | (with_reducible refine pw_seq_drawK kl73 G_ok mixed (by kernel_rfl) (fun K hK => ?_)) | (with_reducible refine pw_draw G_ok mixed (by kernel_rfl) ?_) | (with_reducible refine pK_mk ?_ ?_ <;> (intro hc; (try simp only [go_sem, List.getElem?_map, hx, hNb, Option.map_some, InquiryD.dat, datI, List.length_map]); (try simp at hc); try (exfalso; omega))) | with_reducible refine And.intro (by first | omega | (unfold inI; omega)) ?_)
          all_goals first
            | (exfalso; omega)
            | ((refine retQ_ret rfl (by simp only [hilk, retL, ret1, hget, lk, List.length_map, List.length_nil, List.length_append, List.length_take, if_true, if_false, Nat.reduceEqDiff, Nat.reduceBEq, Bool.false_eq_true, Option.some.injEq]; rfl) (by simp [rowsOf, lk]) ?_); exact (decR_no fun h => hA (h _ x hx)).symm)
        · have hp := List.getElem?_eq_getElem (show k - 1 < q.length by omega)
          generalize q[k - 1] = p at hp
          have hkt : ((k : Int) - 1).toNat = k - 1 := by omega
          repeat' (first | ((with_reducible first | (refine hK _ ?_; clear hK K) | refine stq fun K' hK' => ?_ | refine stc ?_); try simp only [go_sem, List.getElem?_map, hx, hNb, Option.map_some, InquiryD.dat, datI, List.length_map, hp, hkt]) | (with_reducible first | refine stp ?_ | (refine hK' _ ?_; clear hK' K') | refine kN kl73 fun K hK => ?_ | refine kO fun K hK => ?_) | (refine xS rfl fun K' hK' => ?_; simp only [go_sem, List.getElem?_map, hx, hNb, Option.map_some, InquiryD.dat, datI, List.length_map, hp, hkt]) | (refine qS rfl fun K' hK' => ?_; simp only [go_sem, List.getElem?_map, hx, hNb, Option.map_some, InquiryD.dat, datI, List.length_map, hp, hkt]) | ((with_reducible first | apply CallK.eq | apply CallQ.eqs); (· with_reducible first | exact isTick_ok _ | exact hasNameAt_ok l x.item x.name hn63 hs63 | exact isMark_ok _); (· first | exact rfl | (simp [RV.flat, D.sc, datI]; done)); try simp only [go_sem, List.getElem?_map, hx, hNb, Option.map_some, InquiryD.dat, datI, List.length_map, hp, hkt]) | refine iB ?_ | (with_reducible refine pw_seq_drawK kl73 G_ok mixed (by kernel_rfl) (fun K hK => ?_)) | (with_reducible refine pw_draw G_ok mixed (by kernel_rfl) ?_) | (with_reducible refine pK_mk ?_ ?_ <;> (intro hc; (try simp only [go_sem, List.getElem?_map, hx, hNb, Option.map_some, InquiryD.dat, datI, List.length_map, hp, hkt]); (try simp at hc); try (exfalso; omega))) | with_reducible refine And.intro (by first | omega | (unfold inI; omega)) ?_)
          all_goals first
            | (exfalso; omega)
            | ((refine retQ_ret rfl (by simp only [hilk, retL, ret1, hget, lk, List.length_map, List.length_nil, List.length_append, List.length_take, if_true, if_false, Nat.reduceEqDiff, Nat.reduceBEq, Bool.false_eq_true, Option.some.injEq]; rfl) (by simp [rowsOf, lk]) ?_); exact (decR_no fun h => hA (h _ x hx)).symm)
    · obtain rfl : k = q.length := by omega
      have hr := decR_yes (show InqsOk l q from hJ.all (by omega))
      rw [show rvI (itTo l q q.length) = _ from if_neg (by rw [hilk]; exact h0)] at hr
      repeat' (first | ((with_reducible first | (refine hK _ ?_; clear hK K) | refine stq fun K' hK' => ?_ | refine stc ?_); try simp only [go_sem]) | (with_reducible first | refine stp ?_ | (refine hK' _ ?_; clear hK' K') | refine kN kl73 fun K hK => ?_ | refine kO fun K hK => ?_) | (refine xS rfl fun K' hK' => ?_; simp only [go_sem]) | (refine qS rfl fun K' hK' => ?_; simp only [go_sem]) | refine iB ?_ | (with_reducible refine pw_seq_drawK kl73 G_ok mixed (by kernel_rfl) (fun K hK => ?_)) | (with_reducible refine pw_draw G_ok mixed (by kernel_rfl) ?_) | (with_reducible refine pK_mk ?_ ?_ <;> (intro hc; (try simp only [go_sem]); (try simp at hc); try (exfalso; omega))) | with_reducible refine And.intro (by first | omega | (unfold inI; omega)) ?_)
      all_goals first
        | (exfalso; omega)
        | ((refine retQ_ret rfl (by simp only [hilk, retL, ret1, hget, lk, List.length_map, List.length_nil, List.length_append, List.length_take, if_true, if_false, Nat.reduceEqDiff, Nat.reduceBEq, Bool.false_eq_true, Option.some.injEq]; rfl) (by simp [rowsOf, lk]) ?_); rw [hr])
end Go.Proofs.YtphakidbddamfaaGreat
