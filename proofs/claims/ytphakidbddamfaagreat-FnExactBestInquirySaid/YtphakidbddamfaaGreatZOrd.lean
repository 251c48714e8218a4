/-
  Inquiries: their words.
-/
import Derived.Test.YtphakidbddamfaaGreatZSmall
import Derived.Test.YtphakidbddamfaaGreatZIs0
import Derived.Test.YtphakidbddamfaaGreatZMst
import Derived.Test.YtphakidbddamfaaGreatZMf
import Derived.Test.YtphakidbddamfaaGreatZJc
import Derived.Test.YtphakidbddamfaaGreatZMe
namespace Go.Proofs.YtphakidbddamfaaGreat
open Go.RowKit

structure InquiryD where
  tick : Int
  item : Int
  name : Int
  mark : Int
  acc : Bool

def InquiryD.enc (x : InquiryD) : List Value := [.int .i64 x.tick, .int .i64 x.item, .int .i64 x.name, .int .i64 x.mark, .bool x.acc]
theorem InquiryD.eq {x y : InquiryD} (h0 : x.tick = y.tick) (h1 : x.item = y.item) (h2 : x.name = y.name) (h3 : x.mark = y.mark) (h4 : x.acc = y.acc) : x = y := by cases x; cases y; cases h0; cases h1; cases h2; cases h3; cases h4; rfl

end Go.Proofs.YtphakidbddamfaaGreat

/-
  Inquiries: their words; what the laws' helpers that read give, in the abstract machine; inquiries opened as arguments.
-/
set_option linter.unusedSimpArgs false
set_option linter.unusedVariables false
set_option maxHeartbeats 2000000
set_option maxRecDepth 100000
namespace Go.Proofs.YtphakidbddamfaaGreat
open Go.ChangeShapes Go.WideShapes Go.ChangeAt Go.RowKit Go.Deep

def InquiryD.dat (x : InquiryD) : List D := [.int .i64 x.tick, .int .i64 x.item, .int .i64 x.name, .int .i64 x.mark, .bool x.acc]
theorem InquiryD.extM {x y : InquiryD} (h0 : x.tick = y.tick) (h1 : x.item = y.item) (h2 : x.name = y.name) (h3 : x.mark = y.mark) (h4 : x.acc = y.acc) : x = y := by cases x; cases y; cases h0; cases h1; cases h2; cases h3; cases h4; rfl
theorem szInquiryS_ok (xs : List InquiryD) (hn : xs.length ≤ 9223372036854775807) (left : Int) (h0 : 0 ≤ left) (h1 : left ≤ 1048576) : FnEq Tryz.prog 18 [.d (.lst 5 (xs.map InquiryD.dat)), .d (.int .i64 left)] [.d (.int .i64 (szOf left xs.length))] := by
  refine fn_ok G_ok Tryz.func18 rfl rfl ?_; simp only [Tryz.ntmps18, List.length_cons, List.length_nil, Nat.reduceAdd, Nat.reduceSub, enm]
  repeat' (first | ((with_reducible first | (refine hK _ ?_; clear hK K) | refine stq fun K' hK' => ?_ | refine stc ?_); try simp only [go_sem]) | (with_reducible first | refine stp ?_ | (refine hK' _ ?_; clear hK' K') | refine kN kl18 fun K hK => ?_ | refine kO fun K hK => ?_) | (with_reducible refine pK_mk ?_ ?_ <;> (intro hc; (try simp only [go_sem]); (try simp at hc); try (exfalso; omega))) | with_reducible refine And.intro (by first | omega | (unfold inI; omega)) ?_)
  · refine retQ_ret rfl rfl (by simp [rowsOf, lk]) ?_; rw [szOf_lt (by omega)]
  · refine retQ_ret rfl rfl (by simp [rowsOf, lk]) ?_; rw [szOf_ge (by omega)]
theorem eqInquiry_ok (x y : InquiryD) : FnEq Tryz.prog 83 [.agg [.d (.int .i64 x.tick), .d (.int .i64 x.item), .d (.int .i64 x.name), .d (.int .i64 x.mark), .d (.bool x.acc)], .agg [.d (.int .i64 y.tick), .d (.int .i64 y.item), .d (.int .i64 y.name), .d (.int .i64 y.mark), .d (.bool y.acc)]] [.d (.bool (bP (x = y)))] := by
  refine fn_ok G_ok Tryz.func83 rfl rfl ?_; simp only [Tryz.ntmps83, List.length_cons, List.length_nil, Nat.reduceAdd, Nat.reduceSub, enm]
  repeat' (first | ((with_reducible first | (refine hK _ ?_; clear hK K) | refine stq fun K' hK' => ?_ | refine stc ?_); try simp only [go_sem]) | (with_reducible first | refine stp ?_ | (refine hK' _ ?_; clear hK' K') | refine kN kl83 fun K hK => ?_ | refine kO fun K hK => ?_) | (with_reducible refine pK_mk ?_ ?_ <;> (intro hc; (try simp only [go_sem]); (try simp at hc); try (exfalso; omega))) | with_reducible refine And.intro (by first | omega | (unfold inI; omega)) ?_)
  all_goals first
    | (refine retQ_ret rfl rfl (by simp [rowsOf, lk]) ?_; rw [bP_true (InquiryD.extM (by assumption) (by assumption) (by assumption) (by assumption) (by assumption))])
    | (refine retQ_ret rfl rfl (by simp [rowsOf, lk]) ?_; rw [bP_false fun h => by subst h; simp_all])
theorem eqInquiryS_ok (xs ys : List InquiryD) (hn : xs.length ≤ 1048576) (hn' : ys.length ≤ 9223372036854775807) : FnEq Tryz.prog 22 [.d (.lst 5 (xs.map InquiryD.dat)), .d (.lst 5 (ys.map InquiryD.dat))] [.d (.bool (bP (xs = ys)))] := by
  refine fn_ok G_ok Tryz.func22 rfl rfl ?_; simp only [Tryz.ntmps22, List.length_cons, List.length_nil, Nat.reduceAdd, Nat.reduceSub, enm]
  repeat' (first | ((with_reducible first | (refine hK _ ?_; clear hK K) | refine stq fun K' hK' => ?_ | refine stc ?_); try simp only [go_sem]) | (with_reducible first | refine stp ?_ | (refine hK' _ ?_; clear hK' K') | refine kN kl22 fun K hK => ?_ | refine kO fun K hK => ?_) | refine iB ?_ | (with_reducible refine pw_seq_drawK kl22 G_ok mixed (by kernel_rfl) (fun K hK => ?_)) | (with_reducible refine pw_draw G_ok mixed (by kernel_rfl) ?_) | (with_reducible refine pK_mk ?_ ?_ <;> (intro hc; (try simp only [go_sem]); (try simp at hc); try (exfalso; omega))) | with_reducible refine And.intro (by first | omega | (unfold inI; omega)) ?_)
  · refine retQ_ret rfl rfl (by simp [rowsOf, lk]) ?_; rw [bP_false fun h => absurd (congrArg List.length h) (by omega)]
  · refine pw_loop_over [4, 5, 11, 12, 13, 14, 15, 16, 17, 18, 19, 20, 21, 22, 23, 24, 25, 26] (fun k : Nat => [(5, .d (.int .i64 (k : Int)))]) (fun k : Nat => []) 0 (fun k : Nat => k ≤ xs.length ∧ xs.take k = ys.take k) (fun k : Nat => xs.length - k) 0 ⟨Nat.zero_le _, by simp⟩ (fits_mk [] (by simp [renL_d, bdL_d, sg, over, wipe, wl, memN, ins, rm, lk, fitFr, fit1, ren, renL, bd, bdL, app, fitHp, hget, renB, bdB] <;> omega)) ?_
    rintro k ⟨hk, hJ⟩
    simp only [over, wipe, wl, memN, ins, rm, if_true, if_false, Nat.reduceEqDiff, Bool.false_eq_true, reduceCtorEq]
    by_cases hlt : k < xs.length
    · have hx := List.getElem?_eq_getElem hlt
      generalize xs[k] = x at hx
      have hy := List.getElem?_eq_getElem (show k < ys.length by omega)
      generalize ys[k] = y at hy
      repeat' (first | ((with_reducible first | (refine hK _ ?_; clear hK K) | refine stq fun K' hK' => ?_ | refine stc ?_); try simp only [go_sem, List.getElem?_map, hx, hy, Option.map_some, InquiryD.dat]) | (with_reducible first | refine stp ?_ | (refine hK' _ ?_; clear hK' K') | refine kN kl22 fun K hK => ?_ | refine kO fun K hK => ?_) | ((with_reducible first | apply CallK.eq | apply CallQ.eqs); (· with_reducible first | exact eqInquiry_ok x y); (· first | exact rfl | (simp [RV.flat, D.sc, datI]; done)); try simp only [go_sem, List.getElem?_map, hx, hy, Option.map_some, InquiryD.dat]) | refine iB ?_ | (with_reducible refine pw_seq_drawK kl22 G_ok mixed (by kernel_rfl) (fun K hK => ?_)) | (with_reducible refine pw_draw G_ok mixed (by kernel_rfl) ?_) | (with_reducible refine pK_mk ?_ ?_ <;> (intro hc; (try simp only [go_sem, List.getElem?_map, hx, hy, Option.map_some, InquiryD.dat]); (try simp at hc); try (exfalso; omega))) | with_reducible refine And.intro (by first | omega | (unfold inI; omega)) ?_)
      · refine retQ_ret rfl rfl (by simp [rowsOf, lk]) ?_; rw [bP_false fun h => by rw [h, hy] at hx; exact not_bP (show bP (x = y) = false by assumption) (Option.some.inj hx).symm]
      · exact ⟨k + 1, ⟨by omega, by rw [take_snoc hx, take_snoc hy, hJ, of_bP (show bP (x = y) = true by assumption)]⟩, by omega, (fits_mk [] (by simp [renL_d, bdL_d, sg, over, wipe, wl, memN, ins, rm, lk, fitFr, fit1, ren, renL, bd, bdL, app, fitHp, hget, renB, bdB] <;> omega))⟩
    · repeat' (first | ((with_reducible first | (refine hK _ ?_; clear hK K) | refine stq fun K' hK' => ?_ | refine stc ?_); try simp only [go_sem]) | (with_reducible first | refine stp ?_ | (refine hK' _ ?_; clear hK' K') | refine kN kl22 fun K hK => ?_ | refine kO fun K hK => ?_) | refine iB ?_ | (with_reducible refine pw_seq_drawK kl22 G_ok mixed (by kernel_rfl) (fun K hK => ?_)) | (with_reducible refine pw_draw G_ok mixed (by kernel_rfl) ?_) | (with_reducible refine pK_mk ?_ ?_ <;> (intro hc; (try simp only [go_sem]); (try simp at hc); try (exfalso; omega))) | with_reducible refine And.intro (by first | omega | (unfold inI; omega)) ?_)
      refine retQ_ret rfl rfl (by simp [rowsOf, lk]) ?_; rw [bP_true (by rwa [List.take_of_length_le (by omega), List.take_of_length_le (by omega)] at hJ)]
theorem toInquiry_ok (x : InquiryD) : FnEq Tryz.prog 14 [.agg [.d (.int .i64 x.tick), .d (.int .i64 x.item), .d (.int .i64 x.name), .d (.int .i64 x.mark), .d (.bool x.acc)]] [.agg [.int .i64 x.tick, .int .i64 x.item, .int .i64 x.name, .int .i64 x.mark, .bool x.acc]] := by
  refine fn_ok G_ok Tryz.func14 rfl rfl ?_; simp only [Tryz.ntmps14, List.length_cons, List.length_nil, Nat.reduceAdd, Nat.reduceSub, enm]
  repeat' (first | ((with_reducible first | (refine hK _ ?_; clear hK K) | refine stq fun K' hK' => ?_ | refine stc ?_); try simp only [go_sem]) | (with_reducible first | refine stp ?_ | (refine hK' _ ?_; clear hK' K') | refine kN kl14 fun K hK => ?_ | refine kO fun K hK => ?_) | (with_reducible refine pK_mk ?_ ?_ <;> (intro hc; (try simp only [go_sem]); (try simp at hc); try (exfalso; omega))) | with_reducible refine And.intro (by first | omega | (unfold inI; omega)) ?_)
  refine retQ_ret rfl rfl (by simp [rowsOf, rowIds, lk]) ?_
  rfl
theorem toInquiryS_ok (xs : List InquiryD) (hn : xs.length ≤ 1048576) : FnEq Tryz.prog 20 [.d (.lst 5 (xs.map InquiryD.dat))] [.row 50 5 (xs.map InquiryD.dat)] := by
  refine fn_ok G_ok Tryz.func20 rfl rfl ?_; simp only [Tryz.ntmps20, List.length_cons, List.length_nil, Nat.reduceAdd, Nat.reduceSub, enm]
  repeat' (first | ((with_reducible first | (refine hK _ ?_; clear hK K) | refine stq fun K' hK' => ?_ | refine stc ?_); try simp only [go_sem]) | (with_reducible first | refine stp ?_ | (refine hK' _ ?_; clear hK' K') | refine kN kl20 fun K hK => ?_ | refine kO fun K hK => ?_) | refine iB ?_ | (with_reducible refine pK_mk ?_ ?_ <;> (intro hc; (try simp only [go_sem]); (try simp at hc); try (exfalso; omega))) | with_reducible refine And.intro (by first | omega | (unfold inI; omega)) ?_)
  refine pw_loop_over [2, 4, 8, 9, 10, 11, 12, 13, 14, 15, 16, 17, 18, 19, 20, 21] (fun k : Nat => [(4, .d (.int .i64 (k : Int))), (3, .row 0 xs.length)]) (fun k : Nat => [(0, .row 50 5 ((fillTo (⟨0, 0, 0, 0, false⟩ : InquiryD) xs k).map InquiryD.dat))]) 1 (fun k : Nat => k ≤ xs.length) (fun k : Nat => xs.length - k) 0 (Nat.zero_le _) (fits_mk [] (by simp [renL_d, bdL_d, sg, over, wipe, wl, memN, ins, rm, lk, fitFr, fit1, ren, renL, bd, bdL, app, fitHp, hget, renB, bdB, fillTo_zero, InquiryD.dat] <;> omega)) ?_
  intro k hk
  have hL := fillTo_len (⟨0, 0, 0, 0, false⟩ : InquiryD) xs k hk
  simp only [over, wipe, wl, memN, ins, rm, if_true, if_false, Nat.reduceEqDiff, Bool.false_eq_true, reduceCtorEq]
  by_cases hlt : k < xs.length
  · have hx := List.getElem?_eq_getElem hlt
    generalize xs[k] = x at hx
    have hg := fillTo_get (⟨0, 0, 0, 0, false⟩ : InquiryD) hlt
    have hset : List.set ((fillTo (⟨0, 0, 0, 0, false⟩ : InquiryD) xs k).map InquiryD.dat) k [.int .i64 x.tick, .int .i64 x.item, .int .i64 x.name, .int .i64 x.mark, .bool x.acc] = (fillTo (⟨0, 0, 0, 0, false⟩ : InquiryD) xs (k + 1)).map InquiryD.dat := by rw [← fillTo_set (⟨0, 0, 0, 0, false⟩ : InquiryD) hx, List.map_set]; rfl
    repeat' (first | ((with_reducible first | (refine hK _ ?_; clear hK K) | refine stq fun K' hK' => ?_ | refine stc ?_); try simp only [go_sem, List.getElem?_map, hx, hg, Option.map_some, InquiryD.dat, hlt]) | (with_reducible first | refine stp ?_ | (refine hK' _ ?_; clear hK' K') | refine kN kl20 fun K hK => ?_ | refine kO fun K hK => ?_) | ((with_reducible apply CallK.eq); (· with_reducible first | exact toInquiry_ok x); (· simp [RV.flat, D.sc, datI]); try simp only [go_sem, List.getElem?_map, hx, hg, Option.map_some, InquiryD.dat, hlt]) | refine iB ?_ | (with_reducible refine pK_mk ?_ ?_ <;> (intro hc; (try simp only [go_sem, List.getElem?_map, hx, hg, Option.map_some, InquiryD.dat, hlt]); (try simp at hc); try (exfalso; omega))) | with_reducible refine And.intro (by first | omega | (unfold inI; omega)) ?_)
    exact ⟨k + 1, by omega, by omega, (fits_mk [] (by simp [renL_d, bdL_d, sg, over, wipe, wl, memN, ins, rm, lk, fitFr, fit1, ren, renL, bd, bdL, app, fitHp, hget, renB, bdB, hset] <;> omega))⟩
  · have e : k = xs.length := by omega
    subst e
    rw [fillTo_end]
    repeat' (first | ((with_reducible first | (refine hK _ ?_; clear hK K) | refine stq fun K' hK' => ?_ | refine stc ?_); try simp only [go_sem]) | (with_reducible first | refine stp ?_ | (refine hK' _ ?_; clear hK' K') | refine kN kl20 fun K hK => ?_ | refine kO fun K hK => ?_) | refine iB ?_ | (with_reducible refine pK_mk ?_ ?_ <;> (intro hc; (try simp only [go_sem]); (try simp at hc); try (exfalso; omega))) | with_reducible refine And.intro (by first | omega | (unfold inI; omega)) ?_)
    refine retQ_ret rfl (by simp only [retL, ret1, hget, lk, List.length_map, List.length_nil, List.length_append, List.length_take, if_true, if_false, Nat.reduceEqDiff, Nat.reduceBEq, Bool.false_eq_true, Option.some.injEq]; rfl) (by simp [rowsOf, lk]) ?_; rfl
section
variable {H : Type} {enc : TypeId × Value → H} {w : World} {base : Nat} {spare : Nat → Bool} {held : Bool}
set_option maxRecDepth 100000 in
theorem open_Inquiry : OpenK enc Tryz.prog w base spare held InquiryD.dat (fun _ => True) 35 5 :=
  OpenK.map (OpenK.st (OpenFs.cons (OpenK.int Tryz.underlying3) rfl (by kernel_rfl) (OpenFs.cons (OpenK.int Tryz.underlying3) rfl (by kernel_rfl) (OpenFs.cons (OpenK.int Tryz.underlying3) rfl (by kernel_rfl) (OpenFs.cons (OpenK.int Tryz.underlying3) rfl (by kernel_rfl) (OpenFs.cons (OpenK.bool Tryz.underlying4) rfl (by kernel_rfl) (OpenFs.nil 5)))))) Tryz.underlying35 (by kernel_rfl))
    (fun p => (⟨p.1, p.2.1, p.2.2.1, p.2.2.2.1, p.2.2.2.2.1⟩ : InquiryD)) InquiryD.dat _ (fun _ => rfl) (fun _ => rfl) (fun _ _ => trivial)
set_option maxRecDepth 100000 in
theorem open_InquiryS : OpenK enc Tryz.prog w base spare held (datL 5 InquiryD.dat) (fun xs => xs.length ≤ maxLen ∧ ∀ r ∈ xs, True) 55 1 :=
  OpenK.slc open_Inquiry Tryz.underlying55 (by kernel_rfl) (by decide)
end
end Go.Proofs.YtphakidbddamfaaGreat

/-
  Items after inquiries: plain words. No program is named here.
-/
namespace Go.Proofs.YtphakidbddamfaaGreat
open Go.RowKit

def setMk (x : ItemD) (j : Nat) (m : Int) : ItemD := ⟨x.names, x.marks.set j m, x.late⟩
def stepI (l : List ItemD) (x : InquiryD) : List ItemD := if x.acc = true then (match l[x.item.toNat]? with
  | some it => l.set x.item.toNat (setMk it x.name.toNat x.mark)
  | none => l) else l
def itTo (l : List ItemD) (q : List InquiryD) (k : Nat) : List ItemD := (q.take k).foldl stepI l
theorem itTo_zero (l : List ItemD) (q : List InquiryD) : itTo l q 0 = l := rfl
theorem itTo_succ {l : List ItemD} {q : List InquiryD} {k : Nat} {x : InquiryD} (hx : q[k]? = some x) : itTo l q (k + 1) = stepI (itTo l q k) x := by unfold itTo; rw [take_snoc hx, List.foldl_append]; rfl
theorem stepI_len (l : List ItemD) (x : InquiryD) : (stepI l x).length = l.length := by
  unfold stepI
  split
  · split <;> simp
  · rfl
theorem itTo_len (l : List ItemD) (q : List InquiryD) : ∀ k, (itTo l q k).length = l.length := by
  intro k
  unfold itTo
  generalize q.take k = r
  induction r generalizing l with
  | nil => rfl
  | cons x r ih => rw [List.foldl_cons, ih, stepI_len]
/-- names and numbers of marks stay -/
def likeI (a b : ItemD) : Prop := a.names = b.names ∧ a.marks.length = b.marks.length ∧ a.late = b.late
theorem stepI_like {l : List ItemD} {x : InquiryD} {i : Nat} {a : ItemD} (ha : l[i]? = some a) : ∃ b, (stepI l x)[i]? = some b ∧ likeI b a := by
  unfold stepI
  split
  · split
    · rename_i it hit
      by_cases e : x.item.toNat = i
      · subst e
        have hlt := (List.getElem?_eq_some_iff.1 hit).1
        rw [hit] at ha
        cases ha
        exact ⟨setMk a x.name.toNat x.mark, by rw [List.getElem?_set, if_pos rfl, if_pos hlt], rfl, by simp [setMk], rfl⟩
      · exact ⟨a, by rw [List.getElem?_set, if_neg e]; exact ha, rfl, rfl, rfl⟩
    · exact ⟨a, ha, rfl, rfl, rfl⟩
  · exact ⟨a, ha, rfl, rfl, rfl⟩
theorem itTo_like {l : List ItemD} {q : List InquiryD} {i : Nat} {a : ItemD} (ha : l[i]? = some a) (k : Nat) : ∃ b, (itTo l q k)[i]? = some b ∧ likeI b a := by
  unfold itTo
  generalize q.take k = r
  induction r generalizing l a with
  | nil => exact ⟨a, ha, rfl, rfl, rfl⟩
  | cons x r ih =>
    obtain ⟨b, hb, h1, h2, h3⟩ := stepI_like (x := x) ha
    obtain ⟨c, hc, h4, h5, h6⟩ := ih hb
    exact ⟨c, hc, h4.trans h1, h5.trans h2, h6.trans h3⟩
/-- a name is there -/
def HasNm (l : List ItemD) (i j : Int) : Prop := 0 ≤ i ∧ 0 ≤ j ∧ ∃ x, l[i.toNat]? = some x ∧ j < (x.names.length : Int)
def prevT (q : List InquiryD) (k : Nat) : Int := if k = 0 then 0 else (q.getD (k - 1) ⟨0, 0, 0, 0, false⟩).tick
def mkAt (l : List ItemD) (i j : Nat) : Int := ((l[i]?.map ItemD.marks).getD []).getD j 0
def InqAt (l : List ItemD) (q : List InquiryD) (k : Nat) (x : InquiryD) : Prop := 0 ≤ x.tick ∧ x.tick ≤ 100000 ∧ prevT q k ≤ x.tick ∧ HasNm l x.item x.name ∧ 0 ≤ x.mark ∧ x.mark ≤ 3 ∧ mkAt (itTo l q k) x.item.toNat x.name.toNat ≠ x.mark
def InqsOk (l : List ItemD) (q : List InquiryD) : Prop := All (InqAt l q) q
/-- what is there of the item and of the mark that an inquiry names -/
theorem HasNm.there {l : List ItemD} {q : List InquiryD} (hv : ItsOk l) {i j : Int} (h : HasNm l i j) (k : Nat) : ∃ a b m, l[i.toNat]? = some a ∧ (itTo l q k)[i.toNat]? = some b ∧ b.names = a.names ∧ b.marks.length = a.marks.length ∧ j.toNat < a.names.length ∧ a.marks.length = a.names.length ∧ b.marks[j.toNat]? = some m ∧ mkAt (itTo l q k) i.toNat j.toNat = m := by
  obtain ⟨h1, h2, a, ha, h3⟩ := h
  obtain ⟨b, hb, h4, h5, h6⟩ := itTo_like (q := q) ha k
  have h7 := (hv.at_ ha).2.2.2.1
  have h8 : j.toNat < b.marks.length := by omega
  refine ⟨a, b, b.marks[j.toNat], ha, hb, h4, h5, by omega, h7, List.getElem?_eq_getElem h8, ?_⟩
  unfold mkAt
  rw [hb, Option.map_some, Option.getD_some, List.getD_eq_getElem?_getD, List.getElem?_eq_getElem h8]
  rfl
end Go.Proofs.YtphakidbddamfaaGreat

/-
  Performances with other calls: they stay valid: plain words. No program is named here.
-/
namespace Go.Proofs.YtphakidbddamfaaGreat
open Go.RowKit

theorem setMk_ok {x : ItemD} (h : ItOk x) (j : Nat) {m : Int} (h1 : 0 ≤ m) (h2 : m ≤ 3) : ItOk (setMk x j m) := by
  obtain ⟨a1, a2, a3, a4, a5⟩ := h
  refine ⟨a1, a2, a3, by simp [setMk]; exact a4, fun i y hy => ?_⟩
  simp only [setMk, List.getElem?_set] at hy
  split at hy
  · split at hy
    · cases hy; exact ⟨h1, h2⟩
    · cases hy
  · exact a5 i y hy
theorem stepI_ok {l : List ItemD} {x : InquiryD} (h : ItsOk l) (h1 : 0 ≤ x.mark) (h2 : x.mark ≤ 3) : ItsOk (stepI l x) := by
  refine ⟨by rw [stepI_len]; exact h.1, fun i y hy => ?_⟩
  unfold stepI at hy
  split at hy
  · split at hy
    · rename_i it hit
      rw [List.getElem?_set] at hy
      split at hy
      · split at hy
        · cases hy; exact setMk_ok (h.at_ hit) _ h1 h2
        · cases hy
      · exact h.2 i y hy
    · exact h.2 i y hy
  · exact h.2 i y hy
theorem itTo_okU {l : List ItemD} {q : List InquiryD} (h : ItsOk l) (hq : InqsOk l q) : ∀ k, k ≤ q.length → ItsOk (itTo l q k)
  | 0, _ => h
  | k + 1, hk => by
    have hx := List.getElem?_eq_getElem (show k < q.length by omega)
    have ha := hq k _ hx
    rw [itTo_succ hx]
    exact stepI_ok (itTo_okU h hq k (by omega)) ha.2.2.2.2.1 ha.2.2.2.2.2.1
def withI (p : PerfD) (l : List ItemD) : PerfD := ⟨l, p.marks, p.slips⟩
theorem ask_with {c : CodeD} {p : PerfD} {f : Int} (h : AskP c p f) {l : List ItemD} (hl : ItsOk l) (hn : l.length = p.items.length) (hk : ∀ (i : Nat) (a : ItemD), p.items[i]? = some a → ∃ b : ItemD, l[i]? = some b ∧ b.names = a.names) : AskP c (withI p l) f := by
  obtain ⟨⟨h1, h2, h3, h4, h5, h6⟩, h7⟩ := h
  refine ⟨⟨h1, hl, fun i x hx => ?_, h4, by simp only [withI]; omega, h6⟩, h7⟩
  have hi := (List.getElem?_eq_some_iff.1 hx).1
  have hi2 : i < p.items.length := by simp only [withI] at hi; omega
  have ha := List.getElem?_eq_getElem hi2
  obtain ⟨b, hb, hbn⟩ := hk i _ ha
  have e : x = b := by
    simp only [withI] at hx
    rw [hb] at hx
    cases hx
    rfl
  subst e
  have h8 : KnownI c p.items[i] := h3 i _ ha
  show KnownI c x
  unfold KnownI at h8 ⊢
  rw [hbn]
  exact h8
theorem ask_itTo {c : CodeD} {p : PerfD} {f : Int} (h : AskP c p f) {q : List InquiryD} (hq : InqsOk p.items q) : AskP c (withI p (itTo p.items q q.length)) f :=
  ask_with h (itTo_okU h.1.2.1 hq _ (Nat.le_refl _)) (itTo_len _ _ _) fun i a ha => by
    obtain ⟨b, hb, h1, _⟩ := itTo_like (q := q) ha q.length
    exact ⟨b, hb, h1⟩
/-- one inquiry, as an accepted one -/
def oneI (i k m : Int) : InquiryD := ⟨0, i, k, m, true⟩
theorem ask_one {c : CodeD} {p : PerfD} {f : Int} (h : AskP c p f) {i k m : Int} (h1 : 0 ≤ m) (h2 : m ≤ 3) : AskP c (withI p (stepI p.items (oneI i k m))) f :=
  ask_with h (stepI_ok h.1.2.1 h1 h2) (stepI_len _ _) fun j a ha => by
    obtain ⟨b, hb, hl, _⟩ := stepI_like (x := oneI i k m) ha
    exact ⟨b, hb, hl⟩
/-- what an inquiry gains, the score after inquiries -/
noncomputable def ansInquiryGain (c : CodeD) (p : PerfD) (f : Int) (x : InquiryD) : Option Int := optP (AskP c p f ∧ InqsOk p.items [x]) (segW c (withI p (stepI p.items (oneI x.item x.name x.mark))) f - segW c p f)
noncomputable def ansScoreAfter (c : CodeD) (p : PerfD) (f : Int) (q : List InquiryD) : Option Int := optP (AskP c p f ∧ InqsOk p.items q ∧ q.length ≤ 20) (segW c (withI p (itTo p.items q q.length)) f)
end Go.Proofs.YtphakidbddamfaaGreat

/-
  The abstract machine: structs with a nil list of their own; a part that is dropped or appended to and put back. No program is named here.
-/
namespace Go.Proofs.YtphakidbddamfaaGreat
open Go.RowKit

/-- a zero cell: a nil list is a row of the call's own -/
def nilP (i : Nat) : D → PV
  | .lst _ [] => .row i 0
  | d => .d d
theorem zEq_lst {sz : Nat} {v : Value} (h : zEq (.lst sz []) v = true) : v = .slice none 0 0 := by
  unfold zEq at h
  split at h
  all_goals first | rfl | contradiction | simp_all
theorem zEq_nil {i : Nat} {d : D} {v : Value} (h : zEq d v = true) {m : Nat → Option Loc} {X : Nat → Prop} {w : World} (hm : m i = some .nil) : R m X w (nilP i d) v := by
  have hd : Rd w X d v := zEq_rd h w X
  unfold nilP
  split
  · rw [zEq_lst h]; exact .rowN _ hm
  · exact .d _ _ hd
theorem zB_nil {z : List D} {v : Value} (h : zB z v = true) : v.cells.size = z.length ∧ ∀ (j : Nat) (d : D) (u : Value), z[j]? = some d → v.cells[j]? = some u → zEq d u = true := by
  simp only [zB, Bool.and_eq_true, beq_iff_eq] at h
  refine ⟨h.1.symm, fun j d u hj hu => ?_⟩
  have hm : (d, u) ∈ z.zip v.cells.toList := List.mem_of_getElem? (i := j) (by rw [List.getElem?_zip_eq_some]; exact ⟨hj, by simpa using hu⟩)
  exact List.all_eq_true.1 h.2 _ hm
section rules
variable {P : Program} {o : Oper} {s : AS} {K : AS → Prop}
theorem pure_field {t : TypeId} {x : Operand} {f n : Nat} {fs : List (Nat × Nat)} {z : List D} {fo : Nat × Nat} {y : PV} (ho : o.op = .fieldAddr t x f) (ht : tiB P t (.st n fs z) = true) (hf : fs[f]? = some fo) (hx : ptrAdd fo.1 (s.get x) = some y) : PureAt P o s y := fun m X w a hq => by
    obtain ⟨b, off, h1, h2⟩ := ptrAdd_R hx (hq x)
    obtain ⟨⟨fields, h3, h4, h5⟩, _⟩ := tiB_st ht
    have hlt : f < fields.size := by rw [h4]; exact (List.getElem?_eq_some_iff.1 hf).1
    obtain ⟨h6, h7, i, h8, h9⟩ := h5 f fields[f] fo (by simp [hlt]) hf
    refine ⟨_, fun u => ?_, h2⟩
    have hne : ¬ fo.2 = 0 := by omega
    simp [execOp, ho, h1, Instr.fieldAt, run_underlying h3, hlt, Instr.sureAddr, fieldPlace, run_size h8, h9, hne, h6, Addr.add_lit]
end rules
section part
variable {X0 : Nat → Prop} {w0 : Base} {m : Mp} {s : AS} {a : Act} {w : World}
end part
section pv4
variable {P : Program}
end pv4
end Go.Proofs.YtphakidbddamfaaGreat

/-
  Orders of skaters: which are valid, who is in one, who is in one and not in another; the program's functions and the reference's, in the abstract machine.
-/
set_option linter.unusedSimpArgs false
set_option linter.unusedVariables false
set_option maxHeartbeats 2000000
set_option maxRecDepth 100000
namespace Go.Proofs.YtphakidbddamfaaGreat
open Go.RowKit

def OrdAt (l : List Int) (k : Nat) (x : Int) : Prop := 1 ≤ x ∧ x ≤ 999 ∧ x ∉ l.take k
def OrdUpto (l : List Int) (k : Nat) : Prop := ∀ j x, j < k → l[j]? = some x → OrdAt l j x
def OrdOk (l : List Int) : Prop := l.length ≤ 40 ∧ OrdUpto l l.length
theorem OrdUpto.zero (l : List Int) : OrdUpto l 0 := fun _ _ h => absurd h (by omega)
theorem OrdUpto.succ {l : List Int} {k : Nat} {x : Int} (h : OrdUpto l k) (hx : l[k]? = some x) (hf : OrdAt l k x) : OrdUpto l (k + 1) := by
  intro j y hj hy
  by_cases e : j = k
  · subst e
    rw [hx] at hy
    cases hy
    exact hf
  · exact h j y (by omega) hy
theorem OrdOk.not_at {l : List Int} {k : Nat} {x : Int} (hx : l[k]? = some x) (hf : ¬ OrdAt l k x) : ¬ OrdOk l :=
  fun h => hf (h.2 k x (List.getElem?_eq_some_iff.1 hx).1 hx)
theorem copyInts_ok (l : List Int) (hn : l.length ≤ 1048576) : FnEq Tryz.prog 180 [.d (.lst 1 (l.map datI))] [.row 3 1 (l.map datI)] := by
  refine fn_ok G_ok Tryz.func180 rfl rfl ?_; simp only [Tryz.ntmps180, List.length_cons, List.length_nil, Nat.reduceAdd, Nat.reduceSub, enm]
  repeat' (first | ((with_reducible first | (refine hK _ ?_; clear hK K) | refine stq fun K' hK' => ?_ | refine stc ?_); try simp only [go_sem]) | (with_reducible first | refine stp ?_ | (refine hK' _ ?_; clear hK' K') | refine kN kl180 fun K hK => ?_ | refine kO fun K hK => ?_) | (with_reducible refine pK_mk ?_ ?_ <;> (intro hc; (try simp only [go_sem]); (try simp at hc); try (exfalso; omega))) | with_reducible refine And.intro (by first | omega | (unfold inI; omega)) ?_)
  refine retQ_ret rfl (by simp only [retL, ret1, hget, lk, List.length_map, List.length_nil, List.length_append, List.length_take, if_true, if_false, Nat.reduceEqDiff, Nat.reduceBEq, Bool.false_eq_true, Option.some.injEq]; rfl) (by simp [rowsOf, lk]) ?_; rfl
end Go.Proofs.YtphakidbddamfaaGreat
