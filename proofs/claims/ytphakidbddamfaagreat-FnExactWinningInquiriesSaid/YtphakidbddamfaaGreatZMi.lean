/-
  The laws' marks in strings (markText), lists of strings marked and held, in the abstract machine.
-/
import Derived.Test.YtphakidbddamfaaGreatZAw
import Derived.Test.YtphakidbddamfaaGreatZIs0
import Derived.Test.YtphakidbddamfaaGreatZIs
set_option linter.unusedSimpArgs false
set_option linter.unusedVariables false
set_option maxHeartbeats 2000000
set_option maxRecDepth 100000
namespace Go.Proofs.YtphakidbddamfaaGreat
open Go.RowKit

/-- the mark of a number -/
def mkText (k : Int) : ByteArray := if k ≤ 0 then ⟨#[109, 48]⟩ else (⟨#[109]⟩ : ByteArray) ++ digB k.toNat
theorem markText_ok (k : Int) (hk : k ≤ 1099511627776) : FnEq Tryz.prog 133 [.d (.int .i64 k)] [.d (.str (mkText k))] := by
  refine fn_ok G_ok Tryz.func133 rfl rfl ?_; simp only [Tryz.ntmps133, List.length_cons, List.length_nil, Nat.reduceAdd, Nat.reduceSub, enm]
  by_cases h0 : k ≤ 0
  · repeat' (first | ((with_reducible first | (refine hK _ ?_; clear hK K) | refine stq fun K' hK' => ?_ | refine stc ?_); try simp only [go_sem, h0]) | (with_reducible first | refine stp ?_ | (refine hK' _ ?_; clear hK' K') | refine kN kl133 fun K hK => ?_ | refine kO fun K hK => ?_) | refine iB ?_ | (with_reducible refine pK_mk ?_ ?_ <;> (intro hc; (try simp only [go_sem, h0]); (try simp at hc); try (exfalso; omega))) | with_reducible refine And.intro (by first | omega | (unfold inI; omega)) ?_)
    refine retQ_ret rfl rfl (by simp [rowsOf, lk]) ?_; rw [mkText, if_pos h0]
  · repeat' (first | ((with_reducible first | (refine hK _ ?_; clear hK K) | refine stq fun K' hK' => ?_ | refine stc ?_); try simp only [go_sem, h0]) | (with_reducible first | refine stp ?_ | (refine hK' _ ?_; clear hK' K') | refine kN kl133 fun K hK => ?_ | refine kO fun K hK => ?_) | refine iB ?_ | (with_reducible refine pK_mk ?_ ?_ <;> (intro hc; (try simp only [go_sem, h0]); (try simp at hc); try (exfalso; omega))) | with_reducible refine And.intro (by first | omega | (unfold inI; omega)) ?_)
    have hk0 : ((k.toNat : Nat) : Int) = k := by omega
    refine pw_loop_over [0, 2, 3, 6, 7, 8, 9, 10, 11, 12, 13, 14, 15, 16, 17] (fun q : Nat × ByteArray => [(0, .d (.int .i64 (q.1 : Int))), (3, .d (.str q.2))]) (fun _ => []) 0 (fun q => digB k.toNat = digB q.1 ++ q.2 ∧ q.2.size + q.1 ≤ k.toNat) (fun q => q.1) (k.toNat, ⟨#[]⟩) ⟨ByteArray.append_empty.symm, by simp [ByteArray.size]⟩ (fits_mk [] (by simp [renL_d, bdL_d, sg, over, wipe, wl, memN, ins, rm, lk, fitFr, fit1, ren, renL, bd, bdL, app, fitHp, hget, renB, bdB, hk0] <;> omega)) ?_
    rintro ⟨n, out⟩ ⟨hJ, hS⟩
    simp only [over, wipe, wl, memN, ins, rm, if_true, if_false, Nat.reduceEqDiff, Bool.false_eq_true, reduceCtorEq]
    by_cases hn : 0 < n
    · have hm : (n : Int).tmod 10 = ((n % 10 : Nat) : Int) := by rw [Int.tmod_eq_emod_of_nonneg (by omega)]; omega
      have hq : (n : Int).tdiv 10 = ((n / 10 : Nat) : Int) := by rw [Int.tdiv_eq_ediv_of_nonneg (by omega)]; omega
      have hw : IntKind.u8.wrap (48 + ((n % 10 : Nat) : Int)) = 48 + ((n % 10 : Nat) : Int) := by rw [IntKind.wrap_u8]; omega
      have hsz : (strOfNums [48 + ((n % 10 : Nat) : Int)]).size = 1 := strOfNums_size _
      have hs2 := hS
      simp only at hs2
      generalize hd : strOfNums [48 + ((n % 10 : Nat) : Int)] = d at hsz
      repeat' (first | ((with_reducible first | (refine hK _ ?_; clear hK K) | refine stq fun K' hK' => ?_ | refine stc ?_); try simp only [go_sem, hn, hm, hq, hw]) | (with_reducible first | refine stp ?_ | (refine hK' _ ?_; clear hK' K') | refine kN kl133 fun K hK => ?_ | refine kO fun K hK => ?_) | refine iB ?_ | (with_reducible refine pK_mk ?_ ?_ <;> (intro hc; (try simp only [go_sem, hn, hm, hq, hw]); (try simp at hc); try (exfalso; omega))) | with_reducible refine And.intro (by first | omega | (unfold inI; omega)) ?_)
      all_goals first
        | omega
        | skip
      refine pq_toStr (xs := [48 + ((n % 10 : Nat) : Int)]) rfl (G_ok _ _ G72) Tryz.underlying5 (G_ok _ _ G9) rfl ?_
      rw [hd]
      repeat' (first | ((with_reducible first | (refine hK _ ?_; clear hK K) | refine stq fun K' hK' => ?_ | refine stc ?_); try simp only [go_sem, hq]) | (with_reducible first | refine stp ?_ | (refine hK' _ ?_; clear hK' K') | refine kN kl133 fun K hK => ?_ | refine kO fun K hK => ?_) | refine iB ?_ | (with_reducible refine pK_mk ?_ ?_ <;> (intro hc; (try simp only [go_sem, hq]); (try simp at hc); try (exfalso; omega))) | with_reducible refine And.intro (by first | omega | (unfold inI; omega)) ?_)
      all_goals first
        | omega
        | skip
      refine ⟨(n / 10, d ++ out), ⟨by rw [hJ, digB_pos hn, hd, ByteArray.append_assoc], by rw [ByteArray.size_append]; simp only; omega⟩, by simp only; omega, (fits_mk [] (by simp [renL_d, bdL_d, sg, over, wipe, wl, memN, ins, rm, lk, fitFr, fit1, ren, renL, bd, bdL, app, fitHp, hget, renB, bdB] <;> omega))⟩
    · obtain rfl : n = 0 := by omega
      have hs2 := hS
      simp only at hs2
      have hs1 : (⟨#[109]⟩ : ByteArray).size = 1 := rfl
      repeat' (first | ((with_reducible first | (refine hK _ ?_; clear hK K) | refine stq fun K' hK' => ?_ | refine stc ?_); try simp only [go_sem, hs1]) | (with_reducible first | refine stp ?_ | (refine hK' _ ?_; clear hK' K') | refine kN kl133 fun K hK => ?_ | refine kO fun K hK => ?_) | refine iB ?_ | (with_reducible refine pK_mk ?_ ?_ <;> (intro hc; (try simp only [go_sem, hs1]); (try simp at hc); try (exfalso; omega))) | with_reducible refine And.intro (by first | omega | (unfold inI; omega)) ?_)
      all_goals first
        | omega
        | skip
      refine retQ_ret rfl rfl (by simp [rowsOf, lk]) ?_; rw [mkText, if_neg h0, hJ, digB_zero, ByteArray.empty_append]
/-- the marks from q on -/
def mkS (q : Int) (n : Nat) : List ByteArray := (List.range n).map fun i : Nat => mkText (q + (i : Int))
theorem mkS_len (q : Int) (n : Nat) : (mkS q n).length = n := by simp [mkS]
theorem mkS_succ (q : Int) (n : Nat) : mkS q (n + 1) = mkS q n ++ [mkText (q + (n : Int))] := by unfold mkS; rw [List.range_succ]; simp
/-- the first k of them marked -/
def mkSTo (q : Int) (xs : List ByteArray) (k : Nat) : List ByteArray := mkS q k ++ xs.drop k
theorem mkSTo_zero (q : Int) (xs : List ByteArray) : mkSTo q xs 0 = xs := rfl
theorem mkSTo_end (q : Int) (xs : List ByteArray) : mkSTo q xs xs.length = mkS q xs.length := by unfold mkSTo; rw [List.drop_length, List.append_nil]
theorem mkSTo_len {q : Int} {xs : List ByteArray} {k : Nat} (hk : k ≤ xs.length) : (mkSTo q xs k).length = xs.length := by unfold mkSTo; rw [List.length_append, mkS_len, List.length_drop]; omega
theorem mkSTo_get {q : Int} {xs : List ByteArray} {k : Nat} (hk : k < xs.length) : (mkSTo q xs k)[k]? = some (xs[k]) := by unfold mkSTo; rw [List.getElem?_append_right (by rw [mkS_len]; exact Nat.le_refl _), mkS_len, Nat.sub_self, List.getElem?_drop]; simp
theorem mkSTo_set {k : Int} {i : Nat} {xs : List ByteArray} (h : i < xs.length) : (mkSTo k xs i).set i (mkText (k + (i : Int))) = mkSTo k xs (i + 1) := by
  unfold mkSTo
  rw [List.set_append_right _ _ (by rw [mkS_len]; exact Nat.le_refl _), mkS_len, Nat.sub_self, mkS_succ, List.append_assoc, List.drop_eq_getElem_cons h]
  rfl
theorem markStringS_ok (xs : List ByteArray) (q : Int) (hk : 0 ≤ q) (hb : q + (xs.length : Int) ≤ 1099511627776) : FnM Tryz.prog 134 1 (xs.map datS) [.int .i64 q] ((mkS q xs.length).map datS) [.int .i64 (q + (xs.length : Int))] := by
  refine fn_okM G_ok Tryz.func134 rfl rfl (by simp [D.sc]) (by simp [D.sc]) fun ty => ?_; simp only [Tryz.ntmps134, List.length_cons, List.length_nil, Nat.reduceAdd, Nat.reduceSub, List.map_cons, List.map_nil, List.length_map, enm]
  repeat' (first | ((with_reducible first | (refine hK _ ?_; clear hK K) | refine stq fun K' hK' => ?_ | refine stc ?_); try simp only [go_sem]) | (with_reducible first | refine stp ?_ | (refine hK' _ ?_; clear hK' K') | refine kN kl134 fun K hK => ?_ | refine kO fun K hK => ?_) | refine iB ?_ | (with_reducible refine pK_mk ?_ ?_ <;> (intro hc; (try simp only [go_sem]); (try simp at hc); try (exfalso; omega))) | with_reducible refine And.intro (by first | omega | (unfold inI; omega)) ?_)
  refine pw_loop_over [1, 4, 5, 6, 7, 8, 9, 10, 11, 12, 13, 14, 15, 16, 17, 18] (fun k : Nat => [(5, .d (.int .i64 (k : Int))), (1, .d (.int .i64 (q + (k : Int))))]) (fun k : Nat => [(0, .deep 1 ty 1 ((mkSTo q xs k).map datS))]) 1 (fun k : Nat => k ≤ xs.length) (fun k : Nat => xs.length - k) 0 (Nat.zero_le _) (fits_mk [] (by simp [renL_d, bdL_d, sg, over, wipe, wl, memN, ins, rm, lk, fitFr, fit1, ren, renL, bd, bdL, app, fitHp, hget, renB, bdB, mkSTo_zero] <;> omega)) ?_
  intro k hk
  have hL := mkSTo_len (q := q) hk
  simp only [over, wipe, wl, memN, ins, rm, if_true, if_false, Nat.reduceEqDiff, Bool.false_eq_true, reduceCtorEq]
  by_cases hlt : k < xs.length
  · have hx := mkSTo_get (q := q) hlt
    repeat' (first | ((with_reducible first | (refine hK _ ?_; clear hK K) | refine stq fun K' hK' => ?_ | refine stc ?_); try simp only [go_sem, hL, hlt, List.getElem?_map, hx, Option.map_some, datS]) | (with_reducible first | refine stp ?_ | (refine hK' _ ?_; clear hK' K') | refine kN kl134 fun K hK => ?_ | refine kO fun K hK => ?_) | ((with_reducible apply CallK.eq); (· with_reducible first | exact markText_ok (q + (k : Int)) (by omega)); (· simp [RV.flat, D.sc, datI]); try simp only [go_sem, hL, hlt, List.getElem?_map, hx, Option.map_some, datS]) | refine iB ?_ | (with_reducible refine pK_mk ?_ ?_ <;> (intro hc; (try simp only [go_sem, hL, hlt, List.getElem?_map, hx, Option.map_some, datS]); (try simp at hc); try (exfalso; omega))) | with_reducible refine And.intro (by first | omega | (unfold inI; omega)) ?_)
    have hst : ((mkSTo q xs k).map datS).set k [D.str (mkText (q + (k : Int)))] = (mkSTo q xs (k + 1)).map datS := by rw [← mkSTo_set hlt, List.map_set]; rfl
    refine po_store_deep (e := datS xs[k]) (ds := [.str (mkText (q + (k : Int)))]) rfl (G_ok _ _ G9) rfl rfl (by rw [List.getElem?_map, hx]; rfl) rfl rfl rfl rfl (Nat.le_refl _) ?_
    repeat' (first | ((with_reducible first | (refine hK _ ?_; clear hK K) | refine stq fun K' hK' => ?_ | refine stc ?_); try simp only [go_sem, datS]) | (with_reducible first | refine stp ?_ | (refine hK' _ ?_; clear hK' K') | refine kN kl134 fun K hK => ?_ | refine kO fun K hK => ?_) | refine iB ?_ | (with_reducible refine pK_mk ?_ ?_ <;> (intro hc; (try simp only [go_sem, datS]); (try simp at hc); try (exfalso; omega))) | with_reducible refine And.intro (by first | omega | (unfold inI; omega)) ?_)
    exact ⟨k + 1, by omega, by omega, (fits_mk [] (by simp [renL_d, bdL_d, sg, over, wipe, wl, memN, ins, rm, lk, fitFr, fit1, ren, renL, bd, bdL, app, fitHp, hget, renB, bdB, Int.add_assoc, hst] <;> omega))⟩
  · obtain rfl : k = xs.length := by omega
    repeat' (first | ((with_reducible first | (refine hK _ ?_; clear hK K) | refine stq fun K' hK' => ?_ | refine stc ?_); try simp only [go_sem, hL]) | (with_reducible first | refine stp ?_ | (refine hK' _ ?_; clear hK' K') | refine kN kl134 fun K hK => ?_ | refine kO fun K hK => ?_) | refine iB ?_ | (with_reducible refine pK_mk ?_ ?_ <;> (intro hc; (try simp only [go_sem, hL]); (try simp at hc); try (exfalso; omega))) | with_reducible refine And.intro (by first | omega | (unfold inI; omega)) ?_)
    rw [mkSTo_end]
    exact ⟨rfl, 0, rfl⟩
end Go.Proofs.YtphakidbddamfaaGreat

/-
  A list marked one by one, each element with numbers of its own: plain words. No program is named here.
-/
namespace Go.Proofs.YtphakidbddamfaaGreat
open Go.RowKit

section
variable {α : Type} (f : Int → α → α) (c : α → Nat)
def gMk : Int → List α → List α
  | _, [] => []
  | q, x :: l => f q x :: gMk (q + (c x : Int)) l
def gC (l : List α) : Nat := (l.map c).sum
def gAt (q : Int) (l : List α) (k : Nat) : Int := q + (gC c (l.take k) : Int)
def gTo (q : Int) (l : List α) (k : Nat) : List α := gMk f c q (l.take k) ++ l.drop k
def gH (q : Int) (l : List α) (k : Nat) (y : α) : List α := gMk f c q (l.take k) ++ y :: l.drop (k + 1)
end
section
variable {α : Type} {f : Int → α → α} {c : α → Nat}
theorem gC_succ {l : List α} {k : Nat} {x : α} (hx : l[k]? = some x) : gC c (l.take (k + 1)) = gC c (l.take k) + c x := by unfold gC; rw [take_snoc hx]; simp
theorem gC_take (l : List α) (k : Nat) : gC c (l.take k) ≤ gC c l := by
  have : l = l.take k ++ l.drop k := (List.take_append_drop k l).symm
  unfold gC
  conv => rhs; rw [this]
  rw [List.map_append, List.sum_append]
  omega
theorem gC_ge (h1 : ∀ x, 1 ≤ c x) : ∀ l : List α, l.length ≤ gC c l
  | [] => Nat.le_refl _
  | x :: l => by have h2 := gC_ge h1 l; have h3 := h1 x; simp [gC] at h2 ⊢; omega
theorem gMk_len : ∀ (q : Int) (l : List α), (gMk f c q l).length = l.length
  | _, [] => rfl
  | q, x :: l => by simp [gMk, gMk_len]
theorem gMk_append : ∀ (q : Int) (l l' : List α), gMk f c q (l ++ l') = gMk f c q l ++ gMk f c (q + (gC c l : Int)) l'
  | q, [], l' => by simp [gMk, gC]
  | q, x :: l, l' => by
    simp only [List.cons_append, gMk, gMk_append _ l l']
    congr 3
    simp [gC]
    omega
theorem gMk_snoc {q : Int} {l : List α} {k : Nat} {x : α} (hx : l[k]? = some x) : gMk f c q (l.take (k + 1)) = gMk f c q (l.take k) ++ [f (gAt c q l k) x] := by
  rw [take_snoc hx, gMk_append]
  rfl
theorem gMk_get {q : Int} {l : List α} {k : Nat} {x : α} (hx : l[k]? = some x) : (gMk f c q l)[k]? = some (f (gAt c q l k) x) := by
  have hk := (List.getElem?_eq_some_iff.1 hx).1
  have e : l = l.take (k + 1) ++ l.drop (k + 1) := (List.take_append_drop _ l).symm
  rw [e, gMk_append, gMk_snoc hx, ← e, List.getElem?_append_left (by simp [gMk_len]; omega), List.getElem?_append_right (by simp [gMk_len]; omega)]
  simp [gMk_len, Nat.min_eq_left (show k ≤ l.length by omega)]
theorem gTo_zero (q : Int) (l : List α) : gTo f c q l 0 = l := rfl
theorem gAt_zero (q : Int) (l : List α) : gAt c q l 0 = q := by simp [gAt, gC]
theorem gTo_end (q : Int) (l : List α) : gTo f c q l l.length = gMk f c q l := by unfold gTo; rw [List.take_length, List.drop_length, List.append_nil]
theorem gAt_end (q : Int) (l : List α) : gAt c q l l.length = q + (gC c l : Int) := by unfold gAt; rw [List.take_length]
theorem gTo_len {q : Int} {l : List α} {k : Nat} (hk : k ≤ l.length) : (gTo f c q l k).length = l.length := by unfold gTo; rw [List.length_append, gMk_len, List.length_drop, List.length_take]; omega
theorem gH_len {q : Int} {l : List α} {k : Nat} {y : α} (hk : k < l.length) : (gH f c q l k y).length = l.length := by unfold gH; rw [List.length_append, gMk_len, List.length_cons, List.length_drop, List.length_take]; omega
theorem gTo_get {q : Int} {l : List α} {k : Nat} {x : α} (hx : l[k]? = some x) : (gTo f c q l k)[k]? = some x := by
  have hk := (List.getElem?_eq_some_iff.1 hx).1
  unfold gTo
  rw [List.getElem?_append_right (by rw [gMk_len, List.length_take]; omega), gMk_len, List.length_take, Nat.min_eq_left (by omega), Nat.sub_self, List.getElem?_drop]
  exact hx
theorem gH_get {q : Int} {l : List α} {k : Nat} {y : α} (hk : k < l.length) : (gH f c q l k y)[k]? = some y := by
  unfold gH
  rw [List.getElem?_append_right (by rw [gMk_len, List.length_take]; omega), gMk_len, List.length_take, Nat.min_eq_left (by omega), Nat.sub_self]
  rfl
theorem gTo_set {q : Int} {l : List α} {k : Nat} {y : α} (hk : k < l.length) : (gTo f c q l k).set k y = gH f c q l k y := by
  unfold gTo gH
  rw [List.set_append_right _ _ (by rw [gMk_len, List.length_take]; omega), gMk_len, List.length_take, Nat.min_eq_left (by omega), Nat.sub_self, List.drop_eq_getElem_cons hk]
  rfl
theorem gH_set {q : Int} {l : List α} {k : Nat} {y z : α} (hk : k < l.length) : (gH f c q l k y).set k z = gH f c q l k z := by
  unfold gH
  rw [List.set_append_right _ _ (by rw [gMk_len, List.length_take]; omega), gMk_len, List.length_take, Nat.min_eq_left (by omega), Nat.sub_self]
  rfl
theorem gH_end {q : Int} {l : List α} {k : Nat} {x : α} (hx : l[k]? = some x) : gH f c q l k (f (gAt c q l k) x) = gTo f c q l (k + 1) := by
  unfold gTo gH
  rw [gMk_snoc hx, List.append_assoc]
  rfl
theorem gAt_succ {q : Int} {l : List α} {k : Nat} {x : α} (hx : l[k]? = some x) : gAt c q l (k + 1) = gAt c q l k + (c x : Int) := by unfold gAt; rw [gC_succ hx]; omega
end
end Go.Proofs.YtphakidbddamfaaGreat

/-
  Items marked and held by the laws' helpers, in the abstract machine.
-/
set_option linter.unusedSimpArgs false
set_option linter.unusedVariables false
set_option maxHeartbeats 2000000
set_option maxRecDepth 100000
namespace Go.Proofs.YtphakidbddamfaaGreat
open Go.ChangeShapes Go.WideShapes Go.ChangeAt Go.RowKit Go.Deep

def mkIt (q : Int) (x : ItemD) : ItemD := ⟨mkS q x.names.length, mkI (q + (x.names.length : Int)) x.marks.length, decide ((q + (x.names.length : Int) + (x.marks.length : Int)).tmod 3 = 0)⟩
def szM (x : ItemD) : Nat := x.names.length + x.marks.length + 1
theorem markItemS_ok (l : List ItemD) (q : Int) (hk : 0 ≤ q) (hb : q + (gC szM l : Int) ≤ 1099511627776) : FnM Tryz.prog 88 3 (l.map ItemD.dat) [.int .i64 q] ((gMk mkIt szM q l).map ItemD.dat) [.int .i64 (q + (gC szM l : Int))] := by
  have hlb := gC_ge (c := szM) (fun x => by unfold szM; omega) l
  refine fn_okM G_ok Tryz.func88 rfl rfl (by simp [D.sc]) (by simp [D.sc]) fun ty => ?_; simp only [Tryz.ntmps88, List.length_cons, List.length_nil, Nat.reduceAdd, Nat.reduceSub, List.map_cons, List.map_nil, List.length_map, enm]
  repeat' (first | ((with_reducible first | (refine hK _ ?_; clear hK K) | refine stq fun K' hK' => ?_ | refine stc ?_); try simp only [go_sem]) | (with_reducible first | refine stp ?_ | (refine hK' _ ?_; clear hK' K') | refine kN kl88 fun K hK => ?_ | refine kO fun K hK => ?_) | refine iB ?_ | (with_reducible refine pK_mk ?_ ?_ <;> (intro hc; (try simp only [go_sem]); (try simp at hc); try (exfalso; omega))) | with_reducible refine And.intro (by first | omega | (unfold inI; omega)) ?_)
  refine pw_loop_over [1, 4, 5, 6, 7, 8, 9, 10, 11, 12, 13, 14, 15, 16, 17, 18, 19, 20, 21, 22, 23, 24, 25, 26, 27, 28, 29, 30, 31, 32, 33, 34] (fun k : Nat => [(5, .d (.int .i64 (k : Int))), (1, .d (.int .i64 (gAt szM q l k)))]) (fun k : Nat => [(0, .deep 1 ty 3 ((gTo mkIt szM q l k).map ItemD.dat))]) 1 (fun k : Nat => k ≤ l.length) (fun k : Nat => l.length - k) 0 (Nat.zero_le _) (fits_mk [] (by simp [renL_d, bdL_d, sg, over, wipe, wl, memN, ins, rm, lk, fitFr, fit1, ren, renL, bd, bdL, app, fitHp, hget, renB, bdB, gTo_zero, gAt_zero] <;> omega)) ?_
  intro k hk
  have hL := gTo_len (f := mkIt) (c := szM) (q := q) hk
  have hct := gC_take (c := szM) l k
  have hat : gAt szM q l k = q + (gC szM (l.take k) : Int) := rfl
  simp only [over, wipe, wl, memN, ins, rm, if_true, if_false, Nat.reduceEqDiff, Bool.false_eq_true, reduceCtorEq]
  by_cases hlt : k < l.length
  · have hx0 := List.getElem?_eq_getElem hlt
    generalize l[k] = x at hx0
    have hct1 := gC_take (c := szM) l (k + 1)
    have hcs := gC_succ (c := szM) hx0
    have hsz : szM x = x.names.length + x.marks.length + 1 := rfl
    have hx := gTo_get (f := mkIt) (c := szM) (q := q) hx0
    have hsu := gAt_succ (c := szM) (q := q) hx0
    rw [hsz] at hsu
    have hend := gH_end (f := mkIt) (c := szM) (q := q) hx0
    generalize hq : gAt szM q l k = r at hat hsu hend
    have hg1 := gH_get (f := mkIt) (c := szM) (q := q) (y := ⟨mkS r x.names.length, x.marks, x.late⟩) hlt
    have hg2 := gH_get (f := mkIt) (c := szM) (q := q) (y := ⟨mkS r x.names.length, mkI (r + (x.names.length : Int)) x.marks.length, x.late⟩) hlt
    have hl1 := gH_len (f := mkIt) (c := szM) (q := q) (y := ⟨mkS r x.names.length, x.marks, x.late⟩) hlt
    have hl2 := gH_len (f := mkIt) (c := szM) (q := q) (y := ⟨mkS r x.names.length, mkI (r + (x.names.length : Int)) x.marks.length, x.late⟩) hlt
    have hs1 : ((gTo mkIt szM q l k).map ItemD.dat).set k [.lst 1 ((mkS r x.names.length).map datS), .lst 1 (x.marks.map datI), .bool x.late] = (gH mkIt szM q l k ⟨mkS r x.names.length, x.marks, x.late⟩).map ItemD.dat := by rw [← gTo_set hlt, List.map_set]; rfl
    have hs2 : ((gH mkIt szM q l k ⟨mkS r x.names.length, x.marks, x.late⟩).map ItemD.dat).set k [.lst 1 ((mkS r x.names.length).map datS), .lst 1 ((mkI (r + (x.names.length : Int)) x.marks.length).map datI), .bool x.late] = (gH mkIt szM q l k ⟨mkS r x.names.length, mkI (r + (x.names.length : Int)) x.marks.length, x.late⟩).map ItemD.dat := by have h := congrArg (List.map ItemD.dat) (gH_set (f := mkIt) (c := szM) (q := q) (y := ⟨mkS r x.names.length, x.marks, x.late⟩) (z := ⟨mkS r x.names.length, mkI (r + (x.names.length : Int)) x.marks.length, x.late⟩) hlt); rw [List.map_set] at h; exact h
    have hs3 : ((gH mkIt szM q l k ⟨mkS r x.names.length, mkI (r + (x.names.length : Int)) x.marks.length, x.late⟩).map ItemD.dat).set k [.lst 1 ((mkS r x.names.length).map datS), .lst 1 ((mkI (r + (x.names.length : Int)) x.marks.length).map datI), .bool (decide ((r + (x.names.length : Int) + (x.marks.length : Int)).tmod 3 = 0))] = (gTo mkIt szM q l (k + 1)).map ItemD.dat := by have h := congrArg (List.map ItemD.dat) (gH_set (f := mkIt) (c := szM) (q := q) (y := ⟨mkS r x.names.length, mkI (r + (x.names.length : Int)) x.marks.length, x.late⟩) (z := mkIt r x) hlt); rw [List.map_set, hend] at h; exact h
    repeat' (first | ((with_reducible first | (refine hK _ ?_; clear hK K) | refine stq fun K' hK' => ?_ | refine stc ?_); try simp only [go_sem, hL, hlt, List.getElem?_map, hx, Option.map_some, ItemD.dat, hq]) | (with_reducible first | refine stp ?_ | (refine hK' _ ?_; clear hK' K') | refine kN kl88 fun K hK => ?_ | refine kO fun K hK => ?_) | refine iB ?_ | (with_reducible refine pK_mk ?_ ?_ <;> (intro hc; (try simp only [go_sem, hL, hlt, List.getElem?_map, hx, Option.map_some, ItemD.dat, hq]); (try simp at hc); try (exfalso; omega))) | with_reducible refine And.intro (by first | omega | (unfold inI; omega)) ?_)
    refine CallK.po (po_callMa (ei := x.names.map datS) rfl rfl rfl rfl rfl (by simp [D.sc]) (by simp [D.sc]) rfl rfl (by simp [alC, hx, ItemD.dat]) (by simp) (by simp [mkS_len]) (markStringS_ok x.names r (by omega) (by omega)) ?_)
    repeat' (first | ((with_reducible first | (refine hK _ ?_; clear hK K) | refine stq fun K' hK' => ?_ | refine stc ?_); try simp only [go_sem, setC, List.getElem?_map, hx, Option.map_some, ItemD.dat, List.set_cons_succ, List.set_cons_zero, hs1, hL, hl1, hlt, hg1, List.length_map]) | (with_reducible first | refine stp ?_ | (refine hK' _ ?_; clear hK' K') | refine kN kl88 fun K hK => ?_ | refine kO fun K hK => ?_) | refine iB ?_ | (with_reducible refine pK_mk ?_ ?_ <;> (intro hc; (try simp only [go_sem, setC, List.getElem?_map, hx, Option.map_some, ItemD.dat, List.set_cons_succ, List.set_cons_zero, hs1, hL, hl1, hlt, hg1, List.length_map]); (try simp at hc); try (exfalso; omega))) | with_reducible refine And.intro (by first | omega | (unfold inI; omega)) ?_)
    refine CallK.po (po_callMa (ei := x.marks.map datI) rfl rfl rfl rfl rfl (by simp [D.sc]) (by simp [D.sc]) rfl rfl (by simp [alC, hg1, ItemD.dat]) (by simp) (by simp [mkI_len]) (markIntS_ok x.marks (r + (x.names.length : Int)) (by omega) (by omega)) ?_)
    repeat' (first | ((with_reducible first | (refine hK _ ?_; clear hK K) | refine stq fun K' hK' => ?_ | refine stc ?_); try simp only [go_sem, setC, List.getElem?_map, hg1, Option.map_some, ItemD.dat, List.set_cons_succ, List.set_cons_zero, hs2, hl2, hlt, hg2, List.length_map]) | (with_reducible first | refine stp ?_ | (refine hK' _ ?_; clear hK' K') | refine kN kl88 fun K hK => ?_ | refine kO fun K hK => ?_) | refine iB ?_ | (with_reducible refine pK_mk ?_ ?_ <;> (intro hc; (try simp only [go_sem, setC, List.getElem?_map, hg1, Option.map_some, ItemD.dat, List.set_cons_succ, List.set_cons_zero, hs2, hl2, hlt, hg2, List.length_map]); (try simp at hc); try (exfalso; omega))) | with_reducible refine And.intro (by first | omega | (unfold inI; omega)) ?_)
    refine po_store_deep (e := ItemD.dat ⟨mkS r x.names.length, mkI (r + (x.names.length : Int)) x.marks.length, x.late⟩) (ds := [.bool (decide ((r + (x.names.length : Int) + (x.marks.length : Int)).tmod 3 = 0))]) rfl (G_ok _ _ G4) rfl rfl (by rw [List.getElem?_map, hg2]; rfl) rfl rfl rfl rfl (by simp [ItemD.dat]; decide) ?_
    repeat' (first | ((with_reducible first | (refine hK _ ?_; clear hK K) | refine stq fun K' hK' => ?_ | refine stc ?_); try simp only [go_sem, ItemD.dat, spl]) | (with_reducible first | refine stp ?_ | (refine hK' _ ?_; clear hK' K') | refine kN kl88 fun K hK => ?_ | refine kO fun K hK => ?_) | refine iB ?_ | (with_reducible refine pK_mk ?_ ?_ <;> (intro hc; (try simp only [go_sem, ItemD.dat, spl]); (try simp at hc); try (exfalso; omega))) | with_reducible refine And.intro (by first | omega | (unfold inI; omega)) ?_)
    all_goals first
      | omega
      | skip
    exact ⟨k + 1, by omega, by omega, (fits_mk [] (by simp [renL_d, bdL_d, sg, over, wipe, wl, memN, ins, rm, lk, fitFr, fit1, ren, renL, bd, bdL, app, fitHp, hget, renB, bdB, hsu, hs3, hsz] <;> omega))⟩
  · obtain rfl : k = l.length := by omega
    repeat' (first | ((with_reducible first | (refine hK _ ?_; clear hK K) | refine stq fun K' hK' => ?_ | refine stc ?_); try simp only [go_sem, hL]) | (with_reducible first | refine stp ?_ | (refine hK' _ ?_; clear hK' K') | refine kN kl88 fun K hK => ?_ | refine kO fun K hK => ?_) | refine iB ?_ | (with_reducible refine pK_mk ?_ ?_ <;> (intro hc; (try simp only [go_sem, hL]); (try simp at hc); try (exfalso; omega))) | with_reducible refine And.intro (by first | omega | (unfold inI; omega)) ?_)
    rw [gTo_end, gAt_end]
    exact ⟨rfl, 0, rfl⟩
end Go.Proofs.YtphakidbddamfaaGreat
