/-
  Items after inquiries: the program's function and the reference's, in the abstract machine.
-/
import Derived.Test.YtphakidbddamfaaGreatZIc
import Derived.Test.YtphakidbddamfaaGreatZTk
import Derived.Test.YtphakidbddamfaaGreatZIn
import Derived.Test.YtphakidbddamfaaGreatZSg
import Derived.Test.YtphakidbddamfaaGreatZGr
set_option linter.unusedSimpArgs false
set_option linter.unusedVariables false
set_option maxHeartbeats 2000000
set_option maxRecDepth 100000
namespace Go.Proofs.YtphakidbddamfaaGreat
open Go.RowKit

end Go.Proofs.YtphakidbddamfaaGreat

/-
  Items after inquiries: the reference's function, in the abstract machine.
-/
set_option linter.unusedSimpArgs false
set_option linter.unusedVariables false
set_option maxHeartbeats 2000000
set_option maxRecDepth 100000
namespace Go.Proofs.YtphakidbddamfaaGreat
open Go.RowKit

end Go.Proofs.YtphakidbddamfaaGreat

/-
  Inquiries: AreInquiries, ItemsAfter, AsHistory, the program's functions and the reference's, in the abstract machine.
-/
set_option linter.unusedSimpArgs false
set_option linter.unusedVariables false
set_option maxHeartbeats 2000000
set_option maxRecDepth 100000
namespace Go.Proofs.YtphakidbddamfaaGreat
open Go.ChangeShapes Go.WideShapes Go.ChangeAt Go.RowKit Go.Deep

theorem eq_dataI {P : Program} {f : FuncId} {args : List PV} {rs : List RV} (h : FnEq P f args rs) : FnEq P f args (rs.map RV.data) := FnOK.data (h.mono fun _ e => by rw [e])
end Go.Proofs.YtphakidbddamfaaGreat

/-
  Scores after inquiries: the program's functions, in the abstract machine.
-/
set_option linter.unusedSimpArgs false
set_option linter.unusedVariables false
set_option maxHeartbeats 2000000
set_option maxRecDepth 100000
namespace Go.Proofs.YtphakidbddamfaaGreat
open Go.RowKit

theorem stepI_set {l : List ItemD} {i j m : Int} {b : ItemD} (hb : l[i.toNat]? = some b) : (l.map ItemD.dat).set i.toNat [.lst 1 (b.names.map datS), .lst 1 ((b.marks.map datI).set j.toNat [.int .i64 m]), .bool b.late] = (stepI l (oneI i j m)).map ItemD.dat := by
  rw [stepI, if_pos (show (oneI i j m).acc = true from rfl), show (oneI i j m).item.toNat = i.toNat from rfl, hb]
  simp only [List.map_set, setMk, ItemD.dat, datI, oneI]
theorem withCall_ok (l : List ItemD) (i j m : Int) (hn : l.length ≤ 1048576) (hs : ∀ r ∈ l, ItFit 1048576 r) (hv : ItsOk l) (hN : HasNm l i j) : FnEq Tryz.prog 75 [.d (.lst 3 (l.map ItemD.dat)), .d (.int .i64 i), .d (.int .i64 j), .d (.int .i64 m)] [.deep 143 3 ((stepI l (oneI i j m)).map ItemD.dat)] := by
  have hi0 := hN.1
  have hj0 := hN.2.1
  obtain ⟨a, b, mk, ha, hb, hnm, hml, hjn, hmn, hm, hmk⟩ := hN.there (q := []) hv 0
  rw [itTo_zero] at hb
  have hilt : i.toNat < l.length := (List.getElem?_eq_some_iff.1 ha).1
  have hjlt : j.toNat < b.marks.length := by omega
  have h0 : l.length ≠ 0 := by omega
  have hc1 := copyItems_ok l hn hs
  rw [show rvI l = _ from if_neg h0] at hc1
  have hset := stepI_set (j := j) (m := m) hb
  have hln := stepI_len l (oneI i j m)
  refine fn_ok G_ok Tryz.func75 rfl rfl ?_; simp only [Tryz.ntmps75, List.length_cons, List.length_nil, Nat.reduceAdd, Nat.reduceSub, enm]
  repeat' (first | ((with_reducible first | (refine hK _ ?_; clear hK K) | refine stq fun K' hK' => ?_ | refine stc ?_); try simp only [go_sem, List.getElem?_map, Option.map_some, ItemD.dat, hb, hilt, hjlt, hm, datI, List.length_map, hi0, hj0]) | (with_reducible first | refine stp ?_ | (refine hK' _ ?_; clear hK' K') | refine kN kl75 fun K hK => ?_ | refine kO fun K hK => ?_) | ((with_reducible apply CallK.eq); (· with_reducible first | exact hc1); (· simp [RV.flat, D.sc, datI]); try simp only [go_sem, List.getElem?_map, Option.map_some, ItemD.dat, hb, hilt, hjlt, hm, datI, List.length_map, hi0, hj0]) | (with_reducible refine pK_mk ?_ ?_ <;> (intro hc; (try simp only [go_sem, List.getElem?_map, Option.map_some, ItemD.dat, hb, hilt, hjlt, hm, datI, List.length_map, hi0, hj0]); (try simp at hc); try (exfalso; omega))) | with_reducible refine And.intro (by first | omega | (unfold inI; omega)) ?_)
  all_goals first
    | (exfalso; omega)
    | skip
  all_goals first
    | (refine po_store_al (es' := b.marks.map datI) (e1 := datI mk) (ds := [.int .i64 m]) rfl (G_ok _ _ G3) rfl rfl rfl (by simp [alC, hb, ItemD.dat]) (by rw [List.getElem?_map, hm]; rfl) rfl rfl rfl (Nat.le_refl _) ?_)
    | skip
  repeat' (first | ((with_reducible first | (refine hK _ ?_; clear hK K) | refine stq fun K' hK' => ?_ | refine stc ?_); try simp only [go_sem, setC, List.getElem?_map, hb, Option.map_some, ItemD.dat, List.set_cons_succ, List.set_cons_zero, spl, datI, hset]) | (with_reducible first | refine stp ?_ | (refine hK' _ ?_; clear hK' K') | refine kN kl75 fun K hK => ?_ | refine kO fun K hK => ?_) | (with_reducible refine pK_mk ?_ ?_ <;> (intro hc; (try simp only [go_sem, setC, List.getElem?_map, hb, Option.map_some, ItemD.dat, List.set_cons_succ, List.set_cons_zero, spl, datI, hset]); (try simp at hc); try (exfalso; omega))) | with_reducible refine And.intro (by first | omega | (unfold inI; omega)) ?_)
  all_goals first
    | (exfalso; omega)
    | ((refine retQ_ret rfl (by simp only [hln, retL, ret1, hget, lk, List.length_map, List.length_nil, List.length_append, List.length_take, if_true, if_false, Nat.reduceEqDiff, Nat.reduceBEq, Bool.false_eq_true, Option.some.injEq]; rfl) (by simp [rowsOf, lk]) ?_); rfl)
theorem scoreWith_ok (c : CodeD) (p : PerfD) (f : Int) (l : List ItemD) (h : AskP c (withI p l) f) : FnEq Tryz.prog 74 [.agg c.cs, .agg p.cs, .d (.int .i64 f), .d (.lst 3 (l.map ItemD.dat))] [.d (.int .i64 (segW c (withI p l) f))] := by
  have hs0 := segmentScore_ok c (withI p l) f h
  simp only [withI] at hs0
  refine fn_ok G_ok Tryz.func74 rfl rfl ?_; simp only [Tryz.ntmps74, List.length_cons, List.length_nil, Nat.reduceAdd, Nat.reduceSub, enm]
  repeat' (first | ((with_reducible first | (refine hK _ ?_; clear hK K) | refine stq fun K' hK' => ?_ | refine stc ?_); try simp only [go_sem]) | (with_reducible first | refine stp ?_ | (refine hK' _ ?_; clear hK' K') | refine kN kl74 fun K hK => ?_ | refine kO fun K hK => ?_) | ((with_reducible apply CallK.eq); (· with_reducible first | exact hs0); (· simp [RV.flat, D.sc, datI]); try simp only [go_sem]) | (with_reducible refine pK_mk ?_ ?_ <;> (intro hc; (try simp only [go_sem]); (try simp at hc); try (exfalso; omega))) | with_reducible refine And.intro (by first | omega | (unfold inI; omega)) ?_)
  all_goals first
    | (exfalso; omega)
    | (refine retQ_ret rfl rfl (by simp [rowsOf, lk]) ?_; rfl)
end Go.Proofs.YtphakidbddamfaaGreat

/-
  What an inquiry gains: the program's function, in the abstract machine.
-/
set_option linter.unusedSimpArgs false
set_option linter.unusedVariables false
set_option maxHeartbeats 2000000
set_option maxRecDepth 100000
namespace Go.Proofs.YtphakidbddamfaaGreat
open Go.RowKit

end Go.Proofs.YtphakidbddamfaaGreat
