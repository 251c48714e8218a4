/-
  Codes and performances: compared with themselves by the laws' helpers, in the abstract machine; opened as arguments.
-/
import Derived.Test.YtphakidbddamfaaGreatZPt
import Derived.Test.YtphakidbddamfaaGreatZM9
import Derived.Test.YtphakidbddamfaaGreatZMf
import Derived.Test.YtphakidbddamfaaGreatZSmall
import Derived.Test.YtphakidbddamfaaGreatZIs0
set_option linter.unusedSimpArgs false
set_option linter.unusedVariables false
set_option maxHeartbeats 2000000
set_option maxRecDepth 100000
namespace Go.Proofs.YtphakidbddamfaaGreat
open Go.ChangeShapes Go.WideShapes Go.ChangeAt Go.RowKit Go.Deep

theorem eqElement_same (x : ElementD) : FnEq Tryz.prog 130 [.agg [.d (.str x.name), .d (.int .i64 x.family), .d (.int .i64 x.level), .d (.int .i64 x.base)], .agg [.d (.str x.name), .d (.int .i64 x.family), .d (.int .i64 x.level), .d (.int .i64 x.base)]] [.d (.bool true)] := by
  refine fn_ok G_ok Tryz.func130 rfl rfl ?_; simp only [Tryz.ntmps130, List.length_cons, List.length_nil, Nat.reduceAdd, Nat.reduceSub, enm]
  repeat' (first | ((with_reducible first | (refine hK _ ?_; clear hK K) | refine stq fun K' hK' => ?_ | refine stc ?_); try simp only [go_sem]) | (with_reducible first | refine stp ?_ | (refine hK' _ ?_; clear hK' K') | refine kN kl130 fun K hK => ?_ | refine kO fun K hK => ?_) | (with_reducible refine pK_mk ?_ ?_ <;> (intro hc; (try simp only [go_sem]); (try simp at hc); try (exfalso; omega))) | with_reducible refine And.intro (by first | omega | (unfold inI; omega)) ?_)
  all_goals first
    | (exfalso; omega)
    | (refine retQ_ret rfl rfl (by simp [rowsOf, lk]) ?_; rfl)
theorem eqElementS_same (l : List ElementD) (hn : l.length ≤ 1048576) : FnEq Tryz.prog 77 [.d (.lst 4 (l.map ElementD.dat)), .d (.lst 4 (l.map ElementD.dat))] [.d (.bool true)] := by
  have hT : bP True = true := bP_true trivial
  refine fn_ok G_ok Tryz.func77 rfl rfl ?_; simp only [Tryz.ntmps77, List.length_cons, List.length_nil, Nat.reduceAdd, Nat.reduceSub, enm]
  repeat' (first | ((with_reducible first | (refine hK _ ?_; clear hK K) | refine stq fun K' hK' => ?_ | refine stc ?_); try simp only [go_sem]) | (with_reducible first | refine stp ?_ | (refine hK' _ ?_; clear hK' K') | refine kN kl77 fun K hK => ?_ | refine kO fun K hK => ?_) | refine iB ?_ | (with_reducible refine pw_seq_drawK kl77 G_ok mixed (by kernel_rfl) (fun K hK => ?_)) | (with_reducible refine pw_draw G_ok mixed (by kernel_rfl) ?_) | (with_reducible refine pK_mk ?_ ?_ <;> (intro hc; (try simp only [go_sem]); (try simp at hc); try (exfalso; omega))) | with_reducible refine And.intro (by first | omega | (unfold inI; omega)) ?_)
  refine pw_loop_over [4, 5, 11, 12, 13, 14, 15, 16, 17, 18, 19, 20, 21, 22, 23, 24, 25, 26] (fun k : Nat => [(5, .d (.int .i64 (k : Int)))]) (fun k : Nat => []) 0 (fun k : Nat => k ≤ l.length) (fun k : Nat => l.length - k) 0 (Nat.zero_le _) (fits_mk [] (by simp [renL_d, bdL_d, sg, over, wipe, wl, memN, ins, rm, lk, fitFr, fit1, ren, renL, bd, bdL, app, fitHp, hget, renB, bdB] <;> omega)) ?_
  intro k hkl
  simp only [over, wipe, wl, memN, ins, rm, if_true, if_false, Nat.reduceEqDiff, Bool.false_eq_true, reduceCtorEq]
  by_cases hlt : k < l.length
  · have hx := List.getElem?_eq_getElem hlt
    have hm := List.getElem_mem hlt
    generalize l[k] = x at hx hm
    repeat' (first | ((with_reducible first | (refine hK _ ?_; clear hK K) | refine stq fun K' hK' => ?_ | refine stc ?_); try simp only [go_sem, List.getElem?_map, hx, Option.map_some, ElementD.dat, hT]) | (with_reducible first | refine stp ?_ | (refine hK' _ ?_; clear hK' K') | refine kN kl77 fun K hK => ?_ | refine kO fun K hK => ?_) | ((with_reducible first | apply CallK.eq | apply CallQ.eqs); (· with_reducible first | exact eqElement_same x); (· first | exact rfl | (simp [RV.flat, D.sc, datI]; done)); try simp only [go_sem, List.getElem?_map, hx, Option.map_some, ElementD.dat, hT]) | refine iB ?_ | (with_reducible refine pw_seq_drawK kl77 G_ok mixed (by kernel_rfl) (fun K hK => ?_)) | (with_reducible refine pw_draw G_ok mixed (by kernel_rfl) ?_) | (with_reducible refine pK_mk ?_ ?_ <;> (intro hc; (try simp only [go_sem, List.getElem?_map, hx, Option.map_some, ElementD.dat, hT]); (try simp at hc); try (exfalso; omega))) | with_reducible refine And.intro (by first | omega | (unfold inI; omega)) ?_)
    all_goals first
      | (exfalso; omega)
      | exact ⟨k + 1, by omega, by omega, (fits_mk [] (by simp [renL_d, bdL_d, sg, over, wipe, wl, memN, ins, rm, lk, fitFr, fit1, ren, renL, bd, bdL, app, fitHp, hget, renB, bdB] <;> omega))⟩
  · repeat' (first | ((with_reducible first | (refine hK _ ?_; clear hK K) | refine stq fun K' hK' => ?_ | refine stc ?_); try simp only [go_sem]) | (with_reducible first | refine stp ?_ | (refine hK' _ ?_; clear hK' K') | refine kN kl77 fun K hK => ?_ | refine kO fun K hK => ?_) | refine iB ?_ | (with_reducible refine pw_seq_drawK kl77 G_ok mixed (by kernel_rfl) (fun K hK => ?_)) | (with_reducible refine pw_draw G_ok mixed (by kernel_rfl) ?_) | (with_reducible refine pK_mk ?_ ?_ <;> (intro hc; (try simp only [go_sem]); (try simp at hc); try (exfalso; omega))) | with_reducible refine And.intro (by first | omega | (unfold inI; omega)) ?_)
    refine retQ_ret rfl rfl (by simp [rowsOf, lk]) ?_; rfl
theorem eqIntSS_same (l : List (List Int)) (hn : l.length ≤ 1048576) (hs : ∀ r ∈ l, r.length ≤ 1048576) : FnEq Tryz.prog 27 [.d (.lst 1 (l.map (datL 1 datI))), .d (.lst 1 (l.map (datL 1 datI)))] [.d (.bool true)] := by
  have hT : bP True = true := bP_true trivial
  refine fn_ok G_ok Tryz.func27 rfl rfl ?_; simp only [Tryz.ntmps27, List.length_cons, List.length_nil, Nat.reduceAdd, Nat.reduceSub, enm]
  repeat' (first | ((with_reducible first | (refine hK _ ?_; clear hK K) | refine stq fun K' hK' => ?_ | refine stc ?_); try simp only [go_sem]) | (with_reducible first | refine stp ?_ | (refine hK' _ ?_; clear hK' K') | refine kN kl27 fun K hK => ?_ | refine kO fun K hK => ?_) | refine iB ?_ | (with_reducible refine pw_seq_drawK kl27 G_ok mixed (by kernel_rfl) (fun K hK => ?_)) | (with_reducible refine pw_draw G_ok mixed (by kernel_rfl) ?_) | (with_reducible refine pK_mk ?_ ?_ <;> (intro hc; (try simp only [go_sem]); (try simp at hc); try (exfalso; omega))) | with_reducible refine And.intro (by first | omega | (unfold inI; omega)) ?_)
  refine pw_loop_over [4, 5, 11, 12, 13, 14, 15, 16, 17, 18, 19, 20, 21, 22, 23, 24, 25, 26] (fun k : Nat => [(5, .d (.int .i64 (k : Int)))]) (fun k : Nat => []) 0 (fun k : Nat => k ≤ l.length) (fun k : Nat => l.length - k) 0 (Nat.zero_le _) (fits_mk [] (by simp [renL_d, bdL_d, sg, over, wipe, wl, memN, ins, rm, lk, fitFr, fit1, ren, renL, bd, bdL, app, fitHp, hget, renB, bdB] <;> omega)) ?_
  intro k hkl
  simp only [over, wipe, wl, memN, ins, rm, if_true, if_false, Nat.reduceEqDiff, Bool.false_eq_true, reduceCtorEq]
  by_cases hlt : k < l.length
  · have hx := List.getElem?_eq_getElem hlt
    have hm := List.getElem_mem hlt
    generalize l[k] = x at hx hm
    repeat' (first | ((with_reducible first | (refine hK _ ?_; clear hK K) | refine stq fun K' hK' => ?_ | refine stc ?_); try simp only [go_sem, List.getElem?_map, hx, Option.map_some, datL, hT]) | (with_reducible first | refine stp ?_ | (refine hK' _ ?_; clear hK' K') | refine kN kl27 fun K hK => ?_ | refine kO fun K hK => ?_) | ((with_reducible first | apply CallK.eq | apply CallQ.eqs); (· with_reducible first | exact eqIntS_ok x x (hs x hm) (Nat.le_trans (hs x hm) (by decide))); (· first | exact rfl | (simp [RV.flat, D.sc, datI]; done)); try simp only [go_sem, List.getElem?_map, hx, Option.map_some, datL, hT]) | refine iB ?_ | (with_reducible refine pw_seq_drawK kl27 G_ok mixed (by kernel_rfl) (fun K hK => ?_)) | (with_reducible refine pw_draw G_ok mixed (by kernel_rfl) ?_) | (with_reducible refine pK_mk ?_ ?_ <;> (intro hc; (try simp only [go_sem, List.getElem?_map, hx, Option.map_some, datL, hT]); (try simp at hc); try (exfalso; omega))) | with_reducible refine And.intro (by first | omega | (unfold inI; omega)) ?_)
    all_goals first
      | (exfalso; omega)
      | exact ⟨k + 1, by omega, by omega, (fits_mk [] (by simp [renL_d, bdL_d, sg, over, wipe, wl, memN, ins, rm, lk, fitFr, fit1, ren, renL, bd, bdL, app, fitHp, hget, renB, bdB] <;> omega))⟩
  · repeat' (first | ((with_reducible first | (refine hK _ ?_; clear hK K) | refine stq fun K' hK' => ?_ | refine stc ?_); try simp only [go_sem]) | (with_reducible first | refine stp ?_ | (refine hK' _ ?_; clear hK' K') | refine kN kl27 fun K hK => ?_ | refine kO fun K hK => ?_) | refine iB ?_ | (with_reducible refine pw_seq_drawK kl27 G_ok mixed (by kernel_rfl) (fun K hK => ?_)) | (with_reducible refine pw_draw G_ok mixed (by kernel_rfl) ?_) | (with_reducible refine pK_mk ?_ ?_ <;> (intro hc; (try simp only [go_sem]); (try simp at hc); try (exfalso; omega))) | with_reducible refine And.intro (by first | omega | (unfold inI; omega)) ?_)
    refine retQ_ret rfl rfl (by simp [rowsOf, lk]) ?_; rfl
theorem eqCode_same (c : CodeD) (hf : CdFit 1048576 c) : FnEq Tryz.prog 16 [.agg c.cs, .agg c.cs] [.d (.bool true)] := by
  have hT : bP True = true := bP_true trivial
  obtain ⟨hf1, hf2, hf3⟩ := hf
  refine fn_ok G_ok Tryz.func16 rfl rfl ?_; simp only [Tryz.ntmps16, List.length_cons, List.length_nil, Nat.reduceAdd, Nat.reduceSub, enm]
  repeat' (first | ((with_reducible first | (refine hK _ ?_; clear hK K) | refine stq fun K' hK' => ?_ | refine stc ?_); try simp only [go_sem, hT]) | (with_reducible first | refine stp ?_ | (refine hK' _ ?_; clear hK' K') | refine kN kl16 fun K hK => ?_ | refine kO fun K hK => ?_) | ((with_reducible apply CallK.eq); (· with_reducible first | exact eqElementS_same c.elements hf1 | exact eqIntS_ok c.limits c.limits hf3 (by omega)); (· simp [RV.flat, D.sc, datI]); try simp only [go_sem, hT]) | (with_reducible refine pK_mk ?_ ?_ <;> (intro hc; (try simp only [go_sem, hT]); (try simp at hc); try (exfalso; omega))) | with_reducible refine And.intro (by first | omega | (unfold inI; omega)) ?_)
  all_goals first
    | (exfalso; omega)
    | (refine retQ_ret rfl rfl (by simp [rowsOf, lk]) ?_; rfl)
theorem eqMarks_same (m : MarksD) (hf : MkFit 1048576 m) : FnEq Tryz.prog 80 [.agg m.cs, .agg m.cs] [.d (.bool true)] := by
  have hT : bP True = true := bP_true trivial
  obtain ⟨⟨hf1, hf2⟩, hf3, hf4⟩ := hf
  refine fn_ok G_ok Tryz.func80 rfl rfl ?_; simp only [Tryz.ntmps80, List.length_cons, List.length_nil, Nat.reduceAdd, Nat.reduceSub, enm]
  repeat' (first | ((with_reducible first | (refine hK _ ?_; clear hK K) | refine stq fun K' hK' => ?_ | refine stc ?_); try simp only [go_sem, hT]) | (with_reducible first | refine stp ?_ | (refine hK' _ ?_; clear hK' K') | refine kN kl80 fun K hK => ?_ | refine kO fun K hK => ?_) | ((with_reducible apply CallK.eq); (· with_reducible first | exact eqIntSS_same m.grades hf1 hf2 | exact eqIntSS_same m.components hf3 hf4); (· simp [RV.flat, D.sc, datI]); try simp only [go_sem, hT]) | (with_reducible refine pK_mk ?_ ?_ <;> (intro hc; (try simp only [go_sem, hT]); (try simp at hc); try (exfalso; omega))) | with_reducible refine And.intro (by first | omega | (unfold inI; omega)) ?_)
  all_goals first
    | (exfalso; omega)
    | (refine retQ_ret rfl rfl (by simp [rowsOf, lk]) ?_; rfl)
theorem eqSlips_same (s : SlipsD) : FnEq Tryz.prog 81 [.agg s.cs, .agg s.cs] [.d (.bool true)] := by
  have hT : bP True = true := bP_true trivial
  refine fn_ok G_ok Tryz.func81 rfl rfl ?_; simp only [Tryz.ntmps81, List.length_cons, List.length_nil, Nat.reduceAdd, Nat.reduceSub, enm]
  repeat' (first | ((with_reducible first | (refine hK _ ?_; clear hK K) | refine stq fun K' hK' => ?_ | refine stc ?_); try simp only [go_sem, hT]) | (with_reducible first | refine stp ?_ | (refine hK' _ ?_; clear hK' K') | refine kN kl81 fun K hK => ?_ | refine kO fun K hK => ?_) | (with_reducible refine pK_mk ?_ ?_ <;> (intro hc; (try simp only [go_sem, hT]); (try simp at hc); try (exfalso; omega))) | with_reducible refine And.intro (by first | omega | (unfold inI; omega)) ?_)
  all_goals first
    | (exfalso; omega)
    | (refine retQ_ret rfl rfl (by simp [rowsOf, lk]) ?_; rfl)
theorem eqPerformance_same (p : PerfD) (hf : PfFit 1048576 p) : FnEq Tryz.prog 17 [.agg p.cs, .agg p.cs] [.d (.bool true)] := by
  have hT : bP True = true := bP_true trivial
  obtain ⟨⟨hf1, hf2⟩, hf3⟩ := hf
  have hf4 : ∀ x ∈ p.items, ItFit 9223372036854775807 x := fun x hx => (hf2 x hx).mono (by decide)
  refine fn_ok G_ok Tryz.func17 rfl rfl ?_; simp only [Tryz.ntmps17, List.length_cons, List.length_nil, Nat.reduceAdd, Nat.reduceSub, enm]
  repeat' (first | ((with_reducible first | (refine hK _ ?_; clear hK K) | refine stq fun K' hK' => ?_ | refine stc ?_); try simp only [go_sem, hT]) | (with_reducible first | refine stp ?_ | (refine hK' _ ?_; clear hK' K') | refine kN kl17 fun K hK => ?_ | refine kO fun K hK => ?_) | ((with_reducible apply CallK.eq); (· with_reducible first | exact eqItemS_ok p.items p.items hf1 (by omega) hf2 hf4 | exact eqMarks_same p.marks hf3 | exact eqSlips_same p.slips); (· simp [RV.flat, D.sc, datI]); try simp only [go_sem, hT]) | (with_reducible refine pK_mk ?_ ?_ <;> (intro hc; (try simp only [go_sem, hT]); (try simp at hc); try (exfalso; omega))) | with_reducible refine And.intro (by first | omega | (unfold inI; omega)) ?_)
  all_goals first
    | (exfalso; omega)
    | (refine retQ_ret rfl rfl (by simp [rowsOf, lk]) ?_; rfl)
section
variable {H : Type} {enc : TypeId × Value → H} {w : World} {base : Nat} {spare : Nat → Bool} {held : Bool}
set_option maxRecDepth 100000 in
theorem open_element : OpenK enc Tryz.prog w base spare held ElementD.dat (fun x => x.name.size ≤ maxLen) 156 4 :=
  OpenK.map (OpenK.st (OpenFs.cons (OpenK.str Tryz.underlying9) rfl (by kernel_rfl) (OpenFs.cons (OpenK.int Tryz.underlying3) rfl (by kernel_rfl) (OpenFs.cons (OpenK.int Tryz.underlying3) rfl (by kernel_rfl) (OpenFs.cons (OpenK.int Tryz.underlying3) rfl (by kernel_rfl) (OpenFs.nil 4))))) Tryz.underlying156 (by kernel_rfl))
    (fun p => (⟨p.1, p.2.1, p.2.2.1, p.2.2.2.1⟩ : ElementD)) ElementD.dat _ (fun _ => rfl) (fun _ => rfl) (fun _ h => h.1)
set_option maxRecDepth 100000 in
theorem open_code : OpenK enc Tryz.prog w base spare held CodeD.dat (fun c => CdFit maxLen c) 25 6 :=
  OpenK.map (OpenK.st (OpenFs.cons (OpenK.slc open_element Tryz.underlying22 (by kernel_rfl) (by decide)) rfl (by kernel_rfl) (OpenFs.cons open_intS0 rfl (by kernel_rfl) (OpenFs.cons (OpenK.int Tryz.underlying3) rfl (by kernel_rfl) (OpenFs.cons (OpenK.int Tryz.underlying3) rfl (by kernel_rfl) (OpenFs.cons (OpenK.int Tryz.underlying3) rfl (by kernel_rfl) (OpenFs.cons (OpenK.int Tryz.underlying3) rfl (by kernel_rfl) (OpenFs.nil 6))))))) Tryz.underlying25 (by kernel_rfl))
    (fun p => (⟨p.1, p.2.1, p.2.2.1, p.2.2.2.1, p.2.2.2.2.1, p.2.2.2.2.2.1⟩ : CodeD)) CodeD.dat _ (fun _ => rfl) (fun _ => rfl) (fun _ h => ⟨h.1.1, h.1.2, h.2.1.1⟩)
set_option maxRecDepth 100000 in
theorem open_intSS : OpenK enc Tryz.prog w base spare held (datL 1 (datL 1 datI)) (fun l => l.length ≤ maxLen ∧ ∀ g ∈ l, g.length ≤ maxLen ∧ ∀ x ∈ g, True) 27 1 :=
  OpenK.slc open_intS0 Tryz.underlying27 (by kernel_rfl) (by decide)
set_option maxRecDepth 100000 in
theorem open_marks : OpenK enc Tryz.prog w base spare held MarksD.dat (fun m => MkFit maxLen m) 29 2 :=
  OpenK.map (OpenK.st (OpenFs.cons open_intSS rfl (by kernel_rfl) (OpenFs.cons open_intSS rfl (by kernel_rfl) (OpenFs.nil 2))) Tryz.underlying29 (by kernel_rfl))
    (fun p => (⟨p.1, p.2.1⟩ : MarksD)) MarksD.dat _ (fun _ => rfl) (fun _ => rfl) (fun _ h => ⟨⟨h.1.1, fun g hg => (h.1.2 g hg).1⟩, h.2.1.1, fun g hg => (h.2.1.2 g hg).1⟩)
set_option maxRecDepth 100000 in
theorem open_slips : OpenK enc Tryz.prog w base spare held SlipsD.dat (fun _ => True) 31 3 :=
  OpenK.map (OpenK.st (OpenFs.cons (OpenK.int Tryz.underlying3) rfl (by kernel_rfl) (OpenFs.cons (OpenK.int Tryz.underlying3) rfl (by kernel_rfl) (OpenFs.cons (OpenK.int Tryz.underlying3) rfl (by kernel_rfl) (OpenFs.nil 3)))) Tryz.underlying31 (by kernel_rfl))
    (fun p => (⟨p.1, p.2.1, p.2.2.1⟩ : SlipsD)) SlipsD.dat _ (fun _ => rfl) (fun _ => rfl) (fun _ _ => trivial)
set_option maxRecDepth 100000 in
theorem open_perf : OpenK enc Tryz.prog w base spare held PerfD.dat (fun p => PfFit maxLen p) 33 6 :=
  OpenK.map (OpenK.st (OpenFs.cons open_itemS rfl (by kernel_rfl) (OpenFs.cons open_marks rfl (by kernel_rfl) (OpenFs.cons open_slips rfl (by kernel_rfl) (OpenFs.nil 6)))) Tryz.underlying33 (by kernel_rfl))
    (fun p => (⟨p.1, p.2.1, p.2.2.1⟩ : PerfD)) PerfD.dat _ (fun _ => rfl) (fun _ => rfl) (fun _ h => ⟨h.1, h.2.1⟩)
end
end Go.Proofs.YtphakidbddamfaaGreat

/-
  The abstract machine: functions that change a box given by pointer (methods on a cursor). No program is named here.
-/
namespace Go.Proofs.YtphakidbddamfaaGreat
open Go.RowKit

/-- a box of the call's own, or one that it was given -/
def mkB (q : Option Nat) (ty : TypeId) (cs : List PV) : Blk := match q with
  | none => .box ty cs
  | some p => .pbox p ty cs
theorem mkB_plain (q : Option Nat) (ty : TypeId) (cs : List PV) : (mkB q ty cs).plain = true := by cases q <;> rfl
theorem mkB_ty (q : Option Nat) (ty : TypeId) (cs : List PV) : (mkB q ty cs).ty = ty := by cases q <;> rfl
theorem mkB_pin (q : Option Nat) (ty : TypeId) (cs : List PV) : (mkB q ty cs).pinOf = q := by cases q <;> rfl
theorem mkB_cells {m : Nat → Option Loc} {X : Nat → Prop} {w : World} {arr : Array Value} {c : Nat} {q : Option Nat} {ty : TypeId} {cs : List PV} : (mkB q ty cs).cellsOk m X w arr c ↔ (arr.size = cs.length ∧ ∀ (j : Nat) (x : PV) (v : Value), cs[j]? = some x → arr[j]? = some v → R m X w x v ∧ v.oneCell' = true) := by cases q <;> exact Iff.rfl
theorem mkB_has {m : Mp} {id b : Nat} {q : Option Nat} {ty : TypeId} {cs : List PV} : (mkB q ty cs).has m id b ↔ ∃ c, m.loc id = some (.blk b c) := by cases q <;> exact Iff.rfl

/-- what a call returns: its results, or a struct of them -/
def bV (st : Bool) (vs : Array Value) : Value := match st with
  | true => .agg vs
  | false => retV vs
def bPV (st : Bool) (nx : Nat) (rs : List RV) : PV := match st with
  | true => .agg (pvs nx rs)
  | false => resPV nx rs
def ResC (X : Nat → Prop) (w : World) (b : Nat) (ty : TypeId) (n : Nat) (cs' : List D) (rs : List RV) (e : Ending) (w' : World) (st : Bool := false) : Prop :=
  ∃ (vs : Array Value) (gs : Nat → Nat → Prop) (arr' : Array Value), e = .returned (bV st vs) ∧ vs.size = rs.length ∧ KeepB ⟨w, fun x => x = b, fun _ => none⟩ w w' ∧
    w'.heap[b]? = some (.cells arr' ty (0, 0)) ∧ arr'.size = n ∧ cs'.length = n ∧ (∀ (j : Nat) (v : Value), arr'[j]? = some v → v.oneCell' = true) ∧
    (∀ i j x, gs i x → gs j x → i = j) ∧ (∀ i x, gs i x → i < rs.length) ∧
    (∀ (i : Nat) (r : RV) (v : Value), rs[i]? = some r → vs[i]? = some v → RR (fun x => X x ∨ ∃ j, gs j x) w.heap.size w' r v (gs i)) ∧
    ∀ (j : Nat) (d : D) (v : Value), cs'[j]? = some d → arr'[j]? = some v → Rd w' (fun x => X x ∨ ∃ j, gs j x) d v
/-- a contract: the function is given a pointer to a box of n cells cs, and plain arguments; it may change the box -/
def FnC (P : Program) (f : FuncId) (n : Nat) (args : List D) (cs : List D) (Post : List D → List RV → Prop) (st : Bool := false) : Prop :=
  (Enters P f ∧ cs.length = n) ∧ ∀ (w : World) (X : Nat → Prop) (b : Nat) (ty : TypeId) (arr : Array Value) (vals : Array Value), (∀ x, X x → x < w.heap.size) → X b → w.heap[b]? = some (.cells arr ty (0, 0)) → arr.size = n →
    (∀ (j : Nat) (d : D) (v : Value), cs[j]? = some d → arr[j]? = some v → Rd w X d v ∧ v.oneCell' = true) → vals.size = args.length → (∀ (i : Nat) (x : D) (v : Value), args[i]? = some x → vals[i]? = some v → Rd w X x v) →
    Calls P f (#[.pointer (some ⟨b, 0, none⟩)] ++ vals) w fun e w' => ∃ cs' rs, Post cs' rs ∧ ResC X w b ty n cs' rs e w' st
theorem FnC.mono {P : Program} {f : FuncId} {n : Nat} {args cs : List D} {Post Post' : List D → List RV → Prop} {st : Bool} (h : FnC P f n args cs Post st) (hp : ∀ cs' rs, Post cs' rs → Post' cs' rs) : FnC P f n args cs Post' st :=
  ⟨h.1, fun w X b ty arr vals h1 h2 h3 h4 h5 h6 h7 => (h.2 w X b ty arr vals h1 h2 h3 h4 h5 h6 h7).mono fun _ _ ⟨cs', rs, h9, h10⟩ => ⟨cs', rs, hp _ _ h9, h10⟩⟩

/-- rows of the call's own, as plain data -/
def RV.data : RV → RV
  | .row _ sz es => .d (.lst sz es)
  | .deep _ sz es => .d (.lst sz es)
  | r => r
theorem RR.data {Y Y' : Nat → Prop} {B : Nat} {w : World} {r : RV} {v : Value} {g : Nat → Prop} (h : RR Y B w r v g) (hY : ∀ x, Y' x → Y x) (hB : ∀ x, Y' x → x < B) : RR Y' B w r.data v (fun _ => False) := by
  have hst : Stay w w Y Y' := fun x _ hx => ⟨rfl, fun h' => hx (hY x h')⟩
  cases h with
  | d x v h => exact .d _ _ (h.mono hst)
  | agg ds vs hl h => exact .agg _ _ hl fun i d v hd hv => (h i d v hd hv).mono hst
  | nil ty sz => exact .d _ _ (.nil _ _ _)
  | row ty sz es g c arr hg hh hc =>
    refine .d _ _ (.lst sz es g 0 c hc.2.1 hc.2.2.2.1 (fun k e j d he hd => ?_) (fun k e j d u he hd hu => ?_))
    · obtain ⟨u, p1, _, _⟩ := row_cell hc hh he hd
      exact ⟨fun h' => by have := hB g h'; omega, u, by rw [Nat.zero_add]; exact p1⟩
    · obtain ⟨u', p1, _, p3⟩ := row_cell hc hh he hd
      rw [Nat.zero_add, p1] at hu
      cases hu
      exact p3.mono hst
  | dnil ty sz => exact .d _ _ (.nil _ _ _)
  | deep ty sz es g c F hg hF hd =>
    have ht : Tr w (fun x => F x ∨ x = g) (.lst sz es) (.slice (some ⟨g, 0, none⟩) es.length c) := hd.tr (.inr rfl) fun x hx => .inl hx
    refine .d _ _ (ht.rd fun x hx h' => ?_)
    have := hB x h'
    rcases hx with hx | rfl
    · have := (hF x hx).1; omega
    · omega
theorem ResC.data {X : Nat → Prop} {w : World} {b : Nat} {ty : TypeId} {n : Nat} {cs' : List D} {rs : List RV} {e : Ending} {w' : World} {st : Bool} (hX : ∀ x, X x → x < w.heap.size) (h : ResC X w b ty n cs' rs e w' st) : ResC X w b ty n cs' (rs.map RV.data) e w' st := by
  obtain ⟨vs, gs, arr', h1, h2, h3, h4, h5, h6, h7, h8, h9, h10, h11⟩ := h
  refine ⟨vs, fun _ _ => False, arr', h1, by simpa using h2, h3, h4, h5, h6, h7, fun i j x h => h.elim, fun i x h => h.elim, fun i r v hr hv => ?_, fun j d v hd hv => ?_⟩
  · rw [List.getElem?_map] at hr
    cases hi : rs[i]? with
    | none => rw [hi] at hr; cases hr
    | some r0 =>
      rw [hi] at hr
      cases hr
      exact (h10 i r0 v hi hv).data (fun x h => h.elim .inl fun ⟨_, h⟩ => h.elim) fun x h => h.elim (hX x) fun ⟨_, h⟩ => h.elim
  · exact (h11 j d v hd hv).mono fun x _ hx => ⟨rfl, fun h => h.elim (fun h => hx (.inl h)) fun ⟨_, h⟩ => h.elim⟩
theorem FnC.data {P : Program} {f : FuncId} {n : Nat} {args cs : List D} {Post : List D → List RV → Prop} {st : Bool} (h : FnC P f n args cs (fun cs' rs => Post cs' (rs.map RV.data)) st) : FnC P f n args cs Post st :=
  ⟨h.1, fun w X b ty arr vals h1 h2 h3 h4 h5 h6 h7 => (h.2 w X b ty arr vals h1 h2 h3 h4 h5 h6 h7).mono fun _ _ ⟨cs', _, h9, h10⟩ => ⟨cs', _, h9, h10.data h1⟩⟩
theorem FnOK.data {P : Program} {f : FuncId} {args : List PV} {Post : List RV → Prop} (h : FnOK P f args fun rs => Post (rs.map RV.data)) : FnOK P f args Post :=
  ⟨h.1, fun w X vals h1 h2 h3 => (h.2 w X vals h1 h2 h3).mono fun _ _ ⟨rs, h9, vs, _, q1, q2, q3, _, q5⟩ => ⟨_, h9, vs, fun _ _ => False, q1, by simpa using q2, q3, fun i j x h => h.elim, fun i r v hr hv => by
    rw [List.getElem?_map] at hr
    cases hi : rs[i]? with
    | none => rw [hi] at hr; cases hr
    | some r0 =>
      rw [hi] at hr
      cases hr
      exact (q5 i r0 v hi hv).data (fun x h => h.elim .inl fun ⟨_, h⟩ => h.elim) fun x h => h.elim (h1 x) fun ⟨_, h⟩ => h.elim⟩⟩

section rules
variable {P : Program} {o : Oper} {s : AS} {K : AS → Prop}
theorem hset_hps (hp : List (Nat × Blk)) (id nx : Nat) (b : Blk) (hid : id < nx) : ∀ rs : List RV, ∀ j, nx ≤ j → hset (hps j rs ++ hp) id b = hps j rs ++ hset hp id b
  | [], j, _ => rfl
  | r :: rs, j, hj => by
    have ih := hset_hps hp id nx b hid rs (j + 1) (by omega)
    have hne : ¬ id = j := by omega
    cases r <;> simp [hps, hset, ih, hne]
theorem hps_d (nx : Nat) : ∀ (rs : List RV) (ds : List D), hps nx (rs ++ ds.map .d) = hps nx rs
  | [], [] => rfl
  | [], d :: ds => by
    have := hps_d (nx + 1) [] ds
    simpa [hps] using this
  | r :: rs, ds => by
    have := hps_d (nx + 1) rs ds
    cases r <;> simp [hps, this]
theorem po_callB {f x0 : Operand} {ys : List Operand} {args : Array Operand} {argTypes : Array TypeId} {fid : FuncId} {id n : Nat} {q : Option Nat} {ty : TypeId} {cs ds : List D} {Post : List D → List RV → Prop} {st : Bool}
    (ho : o.op = .call { callee := .value f, args := args, argTypes := argTypes }) (hf : s.get f = .fn fid []) (ha : args.toList = x0 :: ys) (hx : s.get x0 = .bptr id 0) (hg : hget s.hp id = some (mkB q ty (cs.map .d))) (hd : frzL s.hp (ys.map s.get) = some ds)
    (hok : FnC P fid n ds cs Post st)
    (hK : ∀ cs' rs, Post cs' rs → cs'.length = n → K (AS.put ⟨s.fr, hset (hps s.nx rs ++ hdels s.hp (rowIds (ys.map s.get))) id (mkB q ty (cs'.map .d)), s.nx + (rs.length + n)⟩ o.dst (bPV st s.nx rs))) : PO P o s K := by
  intro X0 w0 m a w Q hs
  obtain ⟨⟨⟨fn, e1, e2, e3⟩, hn⟩, hcall⟩ := hok
  have hfv := hs.get f
  rw [hf] at hfv
  have hfe : a.eval f = .func (.func fid) #[] #[] := by
    generalize a.eval f = v at hfv
    cases hfv with
    | fn _ _ vs hl h => have : vs = #[] := Array.eq_empty_of_size_eq_zero hl; subst this; rfl
  have hxv := hs.get x0
  rw [hx] at hxv
  obtain ⟨b, c, hm, hxe⟩ := hxv.bptr_inv
  have hvals : args.map a.eval = #[.pointer (some ⟨b, 0, none⟩)] ++ (ys.map a.eval).toArray := by
    apply Array.ext'
    rw [Array.toList_map, ha]
    simp [hxe]
  have hrun : (execOp a.eval o).run P w = .ok (.enter fid (args.map a.eval)) w := by
    have e2' : ¬ fn.name = "runtime.NumGoroutine" := by simpa using e2
    have e3' : ¬ fn.body = none := fun h => by rw [h] at e3; cases e3
    simp [execOp, ho, resolve, hfe, Deferred.ofValue, invoke, callFunc, e1]
    rw [if_neg e2', if_neg e3']
  unfold Oper.wp
  rw [hrun]
  simp only [Oper.upon_enter]
  rw [hvals]
  -- the given rows are let go
  let ids := rowIds (ys.map s.get)
  have hidn : id ∉ ids := by
    intro hmem
    obtain ⟨ty', sz', es', h'⟩ := frzL_rows hd id hmem
    rw [h'] at hg
    cases q <;> cases hg
  have hgid : hget (hdels s.hp ids) id = some (mkB q ty (cs.map .d)) := by rw [hget_hdels, if_neg hidn]; exact hg
  have hs0 : Sim X0 w0 m ⟨s.fr, hdels s.hp ids, s.nx⟩ a w := hs.kill (hdels s.hp ids) (fun id blk hb => by rw [hget_hdels] at hb; split at hb; cases hb; exact hb) (fun id par k j ha => by
      rw [hget_hdels] at ha
      split at ha
      · cases ha
      · obtain ⟨q, ty, sz, es, _, _, _, _, _, _, a1, _⟩ := hs.al id par k j ha
        rw [hget_hdels]
        split
        · rename_i hmem
          obtain ⟨ty', sz', es', h'⟩ := frzL_rows hd par hmem
          rw [h'] at a1; cases a1
        · rfl)
  let s0 : AS := ⟨s.fr, hdels s.hp ids, s.nx⟩
  let X := Owned X0 m (hdels s.hp ids)
  have hXlt : ∀ x, X x → x < w.heap.size := fun x hx => hs0.lt_size hx
  have hXb : X b := .inr ⟨id, _, hgid, mkB_has.2 ⟨c, hm⟩⟩
  obtain ⟨arr, hh, hce⟩ := hs0.blk hgid hm (mkB_plain q ty _)
  rw [mkB_ty] at hh
  have hce' := mkB_cells.1 hce
  have hcs : ∀ (j : Nat) (d : D) (v : Value), cs[j]? = some d → arr[j]? = some v → Rd w X d v ∧ v.oneCell' = true := by
    intro j d v hj hv
    have := hce'.2 j (.d d) v (by rw [List.getElem?_map, hj]; rfl) hv
    exact ⟨this.1.rd, this.2⟩
  obtain ⟨f1, f2⟩ := frzL_get hd
  refine (hcall w X b ty arr _ hXlt hXb hh (by rw [hce'.1]; simpa using hn) hcs (by simp [f1]) fun i x v hi hv => ?_).mono ?_
  · have hlt : i < (ys.map s.get).length := by rw [← f1]; exact (List.getElem?_eq_some_iff.1 hi).1
    have hyl : i < ys.length := by simpa using hlt
    have hv' : v = a.eval ys[i] := by
      simp [hyl] at hv
      exact hv.symm
    subst hv'
    have hyg : (ys.map s.get)[i]? = some (s.get ys[i]) := by rw [List.getElem?_map, List.getElem?_eq_getElem hyl]; rfl
    exact frz_R hs (f2 i _ x hyg hi) (fun id' n' hrow => rowIds_mem (n := n') (by rw [← hrow]; exact List.mem_of_getElem? hyg)) (hs.get _)
  · rintro e w' ⟨cs', rs, hp, vs, gs, arr', rfl, hvs, hk, hb', ha', hc', hone, hgi, hgl, hrr, hrd⟩
    let blk1 : Blk := mkB q ty (List.replicate n .und)
    have hs1 : Sim X0 w0 (upd m id (.blk b c)) ⟨s.fr, hset (hdels s.hp ids) id blk1, s.nx⟩ a (w.setRow b arr') :=
      hs0.restore hgid hm (blk' := blk1) (by rw [mkB_ty, mkB_ty]) (by rw [mkB_ty]; exact hh) (fun m' X' w'' _ _ => mkB_cells.2 ⟨by simp [ha'], fun j x v hx hv => by
        have : x = .und := List.eq_of_mem_replicate (List.mem_of_getElem? hx)
        subst this
        exact ⟨.und _, hone j v hv⟩⟩) (mkB_plain _ _ _) (mkB_plain _ _ _) (by rw [mkB_pin, mkB_pin])
    have hwsz : (w.setRow b arr').heap.size = w.heap.size := by simp [World.setRow]
    have hbl : Bel (w.setRow b arr').heap.size (w.setRow b arr') w' := by
      refine ⟨⟨hk.os, hk.tape, hk.output, by rw [hwsz]; exact hk.size, fun k hkk => ?_⟩, hk.drawn⟩
      rw [hwsz] at hkk
      by_cases e : k = b
      · subst e; rw [hb', setRow_heap w k arr _ _ _ hh]
      · rw [hk.block k hkk e, setRow_other w b k _ e]
    have hown1 : ∀ x, X x ↔ Owned X0 (upd m id (.blk b c)) (hset (hdels s.hp ids) id blk1) x := by
      intro x
      constructor
      · rintro (h | ⟨id', blk, h1, h2⟩)
        · exact .inl h
        · by_cases e : id' = id
          · subst e
            rw [hgid] at h1
            cases h1
            obtain ⟨c', hc'⟩ := mkB_has.1 h2
            rw [hm] at hc'
            cases hc'
            exact .inr ⟨id', blk1, by rw [hget_hset]; simp [hgid], mkB_has.2 ⟨c, upd_same _ _ _⟩⟩
          · exact .inr ⟨id', blk, by rw [hget_hset, if_neg e]; exact h1, (Blk.has_upd e).2 h2⟩
      · rintro (h | ⟨id', blk, h1, h2⟩)
        · exact .inl h
        · by_cases e : id' = id
          · subst e
            rw [hget_hset] at h1
            simp [hgid] at h1
            subst h1
            obtain ⟨c', hc'⟩ := mkB_has.1 h2
            rw [upd_same] at hc'
            cases hc'
            exact hXb
          · rw [hget_hset, if_neg e] at h1
            exact .inr ⟨id', blk, h1, (Blk.has_upd e).1 h2⟩
    obtain ⟨m', hS, hpv, hmm, hmn⟩ := hs1.takeW (rs := rs ++ cs'.map .d) (vs := vs ++ arr') (gs := gs) (X := X) (by simp [hvs, ha', hc']) hbl hgi (fun i r v hr hv => by
      rw [hwsz]
      by_cases hi : i < rs.length
      · rw [List.getElem?_append_left hi] at hr
        rw [Array.getElem?_append_left (by omega)] at hv
        exact hrr i r v hr hv
      · rw [List.getElem?_append_right (by omega), List.getElem?_map] at hr
        rw [Array.getElem?_append_right (by omega), hvs] at hv
        have hge : gs i = fun _ => False := by
          funext x
          exact propext ⟨fun h => hi (hgl i x h), fun h => h.elim⟩
        rw [hge]
        cases hj : cs'[i - rs.length]? with
        | none => rw [hj] at hr; cases hr
        | some d =>
          rw [hj] at hr
          cases hr
          exact .d _ _ (hrd _ d v hj hv)) (.inl hown1)
    rw [hps_d] at hS hpv
    have hnxid : id < s.nx := hs0.lt_nx hm
    have hgp : hget (hps s.nx rs ++ hset (hdels s.hp ids) id blk1) id = some blk1 := by
      rw [hps_get _ rs s.nx id (fun j hj => hs1.hget_none hj), if_pos hnxid, hget_hset]
      simp [hgid]
    -- the box takes its cells
    have hloc' : m'.loc id = some (.blk b c) := hmm _ _ (upd_same _ _ _)
    let hp2 := hps s.nx rs ++ hset (hdels s.hp ids) id blk1
    let blk2 : Blk := mkB q ty (cs'.map .d)
    have hS1 : Sim X0 w0 m' ⟨s.fr, hp2, s.nx + (rs.length + n)⟩ a w' := by
      have e5 : (rs ++ cs'.map RV.d).length = rs.length + n := by simp [hc']
      rw [e5] at hS
      exact hS
    have hgp2 : hget (hset hp2 id blk2) id = some blk2 := by rw [hget_hset]; simp [hp2, hgp]
    have hS2 : Sim X0 w0 (upd m' id (.blk b c)) ⟨s.fr, hset hp2 id blk2, s.nx + (rs.length + n)⟩ a w' := by
      refine hS1.change (i := id) (blk' := blk2) (l' := .blk b c) (hpin := fun p e => by rw [mkB_pin] at e; rw [← hm]; exact hs0.pin id _ p hgid (by rw [mkB_pin]; exact e)) (fun k => k = b) (.inr hloc') hgp2 (mkB_plain _ _ _) (fun id' hne blk hb' => by rw [hget_hset, if_neg hne] at hb'; exact hb') (fun id' q' ty' sz' es' hd' => ?_) (Nat.le_refl _) (hS1.lt_nx hloc') (KeepB.refl _ _) (fun k _ _ => rfl) ?_ ?_ ?_
      · have hne : id' ≠ id := fun e => by
          subst e
          have hd2 : hget hp2 id' = some (.deep q' ty' sz' es') := hd'
          rw [show hget hp2 id' = some blk1 from hgp] at hd2
          have hpl := mkB_plain q ty (List.replicate n .und)
          rw [show mkB q ty (List.replicate n .und) = .deep q' ty' sz' es' from Option.some.inj hd2] at hpl
          cases hpl
        exact ⟨hne, by rw [hget_hset, if_neg hne]⟩
      · rintro k rfl
        exact ⟨id, blk1, hgp, mkB_has.2 ⟨c, hloc'⟩, .inl rfl⟩
      · intro b' c' e
        cases e
        have := hS1.own id blk1 b hgp (mkB_has.2 ⟨c, hloc'⟩)
        exact ⟨this.1, this.2, .inr rfl⟩
      · intro hst
        refine ⟨arr', by rw [mkB_ty]; exact hb', mkB_cells.2 ⟨by simp [ha', hc'], fun j x v hx hv => ?_⟩⟩
        rw [List.getElem?_map] at hx
        cases hj : cs'[j]? with
        | none => rw [hj] at hx; cases hx
        | some d =>
          rw [hj] at hx
          cases hx
          refine ⟨?_, hone j v hv⟩
          have hjl : j < cs'.length := (List.getElem?_eq_some_iff.1 hj).1
          have := hpv (rs.length + j) (.d d) v (by rw [List.getElem?_append_right (by omega), Nat.add_sub_cancel_left, List.getElem?_map, hj]; rfl) (by rw [Array.getElem?_append_right (by omega), hvs, Nat.add_sub_cancel_left]; exact hv)
          exact this.mono (upd_mono m' _ _ (.inr hloc')) hst
    have hKK := hK cs' rs hp hc'
    have e6 : hset (hps s.nx rs ++ hdels s.hp ids) id blk2 = hset hp2 id blk2 := by
      have h7 : ∀ (l : List (Nat × Blk)) (i : Nat) (x y : Blk), hset (hset l i x) i y = hset l i y := by
        intro l i x y
        induction l with
        | nil => rfl
        | cons p r ih =>
          obtain ⟨k, z⟩ := p
          by_cases hk' : i = k <;> simp [hset, hk', ih]
      show _ = hset (hps s.nx rs ++ hset (hdels s.hp ids) id blk1) id blk2
      rw [hset_hps _ id s.nx blk2 hnxid rs s.nx (Nat.le_refl _), hset_hps _ id s.nx blk2 hnxid rs s.nx (Nat.le_refl _), h7]
    rw [e6] at hKK
    have hstay : Stay w' w' (Owned X0 m' hp2) (Owned X0 (upd m' id (.blk b c)) (hset hp2 id blk2)) := by
      intro x _ hx
      refine ⟨rfl, ?_⟩
      rintro (h | ⟨id', blk, h1, h2⟩)
      · exact hx (.inl h)
      · by_cases e : id' = id
        · subst e
          rw [hgp2] at h1
          cases h1
          obtain ⟨c', hc2⟩ := mkB_has.1 h2
          rw [upd_same] at hc2
          cases hc2
          exact hx (.inr ⟨id', blk1, hgp, mkB_has.2 ⟨c, hloc'⟩⟩)
        · rw [hget_hset, if_neg e] at h1
          exact hx (.inr ⟨id', blk, h1, (Blk.has_upd e).1 h2⟩)
    refine ⟨upd m' id (.blk b c), _, hKK, Sim.put hS2 ?_ o.dst⟩
    have hpvR : ∀ (i : Nat) (r : RV) (v : Value), rs[i]? = some r → vs[i]? = some v → R (upd m' id (.blk b c)).loc (Owned X0 (upd m' id (.blk b c)) (hset hp2 id blk2)) w' (pv1 (s.nx + i) r) v := by
      intro i r v hr hv
      have hi := (List.getElem?_eq_some_iff.1 hr).1
      have := hpv i r v (by rw [List.getElem?_append_left hi]; exact hr) (by rw [Array.getElem?_append_left (by omega)]; exact hv)
      exact this.mono (upd_mono m' _ _ (.inr hloc')) hstay
    have hl : (pvs s.nx rs).length = vs.size := by rw [pvs_len, hvs]
    have htup : R (upd m' id (.blk b c)).loc (Owned X0 (upd m' id (.blk b c)) (hset hp2 id blk2)) w' (.tup (pvs s.nx rs)) (.tuple vs) := by
      refine .tup _ _ hl.symm fun i y u hy hu => ?_
      rw [pvs_get] at hy
      cases hi : rs[i]? with
      | none => rw [hi] at hy; cases hy
      | some r =>
        rw [hi] at hy
        cases hy
        exact hpvR i r u hi hu
    cases st with
    | true =>
      refine .agg _ _ hl.symm fun i y u hy hu => ?_
      rw [pvs_get] at hy
      cases hi : rs[i]? with
      | none => rw [hi] at hy; cases hy
      | some r =>
        rw [hi] at hy
        cases hy
        exact hpvR i r u hi hu
    | false =>
      show R _ _ _ (resPV s.nx rs) (retV vs)
      match rs, hvs, htup, hpvR with
      | [], hvs, htup, _ =>
        have : ¬ vs.size = 1 := by rw [hvs]; simp
        simp only [retV, this, dif_neg, not_false_eq_true]
        exact htup
      | [r], hvs, _, hpvR =>
        have h1' : vs.size = 1 := by rw [hvs]; rfl
        simp only [retV, h1', dif_pos]
        exact hpvR 0 r vs[0] rfl (by simp [h1'])
      | r :: r2 :: rest, hvs, htup, _ =>
        have : ¬ vs.size = 1 := by rw [hvs]; simp
        simp only [retV, this, dif_neg, not_false_eq_true]
        exact htup
theorem CallK.cur {f x0 : Operand} {ys : List Operand} {args : Array Operand} {argTypes : Array TypeId} {fid : FuncId} {id n : Nat} {ty : TypeId} {cs ds : List D} {Post : List D → List RV → Prop} {pvs : List PV} {refs : Bool} (q : Option Nat)
    (hok : FnC P fid n ds cs Post) (ho : o.op = .call { callee := .value f, args := args, argTypes := argTypes }) (hf : s.get f = .fn fid []) (ha : args.toList = x0 :: ys) (hx : s.get x0 = .bptr id 0) (hg : hget s.hp id = some (mkB q ty (cs.map .d))) (hd : frzL s.hp (ys.map s.get) = some ds)
    (hK : ∀ cs' rs, Post cs' rs → K (AS.put ⟨s.fr, hset (hps s.nx rs ++ hdels s.hp (rowIds (ys.map s.get))) id (mkB q ty (cs'.map .d)), s.nx + (rs.length + n)⟩ o.dst (resPV s.nx rs))) : CallK P o fid pvs refs s o.dst K :=
  .inr (po_callB ho hf ha hx hg hd hok fun cs' rs h _ => hK cs' rs h)
end rules
end Go.Proofs.YtphakidbddamfaaGreat

/-
  Copies of codes and performances as plain data. The kinds of the laws on scores.
-/
namespace Go.Proofs.YtphakidbddamfaaGreat
open Go.RowKit

/-- a struct with rows of the call's own, as plain data -/
theorem ag_data {P : Program} {f : FuncId} {args : List PV} {rs : List RV} {ds : List D} (h : FnAg P f args rs) (hd : rs.map RV.data = ds.map RV.d) : FnEq P f args [.agg ds] :=
  ⟨h.1, fun w X vals h1 h2 h3 => (h.2 w X vals h1 h2 h3).mono fun _ _ ⟨vs, gs, q1, q2, q3, _, q5⟩ => ⟨_, rfl, #[.agg vs], fun _ _ => False, q1, rfl, q3, fun i j x h => h.elim, fun i r v hr hv => by
    cases i with
    | succ i => simp at hr
    | zero =>
      cases hr
      cases hv
      have hl := congrArg List.length hd
      simp only [List.length_map] at hl
      refine .agg _ _ (by omega) fun j d u hj hu => ?_
      have e : (rs.map RV.data)[j]? = some (.d d) := by rw [hd, List.getElem?_map, hj]; rfl
      rw [List.getElem?_map] at e
      cases hi : rs[j]? with
      | none => rw [hi] at e; cases e
      | some r0 =>
        rw [hi] at e
        have e2 : r0.data = .d d := Option.some.inj e
        have h5 := (q5 j r0 u hi hu).data (Y' := fun b => X b ∨ ∃ _ : Nat, False) (fun x h => h.elim .inl fun ⟨_, h⟩ => h.elim) fun x h => h.elim (h1 x) fun ⟨_, h⟩ => h.elim
        rw [e2] at h5
        cases h5 with
        | d _ _ h6 => exact h6⟩⟩
theorem toCode_dat (c : CodeD) (hf : CdFit 1048576 c) : FnEq Tryz.prog 12 [.agg c.cs] [.agg [.lst 4 (c.elements.map ElementD.dat), .lst 1 (c.limits.map datI), .int .i64 c.repeats, .int .i64 c.bonus, .int .i64 c.keeps, .int .i64 c.fall]] := ag_data (toCode_ok c hf) rfl
theorem toPerformance_dat (p : PerfD) (hf : PfFit 1048576 p) : FnEq Tryz.prog 13 [.agg p.cs] [.agg [.lst 3 (p.items.map ItemD.dat), .lst 1 (p.marks.grades.map (datL 1 datI)), .lst 1 (p.marks.components.map (datL 1 datI)), .int .i64 p.slips.falls, .int .i64 p.slips.seconds, .int .i64 p.slips.other]] := ag_data (toPerformance_ok p hf) rfl
end Go.Proofs.YtphakidbddamfaaGreat

/-
  Inquiries: their words.
-/
namespace Go.Proofs.YtphakidbddamfaaGreat
open Go.RowKit

structure InquiryD where
  tick : Int
  item : Int
  name : Int
  mark : Int
  acc : Bool

def InquiryD.enc (x : InquiryD) : List Value := [.int .i64 x.tick, .int .i64 x.item, .int .i64 x.name, .int .i64 x.mark, .bool x.acc]
theorem InquiryD.eq {x y : InquiryD} (h0 : x.tick = y.tick) (h1 : x.item = y.item) (h2 : x.name = y.name) (h3 : x.mark = y.mark) (h4 : x.acc = y.acc) : x = y := by cases x; cases y; cases h0; cases h1; cases h2; cases h3; cases h4; rfl

end Go.Proofs.YtphakidbddamfaaGreat

/-
  Inquiries: their words; what the laws' helpers that read give, in the abstract machine; inquiries opened as arguments.
-/
set_option linter.unusedSimpArgs false
set_option linter.unusedVariables false
set_option maxHeartbeats 2000000
set_option maxRecDepth 100000
namespace Go.Proofs.YtphakidbddamfaaGreat
open Go.ChangeShapes Go.WideShapes Go.ChangeAt Go.RowKit Go.Deep

def InquiryD.dat (x : InquiryD) : List D := [.int .i64 x.tick, .int .i64 x.item, .int .i64 x.name, .int .i64 x.mark, .bool x.acc]
section
variable {H : Type} {enc : TypeId × Value → H} {w : World} {base : Nat} {spare : Nat → Bool} {held : Bool}
end
end Go.Proofs.YtphakidbddamfaaGreat
