/-
  SetScore with its answer as plain data.
-/
import Derived.Test.YthkkpiodligmiaaNf
import Derived.Test.YthkkpiodligmiaaMc
namespace Go.Proofs.Ythkkpiodligmiaa
open Go.RowKit

noncomputable def setL (l : List ResultD) (i s v : Int) : List ResultD := if bP (SetOk l i s v) = true then wsD l i.toNat s.toNat v else []
theorem setL_yes {l : List ResultD} {i s v : Int} (h : SetOk l i s v) : setL l i s v = wsD l i.toNat s.toNat v := if_pos (bP_true h)
theorem setL_no {l : List ResultD} {i s v : Int} (h : ¬ SetOk l i s v) : setL l i s v = [] := if_neg (by rw [bP_false h]; simp)
theorem setL_len (l : List ResultD) (i s v : Int) : (setL l i s v).length ≤ 40 := by
  by_cases h : SetOk l i s v
  · rw [setL_yes h]; exact h.2.1
  · rw [setL_no h]; simp
theorem setL_bd {l : List ResultD} (i s v : Int) (hs : ∀ r ∈ l, r.scores.length ≤ 1048576) : ∀ r ∈ setL l i s v, r.scores.length ≤ 1048576 := by
  by_cases h : SetOk l i s v
  · rw [setL_yes h]; exact wsD_bd hs
  · rw [setL_no h]; simp
theorem eq_data {P : Program} {f : FuncId} {args : List PV} {rs : List RV} (h : FnEq P f args rs) : FnEq P f args (rs.map RV.data) := FnOK.data (h.mono fun _ e => by rw [e])
theorem impl_SetScore_data (l : List ResultD) (i s v : Int) (hn : l.length ≤ 1048576) (hs : ∀ r ∈ l, r.scores.length ≤ 1048576) : FnEq Try.prog 28 [.d (.lst 2 (l.map ResultD.dat)), .d (.int .i64 i), .d (.int .i64 s), .d (.int .i64 v)] [.d (.lst 2 ((setL l i s v).map ResultD.dat)), .d (.bool (bP (SetOk l i s v)))] := by
  by_cases h : SetOk l i s v
  · rw [setL_yes h, bP_true h]; exact eq_data (impl_SetScore_yes l i s v hn hs h)
  · rw [setL_no h, bP_false h]; exact eq_data (impl_SetScore_no l i s v hn hs h)
/-- places with a set score -/
theorem set_places {l : List ResultD} {i s v : Int} (h : SetOk l i s v) : ResultsOk (setL l i s v) ∧ (setL l i s v).length = l.length ∧ (plcL (setL l i s v) (setL l i s v).length)[i.toNat]? = some (plW l i.toNat s.toNat v) := by
  rw [setL_yes h]
  exact ⟨h.2, wsD_len _ _ _ _, setOk_places h⟩
end Go.Proofs.Ythkkpiodligmiaa
