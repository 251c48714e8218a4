/-
  The library's cutting of a text at one byte, in the abstract machine.
-/
import Derived.Test.YtjgpbbdapjjmiaaDoorSls
import Derived.Test.YtjgpbbdapjjmiaaDoorSp
import Derived.Test.YtjgpbbdapjjmiaaDoorWi
import Derived.Test.YtjgpbbdapjjmiaaDoorDp
import Derived.Shelf.Strings.SplitCore
import Derived.Shelf.Strings.Count
import Derived.Shelf.Strings.Search3
import Derived.Lib.IndexBytes
set_option linter.unusedSimpArgs false
set_option linter.unusedVariables false
set_option maxHeartbeats 2000000
set_option maxRecDepth 100000
namespace Go.Proofs.YtjgpbbdapjjmiaaDoor
open Go.RowKit


theorem flatE_datS (xs : List ByteArray) : flatE (xs.map datS) := by
  intro e he d hd
  obtain ⟨x, _, rfl⟩ := List.mem_map.1 he
  rw [show datS x = [.str x] from rfl, List.mem_singleton] at hd
  subst hd
  simp [D.sc]
theorem hi9 : (Tryd.prog.info? 9).map (fun i => (i.zero, i.size, i.bytes)) = some (some (.string ByteArray.empty), 1, 16) := by kernel_rfl
theorem genSplit_ok (c : UInt8) (s : ByteArray) (hs : s.size < 4294967281) : FnEq Tryd.prog 34 [.d (.str s), .d (.str ⟨#[c]⟩), .d (.int .i64 0), .d (.int .i64 (-1))] [.row 9 1 ((splB c s).map datS)] := by
  refine ⟨⟨_, Tryd.func34, rfl, rfl⟩, fun w X vals _ hX hl hr => ?_⟩
  have hl4 : vals.size = 4 := hl
  obtain ⟨v0, v1, v2, v3, rfl⟩ : ∃ v0 v1 v2 v3, vals = #[v0, v1, v2, v3] := by
    obtain ⟨l⟩ := vals
    match l, hl4 with
    | [a, b, d, e], _ => exact ⟨a, b, d, e, rfl⟩
  have h0 := hr 0 _ _ rfl rfl
  have h1 := hr 1 _ _ rfl rfl
  have h2 := hr 2 _ _ rfl rfl
  have h3 := hr 3 _ _ rfl rfl
  obtain rfl : v0 = .string s := h0.str
  obtain rfl : v1 = .string ⟨#[c]⟩ := h1.str
  obtain rfl : v2 = .int .i64 0 := h2.int
  obtain rfl : v3 = .int .i64 (-1) := h3.int
  have hcnt : Lib.countB s ⟨#[c]⟩ + 1 = (splB c s).length := by
    rw [← splB_lib]
    exact (Lib.splitB_all ⟨#[c]⟩ (Nat.le_refl 1) 0 _ s rfl).symm
  have hle := splB_le c s
  have key := Any.strings_genSplit_core (P := Tryd.prog) { Tryd.splitLays with } hi9 s ⟨#[c]⟩ 0 (-1) (Lib.countB s ⟨#[c]⟩ + 1) w hs (Nat.le_refl 1) (Nat.zero_le _)
    (fun x k _ => by
      have := Any.strings_Index_one (P := Tryd.prog) { Tryd.splitLays with } x c (w.alloc (.cells k (Tryd.splitLays_ren.t 9)))
      rw [← Lib.index_one] at this
      exact this)
    (by
      have := Any.strings_Count_one (P := Tryd.prog) { Tryd.splitLays with } s c w
      have e : Lib.countByte s.data.toList c = Lib.countB s ⟨#[c]⟩ := (Lib.count_one c _).symm
      rw [e] at this
      exact this)
    (by decide) (by decide) (by rw [if_pos (by decide)]; omega)
  rw [Nat.add_sub_cancel, splB_lib, hcnt, Lib.cellsOf_full] at key
  refine Calls.mono key fun e w' ⟨he, hw⟩ => ?_
  subst hw
  refine ⟨_, rfl, #[.slice (some ⟨w.heap.size, 0, none⟩) (splB c s).length (splB c s).length], fun i b => match i with | 0 => b = w.heap.size | _ => False, he, rfl, (Bel.refl _ _).alloc (Nat.le_refl _) _, ?_, fun i r u h5 h6 => ?_⟩
  · intro i j x hi hj
    match i, j, hi, hj with
    | 0, 0, _, _ => rfl
  · match i with
    | 0 =>
      simp only [List.getElem?_cons_zero, Option.some.injEq] at h5
      subst h5
      have h7 : u = .slice (some ⟨w.heap.size, 0, none⟩) (splB c s).length (splB c s).length := by simpa using h6.symm
      subst h7
      have hrow := RR.row (Y := fun b => X b ∨ ∃ j, (match j with | 0 => b = w.heap.size | _ => False : Prop)) (B := w.heap.size) (w := w.alloc (.cells ((splB c s).map Value.string).toArray 9)) 9 1 ((splB c s).map datS) w.heap.size (splB c s).length ((splB c s).map Value.string).toArray (Nat.le_refl _)
        (heap_alloc_new w _) ⟨by simp, by simp, by unfold maxLen; omega, fun e he => by obtain ⟨x, _, rfl⟩ := List.mem_map.1 he; rfl, fun k e j d v hk hj hv => by
          rw [List.getElem?_map] at hk
          cases hx : (splB c s)[k]? with
          | none => rw [hx] at hk; cases hk
          | some x =>
            rw [hx] at hk
            cases hk
            have hj0 : j = 0 := by
              have := (List.getElem?_eq_some_iff.1 hj).1
              simpa [datS] using this
            subst hj0
            simp only [datS, List.getElem?_cons_zero, Option.some.injEq] at hj
            subst hj
            rw [Nat.mul_one, Nat.add_zero, List.getElem?_toArray, List.getElem?_map, hx] at hv
            cases hv
            exact .str _⟩
      rw [List.length_map] at hrow
      exact hrow
    | i + 1 => simp at h5
theorem split_ok (c : UInt8) (s : ByteArray) (hs : s.size < 4294967281) : FnEq Tryd.prog 22 [.d (.str s), .d (.str ⟨#[c]⟩)] [.row 9 1 ((splB c s).map datS)] := by
  refine fn_ok G_ok Tryd.func22 rfl rfl ?_; simp only [Tryd.ntmps22, List.length_cons, List.length_nil, Nat.reduceAdd, Nat.reduceSub, enm]
  repeat' (first | ((with_reducible first | (refine hK _ ?_; clear hK K) | refine stq fun K' hK' => ?_ | refine stc ?_); try simp only [go_sem]) | (with_reducible first | refine stp ?_ | (refine hK' _ ?_; clear hK' K') | refine kN kl22 fun K hK => ?_ | refine kO fun K hK => ?_) | ((with_reducible apply CallK.eq); (· with_reducible first | exact genSplit_ok c s hs); (· simp [RV.flat, D.sc, datI]); try simp only [go_sem]) | (with_reducible refine pK_mk ?_ ?_ <;> (intro hc; (try simp only [go_sem]); (try simp at hc); try (exfalso; omega))) | with_reducible refine And.intro (by first | omega | (unfold inI; omega)) ?_)
  refine retQ_ret rfl (by simp only [retL, ret1, hget, lk, List.length_map, List.length_nil, List.length_append, List.length_take, if_true, if_false, Nat.reduceEqDiff, Nat.reduceBEq, Bool.false_eq_true, Option.some.injEq]; rfl) (by simp [rowsOf, lk]) ?_; rfl
end Go.Proofs.YtjgpbbdapjjmiaaDoor
