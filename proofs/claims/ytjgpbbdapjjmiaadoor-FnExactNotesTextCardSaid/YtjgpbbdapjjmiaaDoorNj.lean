/-
  Numbers written by the library, and put together: strconv.Itoa, strings.Join, numbersText, in the abstract machine.
-/
import Derived.Test.YtjgpbbdapjjmiaaDoorSlb
import Derived.Test.YtjgpbbdapjjmiaaDoorNu
import Derived.Shelf.Strings.OnBuilder
import Derived.Shelf.Strconv.Itoa3
import Derived.Lib.AppendIntMem
set_option linter.unusedSimpArgs false
set_option linter.unusedVariables false
set_option maxHeartbeats 2000000
set_option maxRecDepth 100000
namespace Go.Proofs.YtjgpbbdapjjmiaaDoor
open Go.RowKit

theorem numL_dec (n : Nat) : numL n = Lib.decDigits n := by
  by_cases h : n < 10
  · rw [numL_lt h, Lib.decDigits, dif_pos h]; rfl
  · rw [numL_ge (by omega), Lib.decDigits, dif_neg h, numL_dec (n / 10)]; rfl
termination_by n
decreasing_by omega
theorem numI_itoa {n : Int} (h : 0 ≤ n) : (⟨(Lib.itoa n).toArray⟩ : ByteArray) = ba (numI n) := by
  unfold Lib.itoa numI
  rw [if_neg (by omega), numL_dec]
  rfl
theorem itoa_ok (n : Int) (h0 : 0 ≤ n) (h : n ≤ 9223372036854775807) : FnEq Tryd.prog 45 [.d (.int .i64 n)] [.d (.str (ba (numI n)))] := by
  refine ⟨⟨_, Tryd.func45, rfl, rfl⟩, fun w X vals hGL hX hl hr => ?_⟩
  have hl1 : vals.size = 1 := hl
  obtain ⟨v, rfl⟩ : ∃ v, vals = #[v] := by
    obtain ⟨l⟩ := vals
    match l, hl1 with
    | [a], _ => exact ⟨a, rfl⟩
  have h1 := hr 0 _ _ rfl rfl
  obtain rfl : v = .int .i64 n := h1.int
  refine Calls.mono (Any.strconv_Itoa (P := Tryd.prog) Tryd.itoaLays n (by omega) h w hGL.2) fun e w' ⟨he, k, os, hw⟩ => ?_
  subst hw
  rw [numI_itoa h0] at he
  refine ⟨_, rfl, #[.string (ba (numI n))], fun _ _ => False, he, rfl, ⟨Lib.below_grow _ _ (Nat.le_refl _) _ _, trivial⟩, fun _ _ _ h _ => h.elim, fun i r u h3 h4 => ?_⟩
  match i with
  | 0 => simp at h3 h4; subst h3 h4; exact .d _ _ (.str _)
  | i + 1 => simp at h3
theorem xJoin : Builder.Extra Tryd.prog Tryd.joinLays_ren where
  sizeBuilder := by kernel_rfl
  liesBuilder := by kernel_rfl
  t5 := Tryd.underlying5
  a5 := Tryd.isAgg5
  z5 := Tryd.sizeOf5
  v5 := Tryd.zeroValue5
  infoByte := by kernel_rfl
  cellsByte := by kernel_rfl
  sizeByte := by kernel_rfl
  neB5 := by decide
theorem join_ok (c : UInt8) (ws : List ByteArray) (hn : ws.length ≤ 1048576) (hlen : (Lib.join (ws.map bl) [c]).length ≤ 1048576) : FnEq Tryd.prog 46 [.d (.lst 1 (ws.map datS)), .d (.str ⟨#[c]⟩)] [.d (.str (ba (Lib.join (ws.map bl) [c])))] := by
  refine ⟨⟨_, Tryd.func46, rfl, rfl⟩, fun w X vals hGL hX hl hr => ?_⟩
  have hl2 : vals.size = 2 := hl
  obtain ⟨v, v1, rfl⟩ : ∃ v v1, vals = #[v, v1] := by
    obtain ⟨l⟩ := vals
    match l, hl2 with
    | [a, b], _ => exact ⟨a, b, rfl⟩
  have h1 := hr 0 _ _ rfl rfl
  have h3 := hr 1 _ _ rfl rfl
  obtain rfl : v1 = .string ⟨#[c]⟩ := h3.str
  have h2 : Rd w X (.lst 1 (ws.map datS)) v := by cases h1; assumption
  have fin : ∀ e w', e = .returned (.string (ba (Lib.join (ws.map bl) [c]))) ∧ Below w.heap.size w w' → ∃ rs, rs = [RV.d (.str (ba (Lib.join (ws.map bl) [c])))] ∧ Res X w rs e w' := by
    rintro e w' ⟨he, hb⟩
    refine ⟨_, rfl, #[.string (ba (Lib.join (ws.map bl) [c]))], fun _ _ => False, he, rfl, ⟨hb, trivial⟩, fun _ _ _ h _ => h.elim, fun i r u h3 h4 => ?_⟩
    match i with
    | 0 => simp at h3 h4; subst h3 h4; exact .d _ _ (.str _)
    | i + 1 => simp at h3
  by_cases hw0 : ws = []
  · subst hw0
    have hv : ∃ a c', v = .slice a 0 c' := by
      generalize hes : ([] : List ByteArray).map datS = es at h2
      cases h2 with
      | nil => exact ⟨_, _, rfl⟩
      | lst _ _ b off c' => subst hes; exact ⟨_, c', rfl⟩
    obtain ⟨a, c', rfl⟩ := hv
    exact Calls.mono (Any.strings_Join_none (P := Tryd.prog) Tryd.joinLays xJoin a c' ⟨#[c]⟩ w) fun e w' ⟨he, hw⟩ => fin e w' ⟨he, hw ▸ Below.refl _ _⟩
  · generalize hes : ws.map datS = es at h2
    cases h2 with
    | nil => exact absurd (List.map_eq_nil_iff.1 hes) hw0
    | lst _ _ b off c' hcap hsz hc hrr =>
      have hlen' : es.length = ws.length := by rw [← hes]; simp
      have hcell : ∀ (j : Nat) x, ws[j]? = some x → w.cell? ⟨b, off + j, none⟩ = some (.string x) := by
        intro j x hx
        have hg : es[j]? = some [.str x] := by rw [← hes, List.getElem?_map, hx]; rfl
        obtain ⟨_, u, hu⟩ := hc j _ 0 _ hg rfl
        have hu2 := hrr j _ 0 _ u hg rfl hu
        simp only [Nat.mul_one, Nat.add_zero] at hu
        rw [hu]
        cases hu2
        rfl
      rw [hlen'] at hcap ⊢
      have hb : b < w.heap.size := by
        obtain ⟨x, hx⟩ : ∃ x, ws[0]? = some x := by
          cases ws with
          | nil => exact absurd rfl hw0
          | cons x r => exact ⟨x, rfl⟩
        exact cell_lt' (hcell 0 x hx)
      have key := Any.strings_Join (P := Tryd.prog) Tryd.joinLays xJoin b off c' ws ⟨#[c]⟩ w hcell hb (by omega) hcap (by
        have : Lib.join (ws.map (·.data.toList)) [c] = Lib.join (ws.map bl) [c] := rfl
        show (Lib.join (ws.map (·.data.toList)) [c]).length ≤ _
        rw [this]; omega)
      exact Calls.mono key fun e w' ⟨he, hw⟩ => fin e w' ⟨he, hw⟩
theorem join_cc (c : UInt8) (x y : List UInt8) (r : List (List UInt8)) : Lib.join (x :: y :: r) [c] = x ++ c :: Lib.join (y :: r) [c] := by
  unfold Lib.join
  simp [List.intercalate, List.intersperse]
theorem join_len (c : UInt8) : ∀ xs : List (List UInt8), (∀ x ∈ xs, x.length ≤ 3) → (Lib.join xs [c]).length ≤ 4 * xs.length
  | [], _ => by simp [Lib.join_nil]
  | [x], h => by rw [Lib.join_one]; have := h x (by simp); simp; omega
  | x :: y :: r, h => by
    rw [join_cc]
    have h1 := join_len c (y :: r) fun z hz => h z (List.mem_cons_of_mem _ hz)
    have h2 := h x (by simp)
    simp only [List.length_append, List.length_cons] at h1 ⊢
    omega
theorem join_line (x : NoteD) : Lib.join ([x.skater, x.before, x.inn].map numI) [32] = lineL x := by
  simp only [List.map_cons, List.map_nil]
  rw [join_cc, join_cc, Lib.join_one]
  rfl
/-- the words of the first numbers -/
def wsI (l : List Int) (k : Nat) : List ByteArray := (l.take k).map fun x => ba (numI x)
theorem wsI_zero (l : List Int) : wsI l 0 = [] := rfl
theorem wsI_len (l : List Int) (k : Nat) : (wsI l k).length ≤ k := by unfold wsI; rw [List.length_map]; exact List.length_take_le _ _
theorem wsI_succ {l : List Int} {k : Nat} {x : Int} (h : l[k]? = some x) : wsI l (k + 1) = wsI l k ++ [ba (numI x)] := by unfold wsI; rw [take_snoc h, List.map_append]; rfl
theorem wsI_end (l : List Int) : (wsI l l.length).map bl = l.map numI := by
  unfold wsI
  rw [List.take_length, List.map_map]
  rfl
theorem numbersText_ok (l : List Int) (hl : l.length ≤ 1000) (hf : ∀ x ∈ l, 0 ≤ x ∧ x ≤ 999) : FnEq Tryd.prog 28 [.d (.lst 1 (l.map datI))] [.d (.str (ba (Lib.join (l.map numI) [32])))] := by
  refine fn_ok G_ok Tryd.func28 rfl rfl ?_; simp only [Tryd.ntmps28, List.length_cons, List.length_nil, Nat.reduceAdd, Nat.reduceSub, enm]
  repeat' (first | ((with_reducible first | (refine hK _ ?_; clear hK K) | refine stq fun K' hK' => ?_ | refine stc ?_); try simp only [go_sem]) | (with_reducible first | refine stp ?_ | (refine hK' _ ?_; clear hK' K') | refine kN kl28 fun K hK => ?_ | refine kO fun K hK => ?_) | refine iB ?_ | (with_reducible refine pK_mk ?_ ?_ <;> (intro hc; (try simp only [go_sem]); (try simp at hc); try (exfalso; omega))) | with_reducible refine And.intro (by first | omega | (unfold inI; omega)) ?_)
  refine pw_loop_over [2, 3, 5, 9, 10, 11, 12, 13, 14, 15, 16, 17, 18] (fun k : Nat => [(9, .d (.int .i64 (k : Int))), (3, .row 0 (wsI l k).length)]) (fun k : Nat => [(0, .row 9 1 ((wsI l k).map datS))]) 1 (fun k : Nat => k ≤ l.length) (fun k : Nat => l.length - k) 0 (Nat.zero_le _) (fits_mk [] (by simp [renL_d, bdL_d, sg, over, wipe, wl, memN, ins, rm, lk, fitFr, fit1, ren, renL, bd, bdL, app, fitHp, hget, renB, bdB, wsI_zero] <;> omega)) ?_
  intro k hk
  have hL := wsI_len l k
  simp only [over, wipe, wl, memN, ins, rm, if_true, if_false, Nat.reduceEqDiff, Bool.false_eq_true, reduceCtorEq]
  by_cases hlt : k < l.length
  · have hx := List.getElem?_eq_getElem hlt
    generalize l[k] = x at hx
    obtain ⟨f1, f2⟩ := hf x (List.mem_of_getElem? hx)
    have hi := itoa_ok x f1 (by omega)
    have e := wsI_succ hx
    repeat' (first | ((with_reducible first | (refine hK _ ?_; clear hK K) | refine stq fun K' hK' => ?_ | refine stc ?_); try simp only [go_sem, List.getElem?_map, hx, Option.map_some, datI]) | (with_reducible first | refine stp ?_ | (refine hK' _ ?_; clear hK' K') | refine kN kl28 fun K hK => ?_ | refine kO fun K hK => ?_) | ((with_reducible apply CallK.eq); (· with_reducible first | exact hi); (· simp [RV.flat, D.sc, datI]); try simp only [go_sem, List.getElem?_map, hx, Option.map_some, datI]) | refine iB ?_ | (with_reducible refine pK_mk ?_ ?_ <;> (intro hc; (try simp only [go_sem, List.getElem?_map, hx, Option.map_some, datI]); (try simp at hc); try (exfalso; omega))) | with_reducible refine And.intro (by first | omega | (unfold inI; omega)) ?_)
    all_goals first
      | (exfalso; omega)
      | exact ⟨k + 1, by omega, by omega, (fits_mk [] (by simp [renL_d, bdL_d, sg, over, wipe, wl, memN, ins, rm, lk, fitFr, fit1, ren, renL, bd, bdL, app, fitHp, hget, renB, bdB, e, datS] <;> omega))⟩
      | skip
  · obtain rfl : k = l.length := by omega
    have hj := join_ok 32 (wsI l l.length) (by omega) (by
      rw [wsI_end]
      have := join_len 32 (l.map numI) fun x hx => by
        obtain ⟨n, hn, rfl⟩ := List.mem_map.1 hx
        have := hf n hn
        exact numL_len (by omega)
      rw [List.length_map] at this
      omega)
    rw [wsI_end] at hj
    repeat' (first | ((with_reducible first | (refine hK _ ?_; clear hK K) | refine stq fun K' hK' => ?_ | refine stc ?_); try simp only [go_sem]) | (with_reducible first | refine stp ?_ | (refine hK' _ ?_; clear hK' K') | refine kN kl28 fun K hK => ?_ | refine kO fun K hK => ?_) | ((with_reducible apply CallK.eq); (· with_reducible first | exact hj); (· simp [RV.flat, D.sc, datI]); try simp only [go_sem]) | refine iB ?_ | (with_reducible refine pK_mk ?_ ?_ <;> (intro hc; (try simp only [go_sem]); (try simp at hc); try (exfalso; omega))) | with_reducible refine And.intro (by first | omega | (unfold inI; omega)) ?_)
    all_goals first
      | (refine retQ_ret rfl rfl (by simp [rowsOf, lk]) ?_; rfl)
      | skip
end Go.Proofs.YtjgpbbdapjjmiaaDoor
