/-
  Numbers written by the library, and put together: strconv.Itoa, strings.Join, numbersText, in the abstract machine.
-/
import Derived.Test.YthocihmhljmgdaaGreatDoorSlb
import Derived.Test.YthocihmhljmgdaaGreatDoorZNu
import Derived.Shelf.Strings.OnBuilder
import Derived.Shelf.Strconv.Itoa3
import Derived.Lib.AppendIntMem
set_option linter.unusedSimpArgs false
set_option linter.unusedVariables false
set_option maxHeartbeats 2000000
set_option maxRecDepth 100000
namespace Go.Proofs.YthocihmhljmgdaaGreatDoor
open Go.RowKit

theorem numL_dec (n : Nat) : numL n = Lib.decDigits n := by
  by_cases h : n < 10
  · rw [numL_lt h, Lib.decDigits, dif_pos h]; rfl
  · rw [numL_ge (by omega), Lib.decDigits, dif_neg h, numL_dec (n / 10)]; rfl
termination_by n
decreasing_by omega
theorem numI_itoa {n : Int} (h : 0 ≤ n) : (⟨(Lib.itoa n).toArray⟩ : ByteArray) = ba (numI n) := by
  unfold Lib.itoa numI
  rw [if_neg (by omega), numL_dec]
  rfl
theorem itoa_ok (n : Int) (h0 : 0 ≤ n) (h : n ≤ 9223372036854775807) : FnEq Tryz.prog 94 [.d (.int .i64 n)] [.d (.str (ba (numI n)))] := by
  refine ⟨⟨_, Tryz.func94, rfl, rfl⟩, fun w X vals hGL hX hl hr => ?_⟩
  have hl1 : vals.size = 1 := hl
  obtain ⟨v, rfl⟩ : ∃ v, vals = #[v] := by
    obtain ⟨l⟩ := vals
    match l, hl1 with
    | [a], _ => exact ⟨a, rfl⟩
  have h1 := hr 0 _ _ rfl rfl
  obtain rfl : v = .int .i64 n := h1.int
  refine Calls.mono (Any.strconv_Itoa (P := Tryz.prog) Tryz.itoaLays n (by omega) h w hGL.2) fun e w' ⟨he, k, os, hw⟩ => ?_
  subst hw
  rw [numI_itoa h0] at he
  refine ⟨_, rfl, #[.string (ba (numI n))], fun _ _ => False, he, rfl, ⟨Lib.below_grow _ _ (Nat.le_refl _) _ _, trivial⟩, fun _ _ _ h _ => h.elim, fun i r u h3 h4 => ?_⟩
  match i with
  | 0 => simp at h3 h4; subst h3 h4; exact .d _ _ (.str _)
  | i + 1 => simp at h3
theorem xJoin : Builder.Extra Tryz.prog Tryz.joinLays_ren where
  sizeBuilder := by kernel_rfl
  liesBuilder := by kernel_rfl
  t5 := Tryz.underlying5
  a5 := Tryz.isAgg5
  z5 := Tryz.sizeOf5
  v5 := Tryz.zeroValue5
  infoByte := by kernel_rfl
  cellsByte := by kernel_rfl
  sizeByte := by kernel_rfl
  neB5 := by decide
theorem join_ok (c : UInt8) (ws : List ByteArray) (hn : ws.length ≤ 1048576) (hlen : (Lib.join (ws.map bl) [c]).length ≤ 1048576) : FnEq Tryz.prog 95 [.d (.lst 1 (ws.map datS)), .d (.str ⟨#[c]⟩)] [.d (.str (ba (Lib.join (ws.map bl) [c])))] := by
  refine ⟨⟨_, Tryz.func95, rfl, rfl⟩, fun w X vals hGL hX hl hr => ?_⟩
  have hl2 : vals.size = 2 := hl
  obtain ⟨v, v1, rfl⟩ : ∃ v v1, vals = #[v, v1] := by
    obtain ⟨l⟩ := vals
    match l, hl2 with
    | [a, b], _ => exact ⟨a, b, rfl⟩
  have h1 := hr 0 _ _ rfl rfl
  have h3 := hr 1 _ _ rfl rfl
  obtain rfl : v1 = .string ⟨#[c]⟩ := h3.str
  have h2 : Rd w X (.lst 1 (ws.map datS)) v := by cases h1; assumption
  have fin : ∀ e w', e = .returned (.string (ba (Lib.join (ws.map bl) [c]))) ∧ Below w.heap.size w w' → ∃ rs, rs = [RV.d (.str (ba (Lib.join (ws.map bl) [c])))] ∧ Res X w rs e w' := by
    rintro e w' ⟨he, hb⟩
    refine ⟨_, rfl, #[.string (ba (Lib.join (ws.map bl) [c]))], fun _ _ => False, he, rfl, ⟨hb, trivial⟩, fun _ _ _ h _ => h.elim, fun i r u h3 h4 => ?_⟩
    match i with
    | 0 => simp at h3 h4; subst h3 h4; exact .d _ _ (.str _)
    | i + 1 => simp at h3
  by_cases hw0 : ws = []
  · subst hw0
    have hv : ∃ a c', v = .slice a 0 c' := by
      generalize hes : ([] : List ByteArray).map datS = es at h2
      cases h2 with
      | nil => exact ⟨_, _, rfl⟩
      | lst _ _ b off c' => subst hes; exact ⟨_, c', rfl⟩
    obtain ⟨a, c', rfl⟩ := hv
    exact Calls.mono (Any.strings_Join_none (P := Tryz.prog) Tryz.joinLays xJoin a c' ⟨#[c]⟩ w) fun e w' ⟨he, hw⟩ => fin e w' ⟨he, hw ▸ Below.refl _ _⟩
  · generalize hes : ws.map datS = es at h2
    cases h2 with
    | nil => exact absurd (List.map_eq_nil_iff.1 hes) hw0
    | lst _ _ b off c' hcap hsz hc hrr =>
      have hlen' : es.length = ws.length := by rw [← hes]; simp
      have hcell : ∀ (j : Nat) x, ws[j]? = some x → w.cell? ⟨b, off + j, none⟩ = some (.string x) := by
        intro j x hx
        have hg : es[j]? = some [.str x] := by rw [← hes, List.getElem?_map, hx]; rfl
        obtain ⟨_, u, hu⟩ := hc j _ 0 _ hg rfl
        have hu2 := hrr j _ 0 _ u hg rfl hu
        simp only [Nat.mul_one, Nat.add_zero] at hu
        rw [hu]
        cases hu2
        rfl
      rw [hlen'] at hcap ⊢
      have hb : b < w.heap.size := by
        obtain ⟨x, hx⟩ : ∃ x, ws[0]? = some x := by
          cases ws with
          | nil => exact absurd rfl hw0
          | cons x r => exact ⟨x, rfl⟩
        exact cell_lt' (hcell 0 x hx)
      have key := Any.strings_Join (P := Tryz.prog) Tryz.joinLays xJoin b off c' ws ⟨#[c]⟩ w hcell hb (by omega) hcap (by
        have : Lib.join (ws.map (·.data.toList)) [c] = Lib.join (ws.map bl) [c] := rfl
        show (Lib.join (ws.map (·.data.toList)) [c]).length ≤ _
        rw [this]; omega)
      exact Calls.mono key fun e w' ⟨he, hw⟩ => fin e w' ⟨he, hw⟩
theorem join_cc (c : UInt8) (x y : List UInt8) (r : List (List UInt8)) : Lib.join (x :: y :: r) [c] = x ++ c :: Lib.join (y :: r) [c] := by
  unfold Lib.join
  simp [List.intercalate, List.intersperse]
theorem join_len (c : UInt8) : ∀ xs : List (List UInt8), (∀ x ∈ xs, x.length ≤ 3) → (Lib.join xs [c]).length ≤ 4 * xs.length
  | [], _ => by simp [Lib.join_nil]
  | [x], h => by rw [Lib.join_one]; have := h x (by simp); simp; omega
  | x :: y :: r, h => by
    rw [join_cc]
    have h1 := join_len c (y :: r) fun z hz => h z (List.mem_cons_of_mem _ hz)
    have h2 := h x (by simp)
    simp only [List.length_append, List.length_cons] at h1 ⊢
    omega
theorem join_line (x : NoteD) : Lib.join ([x.skater, x.before, x.inn].map numI) [32] = lineL x := by
  simp only [List.map_cons, List.map_nil]
  rw [join_cc, join_cc, Lib.join_one]
  rfl
/-- the words of the first numbers -/
def wsI (l : List Int) (k : Nat) : List ByteArray := (l.take k).map fun x => ba (numI x)
theorem wsI_zero (l : List Int) : wsI l 0 = [] := rfl
theorem wsI_len (l : List Int) (k : Nat) : (wsI l k).length ≤ k := by unfold wsI; rw [List.length_map]; exact List.length_take_le _ _
theorem wsI_succ {l : List Int} {k : Nat} {x : Int} (h : l[k]? = some x) : wsI l (k + 1) = wsI l k ++ [ba (numI x)] := by unfold wsI; rw [take_snoc h, List.map_append]; rfl
theorem wsI_end (l : List Int) : (wsI l l.length).map bl = l.map numI := by
  unfold wsI
  rw [List.take_length, List.map_map]
  rfl
theorem numbersText_ok (l : List Int) (hl : l.length ≤ 1000) (hf : ∀ x ∈ l, 0 ≤ x ∧ x ≤ 999) : FnEq Tryz.prog 41 [.d (.lst 1 (l.map datI))] [.d (.str (ba (Lib.join (l.map numI) [32])))] := by
  refine fn_ok G_ok Tryz.func41 rfl rfl ?_; simp only [Tryz.ntmps41, List.length_cons, List.length_nil, Nat.reduceAdd, Nat.reduceSub, enm]
  repeat' (first | ((with_reducible first | (refine hK _ ?_; clear hK K) | refine stq fun K' hK' => ?_ | refine stc ?_); try simp only [go_sem]) | (with_reducible first | refine stp ?_ | (refine hK' _ ?_; clear hK' K') | refine kN kl41 fun K hK => ?_ | refine kO fun K hK => ?_) | refine iB ?_ | (with_reducible refine pK_mk ?_ ?_ <;> (intro hc; (try simp only [go_sem]); (try simp at hc); try (exfalso; omega))) | with_reducible refine And.intro (by first | omega | (unfold inI; omega)) ?_)
  refine pw_loop_over [2, 3, 5, 9, 10, 11, 12, 13, 14, 15, 16, 17, 18] (fun k : Nat => [(9, .d (.int .i64 (k : Int))), (3, .row 0 (wsI l k).length)]) (fun k : Nat => [(0, .row 9 1 ((wsI l k).map datS))]) 1 (fun k : Nat => k ≤ l.length) (fun k : Nat => l.length - k) 0 (Nat.zero_le _) (fits_mk [] (by simp [renL_d, bdL_d, sg, over, wipe, wl, memN, ins, rm, lk, fitFr, fit1, ren, renL, bd, bdL, app, fitHp, hget, renB, bdB, wsI_zero] <;> omega)) ?_
  intro k hk
  have hL := wsI_len l k
  simp only [over, wipe, wl, memN, ins, rm, if_true, if_false, Nat.reduceEqDiff, Bool.false_eq_true, reduceCtorEq]
  by_cases hlt : k < l.length
  · have hx := List.getElem?_eq_getElem hlt
    generalize l[k] = x at hx
    obtain ⟨f1, f2⟩ := hf x (List.mem_of_getElem? hx)
    have hi := itoa_ok x f1 (by omega)
    have e := wsI_succ hx
    repeat' (first | ((with_reducible first | (refine hK _ ?_; clear hK K) | refine stq fun K' hK' => ?_ | refine stc ?_); try simp only [go_sem, List.getElem?_map, hx, Option.map_some, datI]) | (with_reducible first | refine stp ?_ | (refine hK' _ ?_; clear hK' K') | refine kN kl41 fun K hK => ?_ | refine kO fun K hK => ?_) | ((with_reducible apply CallK.eq); (· with_reducible first | exact hi); (· simp [RV.flat, D.sc, datI]); try simp only [go_sem, List.getElem?_map, hx, Option.map_some, datI]) | refine iB ?_ | (with_reducible refine pK_mk ?_ ?_ <;> (intro hc; (try simp only [go_sem, List.getElem?_map, hx, Option.map_some, datI]); (try simp at hc); try (exfalso; omega))) | with_reducible refine And.intro (by first | omega | (unfold inI; omega)) ?_)
    all_goals first
      | (exfalso; omega)
      | exact ⟨k + 1, by omega, by omega, (fits_mk [] (by simp [renL_d, bdL_d, sg, over, wipe, wl, memN, ins, rm, lk, fitFr, fit1, ren, renL, bd, bdL, app, fitHp, hget, renB, bdB, e, datS] <;> omega))⟩
      | skip
  · obtain rfl : k = l.length := by omega
    have hj := join_ok 32 (wsI l l.length) (by omega) (by
      rw [wsI_end]
      have := join_len 32 (l.map numI) fun x hx => by
        obtain ⟨n, hn, rfl⟩ := List.mem_map.1 hx
        have := hf n hn
        exact numL_len (by omega)
      rw [List.length_map] at this
      omega)
    rw [wsI_end] at hj
    repeat' (first | ((with_reducible first | (refine hK _ ?_; clear hK K) | refine stq fun K' hK' => ?_ | refine stc ?_); try simp only [go_sem]) | (with_reducible first | refine stp ?_ | (refine hK' _ ?_; clear hK' K') | refine kN kl41 fun K hK => ?_ | refine kO fun K hK => ?_) | ((with_reducible apply CallK.eq); (· with_reducible first | exact hj); (· simp [RV.flat, D.sc, datI]); try simp only [go_sem]) | refine iB ?_ | (with_reducible refine pK_mk ?_ ?_ <;> (intro hc; (try simp only [go_sem]); (try simp at hc); try (exfalso; omega))) | with_reducible refine And.intro (by first | omega | (unfold inI; omega)) ?_)
    all_goals first
      | (refine retQ_ret rfl rfl (by simp [rowsOf, lk]) ?_; rfl)
      | skip
end Go.Proofs.YthocihmhljmgdaaGreatDoor

/-
  NotesText of the program: a walk by hand (the library's builder), as a contract of the abstract machine.
-/
set_option linter.unusedSimpArgs false
set_option linter.unusedVariables false
set_option maxHeartbeats 2000000
set_option maxRecDepth 100000
namespace Go.Proofs.YthocihmhljmgdaaGreatDoor
open Go.RowKit

theorem rds_note {w : World} {X : Nat → Prop} {v : Value} {l : List NoteD} (h : Rd w X (.lst 3 (l.map NoteD.dat)) v) : ∃ A c, v = .slice A l.length c ∧ RdS NoteD.enc 3 w A l ∧ l.length ≤ c := by
  generalize hes : l.map NoteD.dat = es at h
  cases h with
  | nil =>
    have : l = [] := List.map_eq_nil_iff.1 hes
    subst this
    exact ⟨_, _, rfl, ⟨0, 0, fun h => absurd h (by simp), fun k x hx => by simp at hx⟩, by simp⟩
  | lst _ _ b off c hcap hsz hc hrr =>
    have hlen : es.length = l.length := by rw [← hes]; simp
    refine ⟨_, _, by rw [hlen], ⟨b, off, fun _ => rfl, fun k x hx j u hu => ?_⟩, by omega⟩
    have hg : es[k]? = some x.dat := by rw [← hes, List.getElem?_map, hx]; rfl
    have key : ∀ (j : Nat) (n : Int), x.dat[j]? = some (.int .i64 n) → w.cell? ⟨b, off + k * 3 + j, none⟩ = some (.int .i64 n) := by
      intro j n hd
      obtain ⟨_, v, hv⟩ := hc k _ j _ hg hd
      have h2 := hrr k _ j _ v hg hd hv
      cases h2
      rw [Nat.add_assoc]
      exact hv
    match j with
    | 0 => cases hu; exact key 0 _ rfl
    | 1 => cases hu; exact key 1 _ rfl
    | 2 => cases hu; exact key 2 _ rfl
    | j + 3 => simp [NoteD.enc] at hu
theorem isB_keep {T e : TypeId} {B b : Nat} {bs : List Value} {w w' : World} (h : Lib.IsBuilder T e B b bs w) (hb : Below w.heap.size w w') : Lib.IsBuilder T e B b bs w' := by
  have key : ∀ p, Lib.BuilderAt T e B b p bs w → Lib.BuilderAt T e B b p bs w' := by
    rintro p ⟨h1, v, h2, ⟨h3, h4⟩, h5⟩
    have hlt : ∀ {g : Nat} {o : Obj}, w.heap[g]? = some o → w'.heap[g]? = some o := fun {g o} hg => (hb.block g (Array.getElem?_eq_some_iff.1 hg).1).trans hg
    refine ⟨h1, v, hlt h2, ⟨h3, ?_⟩, h5⟩
    rcases h4 with h4 | ⟨g, cap, cur, a1, a2, a3, a4⟩
    · exact .inl h4
    · exact .inr ⟨g, cap, cur, a1, a2, hlt a3, a4⟩
  exact h.imp (key _) (key _)
theorem calls_bool {f : FuncId} {args : List PV} {b : Bool} (h : FnEq Tryz.prog f args [.d (.bool b)]) (w : World) (hGL : GL w) (vals : Array Value) (hl : vals.size = args.length)
    (ha : ∀ (i : Nat) (x : PV) (v : Value), args[i]? = some x → vals[i]? = some v → R (fun _ => none) (fun _ => False) w x v) : Calls Tryz.prog f vals w fun e w' => e = .returned (.bool b) ∧ Below w.heap.size w w' := by
  refine (FnOK.calls h w hGL vals hl ha).mono ?_
  rintro e w' ⟨rs, rfl, hr⟩
  obtain ⟨Y, v0, g0, rfl, h0, hb⟩ := hr.one
  exact ⟨by rw [rr_bool h0], hb⟩
theorem calls_str {f : FuncId} {args : List PV} {s : ByteArray} (h : FnEq Tryz.prog f args [.d (.str s)]) (w : World) (hGL : GL w) (vals : Array Value) (hl : vals.size = args.length)
    (ha : ∀ (i : Nat) (x : PV) (v : Value), args[i]? = some x → vals[i]? = some v → R (fun _ => none) (fun _ => False) w x v) : Calls Tryz.prog f vals w fun e w' => e = .returned (.string s) ∧ Below w.heap.size w w' := by
  refine (FnOK.calls h w hGL vals hl ha).mono ?_
  rintro e w' ⟨rs, rfl, hr⟩
  obtain ⟨Y, v0, g0, rfl, h0, hb⟩ := hr.one
  have : v0 = .string s := by cases h0 with | d _ _ h => cases h; rfl
  exact ⟨by rw [this], hb⟩
theorem glKeep {w w' : World} (h : GL w) (hb : Below w.heap.size w w') : GL w' := h.keep hb.size fun b hlt => hb.block b (Nat.lt_of_lt_of_le hlt h.1)
theorem noteEnc : EncOK NoteD.enc NoteD.dat 3 where
  len := fun x => rfl
  dlen := fun x => rfl
  to_ := fun x j d u hd hu w X => by
    match j with
    | 0 => cases hd; cases hu; exact .int _ _
    | 1 => cases hd; cases hu; exact .int _ _
    | 2 => cases hd; cases hu; exact .int _ _
    | j + 3 => simp [NoteD.dat] at hd
  of_ := fun x j d u hd hu w X v h => by
    match j with
    | 0 => cases hd; cases hu; cases h; rfl
    | 1 => cases hd; cases hu; cases h; rfl
    | 2 => cases hd; cases hu; cases h; rfl
    | j + 3 => simp [NoteD.dat] at hd
theorem xBstr : Builder.Extra Tryz.prog Tryz.bstrLays_ren where
  sizeBuilder := by kernel_rfl
  liesBuilder := by kernel_rfl
  t5 := Tryz.underlying5
  a5 := Tryz.isAgg5
  z5 := Tryz.sizeOf5
  v5 := Tryz.zeroValue5
  infoByte := by kernel_rfl
  cellsByte := by kernel_rfl
  sizeByte := by kernel_rfl
  neB5 := by decide
set_option maxHeartbeats 4000000
set_option maxRecDepth 100000
theorem notesText_calls (A : Option Addr) (c : Nat) (l : List NoteD) (hok : NotesOk l) (w : World) (hGL : GL w) (hr : RdS NoteD.enc 3 w A l) (hcap : l.length ≤ c) :
    Calls Tryz.prog 7 #[.slice A l.length c] w fun e w' => e = .returned (.tuple #[.string (ba (textL l)), .bool true]) ∧ Below w.heap.size w w' := by
  have hl40 := hok.1
  have hf := hok.fit
  have han := impl_AreNotes_ok l (by omega)
  have hA := calls_bool (b := bP (NotesOk l)) han w hGL #[.slice A l.length c] rfl fun i x v hx hv => by
    match i with
    | 0 => cases hx; cases hv; exact .d _ _ (rd_of_reads noteEnc hr hcap)
    | i + 1 => simp at hx
  rw [bP_true hok] at hA
  clear han
  go_enter Tryz.func7, Tryz.ntmps7
  go_wp2_with (go_at_call 9; refine hA.mono ?_; rintro e w1 ⟨rfl, hb1⟩)
  have hB0 : Lib.IsBuilder 62 5 w1.heap.size w1.heap.size [] (w1.alloc (.cells #[.pointer none, .slice none 0 0] 62)) := Lib.fresh_isBuilder _ _ w1
  have hb2 : Below w1.heap.size w1 (w1.alloc (.cells #[.pointer none, .slice none 0 0] 62)) := (Below.refl _ _).alloc (Nat.le_refl _) _
  generalize w1.alloc (.cells #[.pointer none, .slice none 0 0] 62) = W at hB0 hb2 ⊢
  go_loopw [12] (fun i wr => ∃ k : Nat, k ≤ l.length ∧ i = .int .i64 k ∧ Lib.IsBuilder 62 5 w1.heap.size w1.heap.size (Lib.byteCells (textL (l.take k))) wr ∧ Below w1.heap.size w1 wr) (fun i _ => l.length - (intOf i).toNat)
  case atStart => exact ⟨0, by omega, rfl, hB0, hb2⟩
  case round =>
    obtain ⟨k, hk, rfl, hB, hb⟩ := hrel
    clear hB0 hb2
    have hbw : Below w.heap.size w wr := below_trans hb1 hb
    by_cases hlt : k < l.length
    · obtain ⟨b, off, x, rfl, hx, c0, c1, c2⟩ := (hr.ext hbw).note hlt
      have hfx := hf x (List.mem_of_getElem? hx.out)
      have hsz1 : w1.heap.size ≤ wr.heap.size := hb.size
      go_wp2_with fail
      have hb3 : Below wr.heap.size wr ((wr.alloc (.cells #[.int .i64 x.skater, .int .i64 x.before, .int .i64 x.inn] 64)).alloc (.cells #[.int .i64 x.skater, .int .i64 x.before, .int .i64 x.inn] 3)) := ((Below.refl _ _).alloc (Nat.le_refl _) _).alloc (by simp) _
      have hrd : RdS encI 1 ((wr.alloc (.cells #[.int .i64 x.skater, .int .i64 x.before, .int .i64 x.inn] 64)).alloc (.cells #[.int .i64 x.skater, .int .i64 x.before, .int .i64 x.inn] 3)) (some ⟨wr.heap.size + 1, 0, none⟩) [x.skater, x.before, x.inn] := by
        refine ⟨wr.heap.size + 1, 0, fun _ => rfl, fun j y hy i u hu => ?_⟩
        have hi : i = 0 := by
          have := (List.getElem?_eq_some_iff.1 hu).1
          simpa [encI] using this
        subst hi
        cases hu
        match j with
        | 0 => cases hy; simp [go_sem]
        | 1 => cases hy; simp [go_sem]
        | 2 => cases hy; simp [go_sem]
        | j + 3 => simp at hy
      generalize (wr.alloc (.cells #[.int .i64 x.skater, .int .i64 x.before, .int .i64 x.inn] 64)).alloc (.cells #[.int .i64 x.skater, .int .i64 x.before, .int .i64 x.inn] 3) = W2 at hb3 hrd ⊢
      have hfx2 := hfx
      unfold NoteFit at hfx2
      have hn := calls_str (numbersText_ok [x.skater, x.before, x.inn] (by simp) (by
        intro z hz
        simp only [List.mem_cons, List.not_mem_nil, or_false] at hz
        rcases hz with rfl | rfl | rfl <;> omega)) W2 (glKeep (glKeep hGL hbw) hb3) #[.slice (some ⟨wr.heap.size + 1, 0, none⟩) 3 3] rfl fun i y v hy hv => by
          match i with
          | 0 => cases hy; cases hv; exact .d _ _ (rd_of_reads datI_ok hrd (by simp))
          | i + 1 => simp at hy
      rw [join_line] at hn
      refine hn.mono ?_
      rintro e w3 ⟨rfl, hb4⟩
      have hB3 := isB_keep (isB_keep hB hb3) hb4
      have hbz : Below w1.heap.size w1 w3 := (hb.trans (hb3.mono hsz1)).trans (hb4.mono (Nat.le_trans hsz1 hb3.size))
      clear hn hb3 hb4 hrd hb hB c0 c1 c2
      have hs11 : (ba (lineL x)).size ≤ 11 := by rw [ba_size]; exact line_len hfx
      have hs1 : (⟨#[10]⟩ : ByteArray).size = 1 := rfl
      go_wp2_with fail
      have htl := text_len (l := l.take k) fun y hy => hf y (List.mem_of_mem_take hy)
      have htk : (l.take k).length ≤ k := List.length_take_le _ _
      have hws := Any.Builder_WriteString (P := Tryz.prog) (ρ := Tryz.joinLays_ren) { Tryz.joinLays with } xJoin w1.heap.size w1.heap.size (Lib.byteCells (textL (l.take k))) (ba (lineL x) ++ ⟨#[10]⟩) w3 hB3 (by rw [Lib.byteCells_length, ByteArray.size_append, hs1]; omega) hbz.size
      refine Calls.mono hws ?_
      rintro e w4 ⟨rfl, hB4, hb5⟩
      have hbz2 := hbz.trans hb5
      have hcat : Lib.byteCells (textL (l.take k)) ++ Lib.strCells (ba (lineL x) ++ ⟨#[10]⟩) = Lib.byteCells (textL (l.take (k + 1))) := by
        rw [Lib.strCells_eq, ← Lib.byteCells_append, take_snoc hx.out, textL_app]
        show Lib.byteCells (textL (l.take k) ++ bl (ba (lineL x) ++ ba [10])) = _
        rw [bl_app, bl_ba, bl_ba]
        simp [textL]
      rw [hcat] at hB4
      clear hws hcat hbz hb5 hB3
      go_wp2_with fail
      go_roundw
      case rel => exact ⟨k + 1, by omega, vint (by omega), .inr hB4, hbz2⟩
      case measure => simp [intOf]; omega
    · have hk' : k = l.length := by omega
      subst hk'
      rw [List.take_length] at hB
      have hst := Any.Builder_String_any (P := Tryz.prog) (ρ := Tryz.bstrLays_ren) Tryz.bstrLays xBstr w1.heap.size w1.heap.size (textL l) wr hB hb.size
      go_wp2_with fail
      refine Calls.mono hst ?_
      rintro e w4 ⟨rfl, hb6⟩
      have hbz := below_trans hb1 (hb.trans hb6)
      clear hst hb6 hB hb hbw
      go_wp2_with fail
      go_ret2
      exact ⟨rfl, hbz⟩
theorem impl_NotesText_yes (l : List NoteD) (hok : NotesOk l) : FnEq Tryz.prog 7 [.d (.lst 3 (l.map NoteD.dat))] [.d (.str (ba (textL l))), .d (.bool true)] := by
  refine ⟨⟨_, Tryz.func7, rfl, rfl⟩, fun w X vals hGL hX hl hr => ?_⟩
  have hl1 : vals.size = 1 := hl
  obtain ⟨v, rfl⟩ : ∃ v, vals = #[v] := by
    obtain ⟨l⟩ := vals
    match l, hl1 with
    | [a], _ => exact ⟨a, rfl⟩
  have h1 := hr 0 _ _ rfl rfl
  have h2 : Rd w X (.lst 3 (l.map NoteD.dat)) v := by cases h1; assumption
  obtain ⟨A, c, rfl, hrd, hcap⟩ := rds_note h2
  refine Calls.mono (notesText_calls A c l hok w hGL hrd hcap) fun e w' ⟨he, hb⟩ => ?_
  refine ⟨_, rfl, #[.string (ba (textL l)), .bool true], fun _ _ => False, he, rfl, ⟨hb, trivial⟩, fun _ _ _ h _ => h.elim, fun i r u h3 h4 => ?_⟩
  match i with
  | 0 => simp at h3 h4; subst h3 h4; exact .d _ _ (.str _)
  | 1 => simp at h3 h4; subst h3 h4; exact .d _ _ (.bool _)
  | i + 2 => simp at h3
theorem impl_NotesText_no (l : List NoteD) (hl : l.length ≤ 1048576) (hok : ¬ NotesOk l) : FnEq Tryz.prog 7 [.d (.lst 3 (l.map NoteD.dat))] [.d (.str ⟨#[]⟩), .d (.bool false)] := by
  refine fn_ok G_ok Tryz.func7 rfl rfl ?_; simp only [Tryz.ntmps7, List.length_cons, List.length_nil, Nat.reduceAdd, Nat.reduceSub, enm]
  have han := AreNotes_in l hl
  rw [bP_false hok] at han
  repeat' (first | ((with_reducible first | (refine hK _ ?_; clear hK K) | refine stq fun K' hK' => ?_ | refine stc ?_); try simp only [go_sem]) | (with_reducible first | refine stp ?_ | (refine hK' _ ?_; clear hK' K') | refine kN kl7 fun K hK => ?_ | refine kO fun K hK => ?_) | ((with_reducible apply CallK.eq); (· with_reducible first | exact han); (· simp [RV.flat, D.sc, datI]); try simp only [go_sem]) | refine iB ?_ | (with_reducible refine pK_mk ?_ ?_ <;> (intro hc; (try simp only [go_sem]); (try simp at hc); try (exfalso; omega))) | with_reducible refine And.intro (by first | omega | (unfold inI; omega)) ?_)
  all_goals first
    | (refine retQ_ret rfl rfl (by simp [rowsOf, lk]) ?_; rfl)
    | skip
theorem spec_NotesText_yes (l : List NoteD) (hok : NotesOk l) : FnEq Tryz.prog 8 [.d (.lst 3 (l.map NoteD.dat))] [.d (.str (ba (textL l))), .d (.bool true)] := by
  refine fn_ok G_ok Tryz.func8 rfl rfl ?_; simp only [Tryz.ntmps8, List.length_cons, List.length_nil, Nat.reduceAdd, Nat.reduceSub, enm]
  have hl := hok.1
  have han := wdGood_ok l (by omega)
  rw [bP_true hok] at han
  have ht := wdText_ok l (by omega) hok.fit
  repeat' (first | ((with_reducible first | (refine hK _ ?_; clear hK K) | refine stq fun K' hK' => ?_ | refine stc ?_); try simp only [go_sem]) | (with_reducible first | refine stp ?_ | (refine hK' _ ?_; clear hK' K') | refine kN kl8 fun K hK => ?_ | refine kO fun K hK => ?_) | ((with_reducible apply CallK.eq); (· with_reducible first | exact han | exact ht); (· simp [RV.flat, D.sc, datI]); try simp only [go_sem]) | (with_reducible refine pK_mk ?_ ?_ <;> (intro hc; (try simp only [go_sem]); (try simp at hc); try (exfalso; omega))) | with_reducible refine And.intro (by first | omega | (unfold inI; omega)) ?_)
  all_goals first
    | (refine retQ_ret rfl rfl (by simp [rowsOf, lk]) ?_; rfl)
    | skip
theorem spec_NotesText_no (l : List NoteD) (hl : l.length ≤ 1048576) (hok : ¬ NotesOk l) : FnEq Tryz.prog 8 [.d (.lst 3 (l.map NoteD.dat))] [.d (.str ⟨#[]⟩), .d (.bool false)] := by
  refine fn_ok G_ok Tryz.func8 rfl rfl ?_; simp only [Tryz.ntmps8, List.length_cons, List.length_nil, Nat.reduceAdd, Nat.reduceSub, enm]
  have han := wdGood_ok l hl
  rw [bP_false hok] at han
  repeat' (first | ((with_reducible first | (refine hK _ ?_; clear hK K) | refine stq fun K' hK' => ?_ | refine stc ?_); try simp only [go_sem]) | (with_reducible first | refine stp ?_ | (refine hK' _ ?_; clear hK' K') | refine kN kl8 fun K hK => ?_ | refine kO fun K hK => ?_) | ((with_reducible apply CallK.eq); (· with_reducible first | exact han); (· simp [RV.flat, D.sc, datI]); try simp only [go_sem]) | (with_reducible refine pK_mk ?_ ?_ <;> (intro hc; (try simp only [go_sem]); (try simp at hc); try (exfalso; omega))) | with_reducible refine And.intro (by first | omega | (unfold inI; omega)) ?_)
  all_goals first
    | (refine retQ_ret rfl rfl (by simp [rowsOf, lk]) ?_; rfl)
    | skip
end Go.Proofs.YthocihmhljmgdaaGreatDoor
