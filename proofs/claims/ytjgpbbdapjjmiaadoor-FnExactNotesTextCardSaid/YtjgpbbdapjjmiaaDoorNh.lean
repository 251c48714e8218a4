/-
  NotesText of the program: a walk by hand (the library's builder), as a contract of the abstract machine.
-/
import Derived.Test.YtjgpbbdapjjmiaaDoorNj
set_option linter.unusedSimpArgs false
set_option linter.unusedVariables false
set_option maxHeartbeats 2000000
set_option maxRecDepth 100000
namespace Go.Proofs.YtjgpbbdapjjmiaaDoor
open Go.RowKit

theorem rds_note {w : World} {X : Nat → Prop} {v : Value} {l : List NoteD} (h : Rd w X (.lst 3 (l.map NoteD.dat)) v) : ∃ A c, v = .slice A l.length c ∧ RdS NoteD.enc 3 w A l ∧ l.length ≤ c := by
  generalize hes : l.map NoteD.dat = es at h
  cases h with
  | nil =>
    have : l = [] := List.map_eq_nil_iff.1 hes
    subst this
    exact ⟨_, _, rfl, ⟨0, 0, fun h => absurd h (by simp), fun k x hx => by simp at hx⟩, by simp⟩
  | lst _ _ b off c hcap hsz hc hrr =>
    have hlen : es.length = l.length := by rw [← hes]; simp
    refine ⟨_, _, by rw [hlen], ⟨b, off, fun _ => rfl, fun k x hx j u hu => ?_⟩, by omega⟩
    have hg : es[k]? = some x.dat := by rw [← hes, List.getElem?_map, hx]; rfl
    have key : ∀ (j : Nat) (n : Int), x.dat[j]? = some (.int .i64 n) → w.cell? ⟨b, off + k * 3 + j, none⟩ = some (.int .i64 n) := by
      intro j n hd
      obtain ⟨_, v, hv⟩ := hc k _ j _ hg hd
      have h2 := hrr k _ j _ v hg hd hv
      cases h2
      rw [Nat.add_assoc]
      exact hv
    match j with
    | 0 => cases hu; exact key 0 _ rfl
    | 1 => cases hu; exact key 1 _ rfl
    | 2 => cases hu; exact key 2 _ rfl
    | j + 3 => simp [NoteD.enc] at hu
theorem isB_keep {T e : TypeId} {B b : Nat} {bs : List Value} {w w' : World} (h : Lib.IsBuilder T e B b bs w) (hb : Below w.heap.size w w') : Lib.IsBuilder T e B b bs w' := by
  have key : ∀ p, Lib.BuilderAt T e B b p bs w → Lib.BuilderAt T e B b p bs w' := by
    rintro p ⟨h1, v, h2, ⟨h3, h4⟩, h5⟩
    have hlt : ∀ {g : Nat} {o : Obj}, w.heap[g]? = some o → w'.heap[g]? = some o := fun {g o} hg => (hb.block g (Array.getElem?_eq_some_iff.1 hg).1).trans hg
    refine ⟨h1, v, hlt h2, ⟨h3, ?_⟩, h5⟩
    rcases h4 with h4 | ⟨g, cap, cur, a1, a2, a3, a4⟩
    · exact .inl h4
    · exact .inr ⟨g, cap, cur, a1, a2, hlt a3, a4⟩
  exact h.imp (key _) (key _)
theorem calls_bool {f : FuncId} {args : List PV} {b : Bool} (h : FnEq Tryd.prog f args [.d (.bool b)]) (w : World) (hGL : GL w) (vals : Array Value) (hl : vals.size = args.length)
    (ha : ∀ (i : Nat) (x : PV) (v : Value), args[i]? = some x → vals[i]? = some v → R (fun _ => none) (fun _ => False) w x v) : Calls Tryd.prog f vals w fun e w' => e = .returned (.bool b) ∧ Below w.heap.size w w' := by
  refine (FnOK.calls h w hGL vals hl ha).mono ?_
  rintro e w' ⟨rs, rfl, hr⟩
  obtain ⟨Y, v0, g0, rfl, h0, hb⟩ := hr.one
  exact ⟨by rw [rr_bool h0], hb⟩
theorem calls_str {f : FuncId} {args : List PV} {s : ByteArray} (h : FnEq Tryd.prog f args [.d (.str s)]) (w : World) (hGL : GL w) (vals : Array Value) (hl : vals.size = args.length)
    (ha : ∀ (i : Nat) (x : PV) (v : Value), args[i]? = some x → vals[i]? = some v → R (fun _ => none) (fun _ => False) w x v) : Calls Tryd.prog f vals w fun e w' => e = .returned (.string s) ∧ Below w.heap.size w w' := by
  refine (FnOK.calls h w hGL vals hl ha).mono ?_
  rintro e w' ⟨rs, rfl, hr⟩
  obtain ⟨Y, v0, g0, rfl, h0, hb⟩ := hr.one
  have : v0 = .string s := by cases h0 with | d _ _ h => cases h; rfl
  exact ⟨by rw [this], hb⟩
theorem glKeep {w w' : World} (h : GL w) (hb : Below w.heap.size w w') : GL w' := h.keep hb.size fun b hlt => hb.block b (Nat.lt_of_lt_of_le hlt h.1)
theorem noteEnc : EncOK NoteD.enc NoteD.dat 3 where
  len := fun x => rfl
  dlen := fun x => rfl
  to_ := fun x j d u hd hu w X => by
    match j with
    | 0 => cases hd; cases hu; exact .int _ _
    | 1 => cases hd; cases hu; exact .int _ _
    | 2 => cases hd; cases hu; exact .int _ _
    | j + 3 => simp [NoteD.dat] at hd
  of_ := fun x j d u hd hu w X v h => by
    match j with
    | 0 => cases hd; cases hu; cases h; rfl
    | 1 => cases hd; cases hu; cases h; rfl
    | 2 => cases hd; cases hu; cases h; rfl
    | j + 3 => simp [NoteD.dat] at hd
theorem xBstr : Builder.Extra Tryd.prog Tryd.bstrLays_ren where
  sizeBuilder := by kernel_rfl
  liesBuilder := by kernel_rfl
  t5 := Tryd.underlying5
  a5 := Tryd.isAgg5
  z5 := Tryd.sizeOf5
  v5 := Tryd.zeroValue5
  infoByte := by kernel_rfl
  cellsByte := by kernel_rfl
  sizeByte := by kernel_rfl
  neB5 := by decide
set_option maxHeartbeats 4000000
set_option maxRecDepth 100000
theorem notesText_calls (A : Option Addr) (c : Nat) (l : List NoteD) (hok : NotesOk l) (w : World) (hGL : GL w) (hr : RdS NoteD.enc 3 w A l) (hcap : l.length ≤ c) :
    Calls Tryd.prog 14 #[.slice A l.length c] w fun e w' => e = .returned (.tuple #[.string (ba (textL l)), .bool true]) ∧ Below w.heap.size w w' := by
  have hl40 := hok.1
  have hf := hok.fit
  have han := impl_AreNotes_ok l (by omega)
  have hA := calls_bool (b := bP (NotesOk l)) han w hGL #[.slice A l.length c] rfl fun i x v hx hv => by
    match i with
    | 0 => cases hx; cases hv; exact .d _ _ (rd_of_reads noteEnc hr hcap)
    | i + 1 => simp at hx
  rw [bP_true hok] at hA
  clear han
  go_enter Tryd.func14, Tryd.ntmps14
  go_wp2_with (go_at_call 26; refine hA.mono ?_; rintro e w1 ⟨rfl, hb1⟩)
  have hB0 : Lib.IsBuilder 52 5 w1.heap.size w1.heap.size [] (w1.alloc (.cells #[.pointer none, .slice none 0 0] 52)) := Lib.fresh_isBuilder _ _ w1
  have hb2 : Below w1.heap.size w1 (w1.alloc (.cells #[.pointer none, .slice none 0 0] 52)) := (Below.refl _ _).alloc (Nat.le_refl _) _
  generalize w1.alloc (.cells #[.pointer none, .slice none 0 0] 52) = W at hB0 hb2 ⊢
  go_loopw [12] (fun i wr => ∃ k : Nat, k ≤ l.length ∧ i = .int .i64 k ∧ Lib.IsBuilder 52 5 w1.heap.size w1.heap.size (Lib.byteCells (textL (l.take k))) wr ∧ Below w1.heap.size w1 wr) (fun i _ => l.length - (intOf i).toNat)
  case atStart => exact ⟨0, by omega, rfl, hB0, hb2⟩
  case round =>
    obtain ⟨k, hk, rfl, hB, hb⟩ := hrel
    clear hB0 hb2
    have hbw : Below w.heap.size w wr := below_trans hb1 hb
    by_cases hlt : k < l.length
    · obtain ⟨b, off, x, rfl, hx, c0, c1, c2⟩ := (hr.ext hbw).note hlt
      have hfx := hf x (List.mem_of_getElem? hx.out)
      have hsz1 : w1.heap.size ≤ wr.heap.size := hb.size
      go_wp2_with fail
      have hb3 : Below wr.heap.size wr ((wr.alloc (.cells #[.int .i64 x.skater, .int .i64 x.before, .int .i64 x.inn] 46)).alloc (.cells #[.int .i64 x.skater, .int .i64 x.before, .int .i64 x.inn] 3)) := ((Below.refl _ _).alloc (Nat.le_refl _) _).alloc (by simp) _
      have hrd : RdS encI 1 ((wr.alloc (.cells #[.int .i64 x.skater, .int .i64 x.before, .int .i64 x.inn] 46)).alloc (.cells #[.int .i64 x.skater, .int .i64 x.before, .int .i64 x.inn] 3)) (some ⟨wr.heap.size + 1, 0, none⟩) [x.skater, x.before, x.inn] := by
        refine ⟨wr.heap.size + 1, 0, fun _ => rfl, fun j y hy i u hu => ?_⟩
        have hi : i = 0 := by
          have := (List.getElem?_eq_some_iff.1 hu).1
          simpa [encI] using this
        subst hi
        cases hu
        match j with
        | 0 => cases hy; simp [go_sem]
        | 1 => cases hy; simp [go_sem]
        | 2 => cases hy; simp [go_sem]
        | j + 3 => simp at hy
      generalize (wr.alloc (.cells #[.int .i64 x.skater, .int .i64 x.before, .int .i64 x.inn] 46)).alloc (.cells #[.int .i64 x.skater, .int .i64 x.before, .int .i64 x.inn] 3) = W2 at hb3 hrd ⊢
      have hfx2 := hfx
      unfold NoteFit at hfx2
      have hn := calls_str (numbersText_ok [x.skater, x.before, x.inn] (by simp) (by
        intro z hz
        simp only [List.mem_cons, List.not_mem_nil, or_false] at hz
        rcases hz with rfl | rfl | rfl <;> omega)) W2 (glKeep (glKeep hGL hbw) hb3) #[.slice (some ⟨wr.heap.size + 1, 0, none⟩) 3 3] rfl fun i y v hy hv => by
          match i with
          | 0 => cases hy; cases hv; exact .d _ _ (rd_of_reads datI_ok hrd (by simp))
          | i + 1 => simp at hy
      rw [join_line] at hn
      refine hn.mono ?_
      rintro e w3 ⟨rfl, hb4⟩
      have hB3 := isB_keep (isB_keep hB hb3) hb4
      have hbz : Below w1.heap.size w1 w3 := (hb.trans (hb3.mono hsz1)).trans (hb4.mono (Nat.le_trans hsz1 hb3.size))
      clear hn hb3 hb4 hrd hb hB c0 c1 c2
      have hs11 : (ba (lineL x)).size ≤ 11 := by rw [ba_size]; exact line_len hfx
      have hs1 : (⟨#[10]⟩ : ByteArray).size = 1 := rfl
      go_wp2_with fail
      have htl := text_len (l := l.take k) fun y hy => hf y (List.mem_of_mem_take hy)
      have htk : (l.take k).length ≤ k := List.length_take_le _ _
      have hws := Any.Builder_WriteString (P := Tryd.prog) (ρ := Tryd.joinLays_ren) { Tryd.joinLays with } xJoin w1.heap.size w1.heap.size (Lib.byteCells (textL (l.take k))) (ba (lineL x) ++ ⟨#[10]⟩) w3 hB3 (by rw [Lib.byteCells_length, ByteArray.size_append, hs1]; omega) hbz.size
      refine Calls.mono hws ?_
      rintro e w4 ⟨rfl, hB4, hb5⟩
      have hbz2 := hbz.trans hb5
      have hcat : Lib.byteCells (textL (l.take k)) ++ Lib.strCells (ba (lineL x) ++ ⟨#[10]⟩) = Lib.byteCells (textL (l.take (k + 1))) := by
        rw [Lib.strCells_eq, ← Lib.byteCells_append, take_snoc hx.out, textL_app]
        show Lib.byteCells (textL (l.take k) ++ bl (ba (lineL x) ++ ba [10])) = _
        rw [bl_app, bl_ba, bl_ba]
        simp [textL]
      rw [hcat] at hB4
      clear hws hcat hbz hb5 hB3
      go_wp2_with fail
      go_roundw
      case rel => exact ⟨k + 1, by omega, vint (by omega), .inr hB4, hbz2⟩
      case measure => simp [intOf]; omega
    · have hk' : k = l.length := by omega
      subst hk'
      rw [List.take_length] at hB
      have hst := Any.Builder_String_any (P := Tryd.prog) (ρ := Tryd.bstrLays_ren) Tryd.bstrLays xBstr w1.heap.size w1.heap.size (textL l) wr hB hb.size
      go_wp2_with fail
      refine Calls.mono hst ?_
      rintro e w4 ⟨rfl, hb6⟩
      have hbz := below_trans hb1 (hb.trans hb6)
      clear hst hb6 hB hb hbw
      go_wp2_with fail
      go_ret2
      exact ⟨rfl, hbz⟩
theorem impl_NotesText_yes (l : List NoteD) (hok : NotesOk l) : FnEq Tryd.prog 14 [.d (.lst 3 (l.map NoteD.dat))] [.d (.str (ba (textL l))), .d (.bool true)] := by
  refine ⟨⟨_, Tryd.func14, rfl, rfl⟩, fun w X vals hGL hX hl hr => ?_⟩
  have hl1 : vals.size = 1 := hl
  obtain ⟨v, rfl⟩ : ∃ v, vals = #[v] := by
    obtain ⟨l⟩ := vals
    match l, hl1 with
    | [a], _ => exact ⟨a, rfl⟩
  have h1 := hr 0 _ _ rfl rfl
  have h2 : Rd w X (.lst 3 (l.map NoteD.dat)) v := by cases h1; assumption
  obtain ⟨A, c, rfl, hrd, hcap⟩ := rds_note h2
  refine Calls.mono (notesText_calls A c l hok w hGL hrd hcap) fun e w' ⟨he, hb⟩ => ?_
  refine ⟨_, rfl, #[.string (ba (textL l)), .bool true], fun _ _ => False, he, rfl, ⟨hb, trivial⟩, fun _ _ _ h _ => h.elim, fun i r u h3 h4 => ?_⟩
  match i with
  | 0 => simp at h3 h4; subst h3 h4; exact .d _ _ (.str _)
  | 1 => simp at h3 h4; subst h3 h4; exact .d _ _ (.bool _)
  | i + 2 => simp at h3
theorem impl_NotesText_no (l : List NoteD) (hl : l.length ≤ 1048576) (hok : ¬ NotesOk l) : FnEq Tryd.prog 14 [.d (.lst 3 (l.map NoteD.dat))] [.d (.str ⟨#[]⟩), .d (.bool false)] := by
  refine fn_ok G_ok Tryd.func14 rfl rfl ?_; simp only [Tryd.ntmps14, List.length_cons, List.length_nil, Nat.reduceAdd, Nat.reduceSub, enm]
  have han := AreNotes_in l hl
  rw [bP_false hok] at han
  repeat' (first | ((with_reducible first | (refine hK _ ?_; clear hK K) | refine stq fun K' hK' => ?_ | refine stc ?_); try simp only [go_sem]) | (with_reducible first | refine stp ?_ | (refine hK' _ ?_; clear hK' K') | refine kN kl14 fun K hK => ?_ | refine kO fun K hK => ?_) | ((with_reducible apply CallK.eq); (· with_reducible first | exact han); (· simp [RV.flat, D.sc, datI]); try simp only [go_sem]) | refine iB ?_ | (with_reducible refine pK_mk ?_ ?_ <;> (intro hc; (try simp only [go_sem]); (try simp at hc); try (exfalso; omega))) | with_reducible refine And.intro (by first | omega | (unfold inI; omega)) ?_)
  all_goals first
    | (refine retQ_ret rfl rfl (by simp [rowsOf, lk]) ?_; rfl)
    | skip
theorem spec_NotesText_yes (l : List NoteD) (hok : NotesOk l) : FnEq Tryd.prog 12 [.d (.lst 3 (l.map NoteD.dat))] [.d (.str (ba (textL l))), .d (.bool true)] := by
  refine fn_ok G_ok Tryd.func12 rfl rfl ?_; simp only [Tryd.ntmps12, List.length_cons, List.length_nil, Nat.reduceAdd, Nat.reduceSub, enm]
  have hl := hok.1
  have han := wdGood_ok l (by omega)
  rw [bP_true hok] at han
  have ht := wdText_ok l (by omega) hok.fit
  repeat' (first | ((with_reducible first | (refine hK _ ?_; clear hK K) | refine stq fun K' hK' => ?_ | refine stc ?_); try simp only [go_sem]) | (with_reducible first | refine stp ?_ | (refine hK' _ ?_; clear hK' K') | refine kN kl12 fun K hK => ?_ | refine kO fun K hK => ?_) | ((with_reducible apply CallK.eq); (· with_reducible first | exact han | exact ht); (· simp [RV.flat, D.sc, datI]); try simp only [go_sem]) | (with_reducible refine pK_mk ?_ ?_ <;> (intro hc; (try simp only [go_sem]); (try simp at hc); try (exfalso; omega))) | with_reducible refine And.intro (by first | omega | (unfold inI; omega)) ?_)
  all_goals first
    | (refine retQ_ret rfl rfl (by simp [rowsOf, lk]) ?_; rfl)
    | skip
theorem spec_NotesText_no (l : List NoteD) (hl : l.length ≤ 1048576) (hok : ¬ NotesOk l) : FnEq Tryd.prog 12 [.d (.lst 3 (l.map NoteD.dat))] [.d (.str ⟨#[]⟩), .d (.bool false)] := by
  refine fn_ok G_ok Tryd.func12 rfl rfl ?_; simp only [Tryd.ntmps12, List.length_cons, List.length_nil, Nat.reduceAdd, Nat.reduceSub, enm]
  have han := wdGood_ok l hl
  rw [bP_false hok] at han
  repeat' (first | ((with_reducible first | (refine hK _ ?_; clear hK K) | refine stq fun K' hK' => ?_ | refine stc ?_); try simp only [go_sem]) | (with_reducible first | refine stp ?_ | (refine hK' _ ?_; clear hK' K') | refine kN kl12 fun K hK => ?_ | refine kO fun K hK => ?_) | ((with_reducible apply CallK.eq); (· with_reducible first | exact han); (· simp [RV.flat, D.sc, datI]); try simp only [go_sem]) | (with_reducible refine pK_mk ?_ ?_ <;> (intro hc; (try simp only [go_sem]); (try simp at hc); try (exfalso; omega))) | with_reducible refine And.intro (by first | omega | (unfold inI; omega)) ?_)
  all_goals first
    | (refine retQ_ret rfl rfl (by simp [rowsOf, lk]) ?_; rfl)
    | skip
end Go.Proofs.YtjgpbbdapjjmiaaDoor
