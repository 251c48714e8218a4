/-
  What is drawn for the law on notes.
-/
import Derived.Test.YthocihmhljmgdaaGreatDoorZCn
import Derived.Test.YthocihmhljmgdaaGreatDoorZNu
import Derived.Test.YthocihmhljmgdaaGreatDoorZCt
import Derived.Test.YthocihmhljmgdaaGreatDoorZCo
import Derived.Test.YthocihmhljmgdaaGreatDoorZMst
set_option linter.unusedSimpArgs false
set_option linter.unusedVariables false
set_option maxHeartbeats 2000000
set_option maxRecDepth 100000
namespace Go.Proofs.YthocihmhljmgdaaGreatDoor
open Go.RowKit

theorem notesD_ok {k : Nat} {cs : List D} {sk : List Int} (hC : Cur k cs) (hk : k ≤ 1000000000) (hl : sk.length ≤ 1048576) (hs : ∀ x ∈ sk, skOk x) : FnC Tryz.prog 57 3 [.lst 1 (sk.map datI)] cs (PostX (k + 100) ndL fun l => [.d (.lst 3 (l.map NoteD.dat))]) :=
  FnC.data ((notes_ok hC hk hl hs).mono fun _ _ ⟨x, h1, h2, h3⟩ => ⟨x, h1, by rw [h2]; rfl, h3⟩)
theorem notes0_ok {k : Nat} {cs : List D} (hC : Cur k cs) (hk : k ≤ 1000000000) : FnC Tryz.prog 57 3 [.lst 1 []] cs (PostX (k + 100) ndL fun l => [.d (.lst 3 (l.map NoteD.dat))]) :=
  notesD_ok (sk := []) hC hk (by simp) (by simp)
theorem drawAreNotes_ok (xs : List Int) (hx : ∀ x ∈ xs, 0 ≤ x ∧ x ≤ 255) (hn : xs.length ≤ 9223372036854775807) : FnOK Tryz.prog 39 [.d (.lst 1 (xs.map datY))] (fun rs => ∃ l, ndL l ∧ rs = [.d (.lst 3 (l.map NoteD.dat))]) := by
  have hC := cur0 hx hn
  refine fn_ok G_ok Tryz.func39 rfl rfl ?_; simp only [Tryz.ntmps39, List.length_cons, List.length_nil, Nat.reduceAdd, Nat.reduceSub, enm]
  repeat' (first | ((with_reducible first | (refine hK _ ?_; clear hK K) | refine stq fun K' hK' => ?_ | refine stc ?_); try simp only [go_sem]) | (with_reducible first | refine stp ?_ | (refine hK' _ ?_; clear hK' K') | refine kN kl39 fun K hK => ?_ | refine kO fun K hK => ?_) | (with_reducible refine pK_mk ?_ ?_ <;> (intro hc; (try simp only [go_sem]); (try simp at hc); try (exfalso; omega))) | with_reducible refine And.intro (by first | omega | (unfold inI; omega)) ?_)
  rw [box3 (.lst 1 (xs.map datY)) (.int .i64 0) (.int .u64 0)]
  generalize [D.lst 1 (xs.map datY), D.int .i64 0, D.int .u64 0] = cs at hC ⊢
  refine CallK.curN 1 (none) (notes0_ok (by assumption) (by omega)) rfl rfl rfl rfl rfl rfl ?_; rintro c2 _ ⟨x, hx, rfl, hC⟩; try simp only [mkB, go_sem]
  rename List NoteD => l
  have hl : ndL l := hx
  repeat' (first | ((with_reducible first | (refine hK _ ?_; clear hK K) | refine stq fun K' hK' => ?_ | refine stc ?_); try simp only [go_sem]) | (with_reducible first | refine stp ?_ | (refine hK' _ ?_; clear hK' K') | refine kN kl39 fun K hK => ?_ | refine kO fun K hK => ?_) | (with_reducible refine pK_mk ?_ ?_ <;> (intro hc; (try simp only [go_sem]); (try simp at hc); try (exfalso; omega))) | with_reducible refine And.intro (by first | omega | (unfold inI; omega)) ?_)
  refine retQ_ret rfl rfl (by simp [rowsOf, lk]) ?_
  exact ⟨l, hl, rfl⟩
theorem drawNotes_ok (xs : List Int) (hx : ∀ x ∈ xs, 0 ≤ x ∧ x ≤ 255) (hn : xs.length ≤ 9223372036854775807) : FnOK Tryz.prog 6 [.d (.lst 1 (xs.map datY))] (fun rs => ∃ l, ndL l ∧ rs = [.d (.lst 3 (l.map NoteD.dat))]) := by
  refine fn_ok G_ok Tryz.func6 rfl rfl ?_; simp only [Tryz.ntmps6, List.length_cons, List.length_nil, Nat.reduceAdd, Nat.reduceSub, enm]
  repeat' (first | ((with_reducible first | (refine hK _ ?_; clear hK K) | refine stq fun K' hK' => ?_ | refine stc ?_); try simp only [go_sem]) | (with_reducible first | refine stp ?_ | (refine hK' _ ?_; clear hK' K') | refine kN kl6 fun K hK => ?_ | refine kO fun K hK => ?_) | (with_reducible refine pK_mk ?_ ?_ <;> (intro hc; (try simp only [go_sem]); (try simp at hc); try (exfalso; omega))) | with_reducible refine And.intro (by first | omega | (unfold inI; omega)) ?_)
  refine CallK.of (drawAreNotes_ok xs hx hn) ?_; rintro _ ⟨l, hl, rfl⟩; refine ⟨(fun h => by cases h), ?_⟩; try simp only [go_sem]
  repeat' (first | ((with_reducible first | (refine hK _ ?_; clear hK K) | refine stq fun K' hK' => ?_ | refine stc ?_); try simp only [go_sem]) | (with_reducible first | refine stp ?_ | (refine hK' _ ?_; clear hK' K') | refine kN kl6 fun K hK => ?_ | refine kO fun K hK => ?_) | (with_reducible refine pK_mk ?_ ?_ <;> (intro hc; (try simp only [go_sem]); (try simp at hc); try (exfalso; omega))) | with_reducible refine And.intro (by first | omega | (unfold inI; omega)) ?_)
  refine retQ_ret rfl rfl (by simp [rowsOf, lk]) ?_
  exact ⟨l, hl, rfl⟩
theorem drawUndo_ok (xs : List Int) (hx : ∀ x ∈ xs, 0 ≤ x ∧ x ≤ 255) (hn : xs.length ≤ 9223372036854775807) : FnOK Tryz.prog 15 [.d (.lst 1 (xs.map datY))] (fun rs => ∃ (l : List NoteD) (n : Int), (ndL l ∧ -1 ≤ n ∧ n ≤ 1000) ∧ rs = [.d (.lst 3 (l.map NoteD.dat)), .d (.int .i64 n)]) := by
  have hC := cur0 hx hn
  refine fn_ok G_ok Tryz.func15 rfl rfl ?_; simp only [Tryz.ntmps15, List.length_cons, List.length_nil, Nat.reduceAdd, Nat.reduceSub, enm]
  repeat' (first | ((with_reducible first | (refine hK _ ?_; clear hK K) | refine stq fun K' hK' => ?_ | refine stc ?_); try simp only [go_sem]) | (with_reducible first | refine stp ?_ | (refine hK' _ ?_; clear hK' K') | refine kN kl15 fun K hK => ?_ | refine kO fun K hK => ?_) | (refine xS rfl fun K' hK' => ?_; simp only [go_sem]) | (refine qS rfl fun K' hK' => ?_; simp only [go_sem]) | (with_reducible refine pw_seq_drawK kl15 G_ok mixed (by kernel_rfl) (fun K hK => ?_)) | (with_reducible refine pw_draw G_ok mixed (by kernel_rfl) ?_) | (with_reducible refine pK_mk ?_ ?_ <;> (intro hc; (try simp only [go_sem]); (try simp at hc); try (exfalso; omega))) | with_reducible refine And.intro (by first | omega | (unfold inI; omega)) ?_)
  rw [box3 (.lst 1 (xs.map datY)) (.int .i64 0) (.int .u64 0)]
  generalize [D.lst 1 (xs.map datY), D.int .i64 0, D.int .u64 0] = cs at hC ⊢
  refine CallK.curN 1 (none) (notes0_ok (by assumption) (by omega)) rfl rfl rfl rfl rfl rfl ?_; rintro c2 _ ⟨x, hx, rfl, hC⟩; try simp only [mkB, go_sem]
  rename List NoteD => l
  have hl : ndL l := hx
  clear hx
  by_cases h0 : 0 < l.length
  · have h0' : 0 < (l.length : Int) := by omega
    repeat' (first | with_reducible refine stop_seq (id := 4) ?_ | with_reducible refine stop_one (id := 4) ?_ | ((with_reducible first | (refine hK _ ?_; clear hK K) | refine stq fun K' hK' => ?_ | refine stc ?_); try simp only [go_sem, h0']) | (with_reducible first | refine stp ?_ | (refine hK' _ ?_; clear hK' K') | refine kN kl15 fun K hK => ?_ | refine kO fun K hK => ?_) | (refine xS rfl fun K' hK' => ?_; simp only [go_sem, h0']) | (refine qS rfl fun K' hK' => ?_; simp only [go_sem, h0']) | ((first | refine CallK.cur none (onec_ok (by assumption) (by omega)) rfl rfl rfl rfl rfl rfl ?_ | refine CallK.cur none (pick_ok (by assumption) (by omega)) rfl rfl rfl rfl rfl rfl ?_); rintro c2 _ ⟨x, hx, rfl, hC⟩; try simp only [mkB, go_sem, h0']) | ((first | refine CallK.cur none (onec_ok (by assumption) (by omega)) rfl rfl rfl rfl rfl rfl ?_ | refine CallK.cur none (pick_ok (by assumption) (by omega)) rfl rfl rfl rfl rfl rfl ?_); rintro c2 _ ⟨x, hx, rfl, hC⟩; try simp only [mkB, go_sem, h0']) | (with_reducible refine pw_seq_drawK kl15 G_ok mixed (by kernel_rfl) (fun K hK => ?_)) | (with_reducible refine pw_draw G_ok mixed (by kernel_rfl) ?_) | (with_reducible refine pK_mk ?_ ?_ <;> (intro hc; (try simp only [go_sem, h0']); (try simp at hc); try (exfalso; omega))) | with_reducible refine And.intro (by first | omega | (unfold inI; omega)) ?_)
    · unfold Stop
      refine pw_seq_anyN kl15 mixed ?_
      refine anyN_take 0 rfl rfl rfl (by decide +kernel) (by decide +kernel) (by decide +kernel) (pure_move (.inl rfl)) ?_
      try simp only [go_sem, Nat.zero_add, Int.toNat_natCast, Nat.mul_one, List.length_map, NoteD.dat]
      refine anyN_take 1 rfl rfl rfl (by decide +kernel) (by decide +kernel) (by decide +kernel) (pure_move (.inl rfl)) ?_
      try simp only [go_sem, Nat.zero_add, Int.toNat_natCast, Nat.mul_one, List.length_map, NoteD.dat]
      refine anyN_take 2 rfl rfl rfl (by decide +kernel) (by decide +kernel) (by decide +kernel) (pure_move (.inl rfl)) ?_
      try simp only [go_sem, Nat.zero_add, Int.toNat_natCast, Nat.mul_one, List.length_map, NoteD.dat]
      refine anyN_take 3 rfl rfl rfl (by decide +kernel) (by decide +kernel) (by decide +kernel) (pure_move (.inl rfl)) ?_
      try simp only [go_sem, Nat.zero_add, Int.toNat_natCast, Nat.mul_one, List.length_map, NoteD.dat]
      refine anyN_take 4 rfl rfl rfl (by decide +kernel) (by decide +kernel) (by decide +kernel) (pure_len rfl (G_ok _ _ G24) rfl) ?_
      try simp only [go_sem, Nat.zero_add, Int.toNat_natCast, Nat.mul_one, List.length_map, NoteD.dat]
      refine anyN_step G_ok [5] (by decide +kernel) rfl ⟨⟨_, rfl, fun K' hK' => ?_⟩, trivial⟩
      (first | with_reducible refine s_none rfl ?_ | refine s_some2 rfl ?_)
      simp only [go_sem, Nat.zero_add, Int.toNat_natCast, Nat.mul_one, List.length_map, NoteD.dat]
      repeat' (first | (with_reducible refine hK' _ ?_; clear hK' K'; try simp only [go_sem, Nat.zero_add, Int.toNat_natCast, Nat.mul_one, List.length_map, NoteD.dat]) | (refine CallK.cur (none) (pick_ok (by assumption) (by omega)) rfl rfl rfl rfl rfl rfl ?_; rintro c2 _ ⟨x, hx, rfl, hC⟩; try simp only [mkB, go_sem, Nat.zero_add, Int.toNat_natCast, Nat.mul_one, List.length_map, NoteD.dat]) | with_reducible refine And.intro (by first | omega | (unfold inI; omega)) ?_)
      obtain ⟨i, rfl⟩ : ∃ i : Nat, x = i := ⟨x.toNat, by omega⟩
      obtain ⟨e, he⟩ : ∃ e, l[i]? = some e := ⟨_, List.getElem?_eq_getElem (by omega)⟩
      have hea := hl.2 e (List.mem_of_getElem? he)
      unfold ndOk at hea
      refine anyN_take 6 rfl rfl rfl (by decide +kernel) (by decide +kernel) (by decide +kernel) (pure_ix (y := .eptr e.dat) rfl (G_ok _ _ G24) rfl (by omega) (by simp [idxP, AS.get, lk, List.getElem?_map, he, NoteD.dat])) ?_
      try simp only [go_sem, Nat.zero_add, Int.toNat_natCast, Nat.mul_one, List.length_map, NoteD.dat]
      refine anyN_take 9 rfl rfl rfl (by decide +kernel) (by decide +kernel) (by decide +kernel) (pure_move (.inr rfl)) ?_
      try simp only [go_sem, Nat.zero_add, Int.toNat_natCast, Nat.mul_one, List.length_map, NoteD.dat]
      refine anyN_step G_ok [7] (by decide +kernel) rfl ⟨⟨_, rfl, fun K' hK' => ?_⟩, trivial⟩
      (first | with_reducible refine s_none rfl ?_ | refine s_some2 rfl ?_)
      simp only [go_sem, Nat.zero_add, Int.toNat_natCast, Nat.mul_one, List.length_map, NoteD.dat]
      repeat' (first | (with_reducible refine hK' _ ?_; clear hK' K'; try simp only [go_sem, Nat.zero_add, Int.toNat_natCast, Nat.mul_one, List.length_map, NoteD.dat]) | (refine CallK.cur (none) (pick_ok (by assumption) (by omega)) rfl rfl rfl rfl rfl rfl ?_; rintro c2 _ ⟨x, hx, rfl, hC⟩; try simp only [mkB, go_sem, Nat.zero_add, Int.toNat_natCast, Nat.mul_one, List.length_map, NoteD.dat]) | with_reducible refine And.intro (by first | omega | (unfold inI; omega)) ?_)
      refine anyN_step G_ok [8] (by decide +kernel) rfl ⟨⟨_, rfl, fun K' hK' => ?_⟩, trivial⟩
      (first | with_reducible refine s_none rfl ?_ | refine s_some2 rfl ?_)
      simp only [go_sem, Nat.zero_add, Int.toNat_natCast, Nat.mul_one, List.length_map, NoteD.dat]
      repeat' (first | (with_reducible refine hK' _ ?_; clear hK' K'; try simp only [go_sem, Nat.zero_add, Int.toNat_natCast, Nat.mul_one, List.length_map, NoteD.dat]) | (refine CallK.cur (none) (pick_ok (by assumption) (by omega)) rfl rfl rfl rfl rfl rfl ?_; rintro c2 _ ⟨x, hx, rfl, hC⟩; try simp only [mkB, go_sem, Nat.zero_add, Int.toNat_natCast, Nat.mul_one, List.length_map, NoteD.dat]) | with_reducible refine And.intro (by first | omega | (unfold inI; omega)) ?_)
      refine anyN_take 10 rfl rfl rfl (by decide +kernel) (by decide +kernel) (by decide +kernel) (pure_move (.inr rfl)) ?_
      try simp only [go_sem, Nat.zero_add, Int.toNat_natCast, Nat.mul_one, List.length_map, NoteD.dat]
      refine anyN_done (by decide +kernel) ?_
      try simp only [go_sem, Nat.zero_add, Int.toNat_natCast, Nat.mul_one, List.length_map, NoteD.dat]
      repeat' (first | with_reducible refine pw_ret ?_ | with_reducible refine thenA_ret ?_)
      refine retQ_ret rfl rfl (by simp [rowsOf, lk]) ?_
      exact ⟨l, _, ⟨hl, by omega, by omega⟩, rfl⟩
    · refine retQ_ret rfl rfl (by simp [rowsOf, lk]) ?_
      exact ⟨l, _, ⟨hl, by omega, by omega⟩, rfl⟩
  · have h0' : ¬ 0 < (l.length : Int) := by omega
    repeat' (first | ((with_reducible first | (refine hK _ ?_; clear hK K) | refine stq fun K' hK' => ?_ | refine stc ?_); try simp only [go_sem, h0']) | (with_reducible first | refine stp ?_ | (refine hK' _ ?_; clear hK' K') | refine kN kl15 fun K hK => ?_ | refine kO fun K hK => ?_) | (refine xS rfl fun K' hK' => ?_; simp only [go_sem, h0']) | (refine qS rfl fun K' hK' => ?_; simp only [go_sem, h0']) | ((first | refine CallK.cur none (pick_ok (by assumption) (by omega)) rfl rfl rfl rfl rfl rfl ?_); rintro c2 _ ⟨x, hx, rfl, hC⟩; try simp only [mkB, go_sem, h0']) | ((first | refine CallK.cur none (pick_ok (by assumption) (by omega)) rfl rfl rfl rfl rfl rfl ?_); rintro c2 _ ⟨x, hx, rfl, hC⟩; try simp only [mkB, go_sem, h0']) | (with_reducible refine pw_seq_drawK kl15 G_ok mixed (by kernel_rfl) (fun K hK => ?_)) | (with_reducible refine pw_draw G_ok mixed (by kernel_rfl) ?_) | (with_reducible refine pK_mk ?_ ?_ <;> (intro hc; (try simp only [go_sem, h0']); (try simp at hc); try (exfalso; omega))) | with_reducible refine And.intro (by first | omega | (unfold inI; omega)) ?_)
    refine retQ_ret rfl rfl (by simp [rowsOf, lk]) ?_
    exact ⟨l, _, ⟨hl, by omega, by omega⟩, rfl⟩
theorem drawWB_ok (xs : List Int) (hx : ∀ x ∈ xs, 0 ≤ x ∧ x ≤ 255) (hn : xs.length ≤ 9223372036854775807) : FnOK Tryz.prog 23 [.d (.lst 1 (xs.map datY))] (fun rs => ∃ (l : List NoteD) (n : Int), (ndL l ∧ -2 ≤ n ∧ n ≤ 4) ∧ rs = [.d (.lst 3 (l.map NoteD.dat)), .d (.int .i64 n)]) := by
  have hC := cur0 hx hn
  refine fn_ok G_ok Tryz.func23 rfl rfl ?_; simp only [Tryz.ntmps23, List.length_cons, List.length_nil, Nat.reduceAdd, Nat.reduceSub, enm]
  repeat' (first | ((with_reducible first | (refine hK _ ?_; clear hK K) | refine stq fun K' hK' => ?_ | refine stc ?_); try simp only [go_sem]) | (with_reducible first | refine stp ?_ | (refine hK' _ ?_; clear hK' K') | refine kN kl23 fun K hK => ?_ | refine kO fun K hK => ?_) | (with_reducible refine pK_mk ?_ ?_ <;> (intro hc; (try simp only [go_sem]); (try simp at hc); try (exfalso; omega))) | with_reducible refine And.intro (by first | omega | (unfold inI; omega)) ?_)
  rw [box3 (.lst 1 (xs.map datY)) (.int .i64 0) (.int .u64 0)]
  generalize [D.lst 1 (xs.map datY), D.int .i64 0, D.int .u64 0] = cs at hC ⊢
  refine CallK.curN 1 (none) (notes0_ok (by assumption) (by omega)) rfl rfl rfl rfl rfl rfl ?_; rintro c2 _ ⟨x, hx, rfl, hC⟩; try simp only [mkB, go_sem]
  rename List NoteD => l
  have hl : ndL l := hx
  clear hx
  repeat' (first | ((with_reducible first | (refine hK _ ?_; clear hK K) | refine stq fun K' hK' => ?_ | refine stc ?_); try simp only [go_sem]) | (with_reducible first | refine stp ?_ | (refine hK' _ ?_; clear hK' K') | refine kN kl23 fun K hK => ?_ | refine kO fun K hK => ?_) | (with_reducible refine pK_mk ?_ ?_ <;> (intro hc; (try simp only [go_sem]); (try simp at hc); try (exfalso; omega))) | with_reducible refine And.intro (by first | omega | (unfold inI; omega)) ?_)
  refine CallK.cur (none) (pick_ok (by assumption) (by omega)) rfl rfl rfl rfl rfl rfl ?_; rintro c2 _ ⟨x, hx, rfl, hC⟩; try simp only [mkB, go_sem]
  have ha := hx
  generalize x = a at ha ⊢
  repeat' (first | ((with_reducible first | (refine hK _ ?_; clear hK K) | refine stq fun K' hK' => ?_ | refine stc ?_); try simp only [go_sem]) | (with_reducible first | refine stp ?_ | (refine hK' _ ?_; clear hK' K') | refine kN kl23 fun K hK => ?_ | refine kO fun K hK => ?_) | (with_reducible refine pK_mk ?_ ?_ <;> (intro hc; (try simp only [go_sem]); (try simp at hc); try (exfalso; omega))) | with_reducible refine And.intro (by first | omega | (unfold inI; omega)) ?_)
  refine CallK.cur (none) (pick_ok (by assumption) (by omega)) rfl rfl rfl rfl rfl rfl ?_; rintro c2 _ ⟨x, hx, rfl, hC⟩; try simp only [mkB, go_sem]
  have hb := hx
  generalize x = b at hb ⊢
  have eb := Int.tdiv_eq_ediv_of_nonneg (a := b) (b := 15) (by omega)
  repeat' (first | ((with_reducible first | (refine hK _ ?_; clear hK K) | refine stq fun K' hK' => ?_ | refine stc ?_); try simp only [go_sem, eb]) | (with_reducible first | refine stp ?_ | (refine hK' _ ?_; clear hK' K') | refine kN kl23 fun K hK => ?_ | refine kO fun K hK => ?_) | (with_reducible refine pK_mk ?_ ?_ <;> (intro hc; (try simp only [go_sem, eb]); (try simp at hc); try (exfalso; omega))) | with_reducible refine And.intro (by first | omega | (unfold inI; omega)) ?_)
  all_goals first
    | (exfalso; omega)
    | (refine retQ_ret rfl rfl (by simp [rowsOf, lk]) ?_; exact ⟨l, _, ⟨hl, by omega, by omega⟩, rfl⟩)
theorem hSm (x : ByteArray) (h : x ∈ ([⟨#[]⟩, ⟨#[53, 32, 48, 32, 48]⟩, ⟨#[53, 32, 48, 32, 48, 10]⟩, ⟨#[48, 53, 32, 48, 32, 48, 10]⟩, ⟨#[53, 32, 51, 32, 48, 10]⟩, ⟨#[53, 32, 49, 32, 54, 10]⟩, ⟨#[10]⟩] : List ByteArray)) : x.size ≤ 1000010 := by
  have : ∀ y ∈ ([⟨#[]⟩, ⟨#[53, 32, 48, 32, 48]⟩, ⟨#[53, 32, 48, 32, 48, 10]⟩, ⟨#[48, 53, 32, 48, 32, 48, 10]⟩, ⟨#[53, 32, 51, 32, 48, 10]⟩, ⟨#[53, 32, 49, 32, 54, 10]⟩, ⟨#[10]⟩] : List ByteArray), y.size ≤ 1000010 := by decide
  exact this x h
theorem drawParse_ok (xs : List Int) (hx : ∀ x ∈ xs, 0 ≤ x ∧ x ≤ 255) (hn : xs.length ≤ 9223372036854775807) : FnOK Tryz.prog 24 [.d (.lst 1 (xs.map datY))] (fun rs => ∃ t : ByteArray, t.size ≤ 1000010 ∧ rs = [.d (.str t)]) := by
  have hC := cur0 hx hn
  refine fn_ok G_ok Tryz.func24 rfl rfl ?_; simp only [Tryz.ntmps24, List.length_cons, List.length_nil, Nat.reduceAdd, Nat.reduceSub, enm]
  repeat' (first | ((with_reducible first | (refine hK _ ?_; clear hK K) | refine stq fun K' hK' => ?_ | refine stc ?_); try simp only [go_sem]) | (with_reducible first | refine stp ?_ | (refine hK' _ ?_; clear hK' K') | refine kN kl24 fun K hK => ?_ | refine kO fun K hK => ?_) | (with_reducible refine pK_mk ?_ ?_ <;> (intro hc; (try simp only [go_sem]); (try simp at hc); try (exfalso; omega))) | with_reducible refine And.intro (by first | omega | (unfold inI; omega)) ?_)
  rw [box3 (.lst 1 (xs.map datY)) (.int .i64 0) (.int .u64 0)]
  generalize [D.lst 1 (xs.map datY), D.int .i64 0, D.int .u64 0] = cs at hC ⊢
  refine CallK.curN 1 (none) (notes0_ok (by assumption) (by omega)) rfl rfl rfl rfl rfl rfl ?_; rintro c2 _ ⟨x, hx, rfl, hC⟩; try simp only [mkB, go_sem]
  rename List NoteD => l
  have hl : ndL l := hx
  have hl1 := hl.1
  clear hx
  have hg := wdGood_ok l (by omega)
  by_cases hok : NotesOk l
  · rw [bP_true hok] at hg
    have ht := wdText_ok l (by omega) hok.fit
    have hts := text_len hok.fit
    rw [← ba_size] at hts
    generalize ba (textL l) = t at ht hts
    repeat' (first | ((with_reducible first | (refine hK _ ?_; clear hK K) | refine stq fun K' hK' => ?_ | refine stc ?_); try simp only [go_sem]) | (with_reducible first | refine stp ?_ | (refine hK' _ ?_; clear hK' K') | refine kN kl24 fun K hK => ?_ | refine kO fun K hK => ?_) | ((with_reducible apply CallK.eq); (· with_reducible first | exact hg | exact ht); (· simp [RV.flat, D.sc, datI]); try simp only [go_sem]) | ((first | refine CallK.cur none (onec_ok (by assumption) (by omega)) rfl rfl rfl rfl rfl rfl ?_ | refine CallK.cur none (spoilt_ok (by assumption) (by omega) (by omega) (by decide) (by decide)) rfl rfl rfl rfl rfl rfl ?_); rintro c2 _ ⟨x, hx, rfl, hC⟩; try simp only [mkB, go_sem]) | (with_reducible refine pK_mk ?_ ?_ <;> (intro hc; (try simp only [go_sem]); (try simp at hc); try (exfalso; omega))) | with_reducible refine And.intro (by first | omega | (unfold inI; omega)) ?_)
    · refine retQ_ret rfl rfl (by simp [rowsOf, lk]) ?_
      exact ⟨x, hx, rfl⟩
    · refine retQ_ret rfl rfl (by simp [rowsOf, lk]) ?_
      exact ⟨t, by omega, rfl⟩
  · rw [bP_false hok] at hg
    repeat' (first | ((with_reducible first | (refine hK _ ?_; clear hK K) | refine stq fun K' hK' => ?_ | refine stc ?_); try simp only [go_sem]) | (with_reducible first | refine stp ?_ | (refine hK' _ ?_; clear hK' K') | refine kN kl24 fun K hK => ?_ | refine kO fun K hK => ?_) | ((with_reducible apply CallK.eq); (· with_reducible first | exact hg); (· simp [RV.flat, D.sc, datI]); try simp only [go_sem]) | ((first | refine CallK.cur none (ofS_ok (l := [⟨#[]⟩, ⟨#[53, 32, 48, 32, 48]⟩, ⟨#[53, 32, 48, 32, 48, 10]⟩, ⟨#[48, 53, 32, 48, 32, 48, 10]⟩, ⟨#[53, 32, 51, 32, 48, 10]⟩, ⟨#[53, 32, 49, 32, 54, 10]⟩, ⟨#[10]⟩]) (by assumption) (by omega) (by decide) (by decide)) rfl rfl rfl rfl rfl rfl ?_); rintro c2 _ ⟨x, hx, rfl, hC⟩; try simp only [mkB, go_sem]) | (with_reducible refine pK_mk ?_ ?_ <;> (intro hc; (try simp only [go_sem]); (try simp at hc); try (exfalso; omega))) | with_reducible refine And.intro (by first | omega | (unfold inI; omega)) ?_)
    refine retQ_ret rfl rfl (by simp [rowsOf, lk]) ?_
    exact ⟨x, hSm x hx, rfl⟩
theorem resSk {l : List ResultD} (h : resL l) : ∀ x ∈ l.map ResultD.skater, skOk x := by
  intro x hx
  obtain ⟨r, hr, rfl⟩ := List.mem_map.1 hx
  have := h.2 r hr
  unfold resAny at this
  unfold skOk
  omega
theorem drawResAfter_ok (xs : List Int) (hx : ∀ x ∈ xs, 0 ≤ x ∧ x ≤ 255) (hn : xs.length ≤ 9223372036854775807) : FnOK Tryz.prog 18 [.d (.lst 1 (xs.map datY))] (fun rs => ∃ (r : List ResultD) (l : List NoteD), (resL r ∧ ndL l) ∧ rs = [.d (.lst 2 (r.map ResultD.dat)), .d (.lst 3 (l.map NoteD.dat))]) := by
  have hC := cur0 hx hn
  refine fn_ok G_ok Tryz.func18 rfl rfl ?_; simp only [Tryz.ntmps18, List.length_cons, List.length_nil, Nat.reduceAdd, Nat.reduceSub, enm]
  repeat' (first | ((with_reducible first | (refine hK _ ?_; clear hK K) | refine stq fun K' hK' => ?_ | refine stc ?_); try simp only [go_sem]) | (with_reducible first | refine stp ?_ | (refine hK' _ ?_; clear hK' K') | refine kN kl18 fun K hK => ?_ | refine kO fun K hK => ?_) | refine iB ?_ | (with_reducible refine pK_mk ?_ ?_ <;> (intro hc; (try simp only [go_sem]); (try simp at hc); try (exfalso; omega))) | with_reducible refine And.intro (by first | omega | (unfold inI; omega)) ?_)
  rw [box3 (.lst 1 (xs.map datY)) (.int .i64 0) (.int .u64 0)]
  generalize [D.lst 1 (xs.map datY), D.int .i64 0, D.int .u64 0] = cs at hC ⊢
  refine CallK.cur (none) (anyResults_ok (by assumption) (by omega)) rfl rfl rfl rfl rfl rfl ?_; rintro c2 _ ⟨x, hx, rfl, hC⟩; try simp only [mkB, go_sem]
  rename List ResultD => r
  have hr : resL r := hx
  have hr1 := hr.1
  clear hx
  repeat' (first | ((with_reducible first | (refine hK _ ?_; clear hK K) | refine stq fun K' hK' => ?_ | refine stc ?_); try simp only [go_sem]) | (with_reducible first | refine stp ?_ | (refine hK' _ ?_; clear hK' K') | refine kN kl18 fun K hK => ?_ | refine kO fun K hK => ?_) | refine iB ?_ | (with_reducible refine pK_mk ?_ ?_ <;> (intro hc; (try simp only [go_sem]); (try simp at hc); try (exfalso; omega))) | with_reducible refine And.intro (by first | omega | (unfold inI; omega)) ?_)
  refine pw_loop_over [2, 3, 6, 8, 16, 17, 18, 19, 20, 21, 22, 23, 24, 25] (fun k : Nat => [(16, .d (.int .i64 (k : Int))), (15, .d (.int .i64 (r.length : Int))), (14, .d (.lst 2 (r.map ResultD.dat))), (6, .row 7 k), (5, .d (.lst 2 (r.map ResultD.dat))), (4, .bptr 2 0), (0, .d (.lst 1 (xs.map datY)))]) (fun k : Nat => [(7, .row 3 1 (((r.take k).map ResultD.skater).map datI)), (2, .box 87 (c2.map .d))]) 8 (fun k : Nat => k ≤ r.length) (fun k : Nat => r.length - k) 0 (Nat.zero_le _) (fits_mk [] (by simp [renL_d, bdL_d, sg, over, wipe, wl, memN, ins, rm, lk, fitFr, fit1, ren, renL, bd, bdL, app, fitHp, hget, renB, bdB, List.take_zero, List.map_nil] <;> omega)) ?_
  rintro k hk; simp only [over, wipe, wl, memN, ins, rm, if_true, if_false, Nat.reduceEqDiff, Bool.false_eq_true, reduceCtorEq]
  by_cases hlt : k < r.length
  · have hx := List.getElem?_eq_getElem hlt
    have hm := hr.2 _ (List.getElem_mem hlt)
    generalize r[k] = e at hx hm
    have htl : (r.take k).length = k := by rw [List.length_take]; omega
    repeat' (first | ((with_reducible first | (refine hK _ ?_; clear hK K) | refine stq fun K' hK' => ?_ | refine stc ?_); try simp only [go_sem, hlt, htl, List.getElem?_map, hx, Option.map_some, ResultD.dat]) | (with_reducible first | refine stp ?_ | (refine hK' _ ?_; clear hK' K') | refine kN kl18 fun K hK => ?_ | refine kO fun K hK => ?_) | refine iB ?_ | (with_reducible refine pK_mk ?_ ?_ <;> (intro hc; (try simp only [go_sem, hlt, htl, List.getElem?_map, hx, Option.map_some, ResultD.dat]); (try simp at hc); try (exfalso; omega))) | with_reducible refine And.intro (by first | omega | (unfold inI; omega)) ?_)
    all_goals first
      | omega
      | skip
    have hs2 : List.take (k + 1) (List.map (datI ∘ ResultD.skater) r) = List.take k (List.map (datI ∘ ResultD.skater) r) ++ [[.int .i64 e.skater]] := take_snoc (by rw [List.getElem?_map, hx]; rfl)
    exact ⟨k + 1, by omega, by omega, (fits_mk [] (by simp [renL_d, bdL_d, sg, over, wipe, wl, memN, ins, rm, lk, fitFr, fit1, ren, renL, bd, bdL, app, fitHp, hget, renB, bdB, hs2] <;> omega))⟩
  · have e : k = r.length := by omega
    subst e
    repeat' (first | ((with_reducible first | (refine hK _ ?_; clear hK K) | refine stq fun K' hK' => ?_ | refine stc ?_); try simp only [go_sem, List.take_length]) | (with_reducible first | refine stp ?_ | (refine hK' _ ?_; clear hK' K') | refine kN kl18 fun K hK => ?_ | refine kO fun K hK => ?_) | refine iB ?_ | (with_reducible refine pK_mk ?_ ?_ <;> (intro hc; (try simp only [go_sem, List.take_length]); (try simp at hc); try (exfalso; omega))) | with_reducible refine And.intro (by first | omega | (unfold inI; omega)) ?_)
    have hlr : (r.map ResultD.skater).length ≤ 1048576 := by rw [List.length_map]; omega
    refine CallK.cur (none) (notesD_ok (sk := r.map ResultD.skater) (by assumption) (by omega) hlr (resSk hr)) rfl rfl rfl rfl rfl (by simp [frzL, frzD, AS.get, lk, hget]) ?_
    rintro c2 _ ⟨x, hx, rfl, hC⟩
    try simp only [mkB, go_sem]
    repeat' (first | ((with_reducible first | (refine hK _ ?_; clear hK K) | refine stq fun K' hK' => ?_ | refine stc ?_); try simp only [go_sem]) | (with_reducible first | refine stp ?_ | (refine hK' _ ?_; clear hK' K') | refine kN kl18 fun K hK => ?_ | refine kO fun K hK => ?_) | refine iB ?_ | (with_reducible refine pK_mk ?_ ?_ <;> (intro hc; (try simp only [go_sem]); (try simp at hc); try (exfalso; omega))) | with_reducible refine And.intro (by first | omega | (unfold inI; omega)) ?_)
    refine retQ_ret rfl rfl (by simp [rowsOf, lk]) ?_
    exact ⟨r, x, ⟨hr, hx⟩, rfl⟩
end Go.Proofs.YthocihmhljmgdaaGreatDoor
