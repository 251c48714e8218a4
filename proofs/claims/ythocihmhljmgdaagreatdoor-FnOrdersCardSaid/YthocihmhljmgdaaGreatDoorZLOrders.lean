/- For all bytes, what the law FnOrders draws and asks holds: it returns true: the statement's card, proved. No conditions of ours; the card ties what five tables of the library hold to the program's text. -/
import Derived.Test.YthocihmhljmgdaaGreatDoorRows
import Derived.Test.YthocihmhljmgdaaGreatDoorCards
import Derived.Test.YthocihmhljmgdaaGreatDoorTie
import Derived.Test.YthocihmhljmgdaaGreatDoorZFd
import Derived.Test.YthocihmhljmgdaaGreatDoorZOl
import Derived.Test.YthocihmhljmgdaaGreatDoorZCg
import Derived.ProofKit
import Derived.OpenShut
import Derived.LaidMore
import Derived.Lay
import Derived.SevenTiedAt
import Derived.Stop.Joined
import Derived.Lib.LaidTab
import Derived.Stop.LaidErr
set_option linter.unusedSimpArgs false
set_option linter.unusedVariables false
set_option maxHeartbeats 2000000
set_option maxRecDepth 100000
namespace Go.Proofs.YthocihmhljmgdaaGreatDoor.lawOrders
open Go.ChangeShapes Go.WideShapes Go.ChangeAt Go.RowKit Go.Deep Go.ChangeMaps

theorem glW {W : World} (h : laidMetH Tryz.prog Rows.fnOrdersRow.laid W) : GL W := by
  rw [MakeChecks.laidMetH_plain _ _ _ (by kernel_rfl)] at h
  obtain ⟨D, hD⟩ : ∃ D, Rows.fnOrdersRow.laid.tail.tail = ("internal/strconv.uint64pow10", Lib.tabData .u64 Lib.pow10Tab) :: D := ⟨_, rfl⟩
  have h2 : laidMet Tryz.prog (Rows.fnOrdersRow.laid.tail.tail) W := laidMet.tail (laidMet.tail h)
  rw [hD] at h2
  exact GL_tab (Lib.tabIs_of_head (t := 177) (e := 85) (n := 20) glP_glob (by kernel_rfl) (by kernel_rfl) (by kernel_rfl) (by kernel_rfl) (by kernel_rfl) h2)
theorem cut_at {P : Program} {x z : Code} {Q : Exit → AS → Prop} {s : AS} (base : AS) (h : ∀ K : AS → Prop, (∀ s', Fits s' base → K s') → PW P x (thenA K Q) s) (h2 : PW P z Q base) : PW P x (thenA (PW P z Q) Q) s := h _ fun _ hf => pw_fits hf h2
theorem fdata {P : Program} {f : FuncId} {args : List PV} {rs : List RV} (h : FnEq P f args rs) : FnEq P f args (rs.map RV.data) := FnOK.data (h.mono fun _ e => by rw [e])
theorem pIn_ok (xs : List Int) (n : Int) (hn : xs.length ≤ 1048576) : FnEq Tryz.prog 29 [.d (.lst 1 (xs.map datI)), .d (.int .i64 n)] [.d (.bool (bP (n ∈ xs)))] := by
  refine fn_ok G_ok Tryz.func29 rfl rfl ?_; simp only [Tryz.ntmps29, List.length_cons, List.length_nil, Nat.reduceAdd, Nat.reduceSub, enm]
  repeat' (first | ((with_reducible first | (refine hK _ ?_; clear hK K) | refine stq fun K' hK' => ?_ | refine stc ?_); try simp only [go_sem]) | (with_reducible first | refine stp ?_ | (refine hK' _ ?_; clear hK' K') | refine kN kl29 fun K hK => ?_ | refine kO fun K hK => ?_) | refine iB ?_ | (with_reducible refine pK_mk ?_ ?_ <;> (intro hc; (try simp only [go_sem]); (try simp at hc); try (exfalso; omega))) | with_reducible refine And.intro (by first | omega | (unfold inI; omega)) ?_)
  refine pw_loop_over [4, 6, 9, 10, 11, 12, 13, 14, 15, 16] (fun k : Nat => [(9, .d (.int .i64 (k : Int)))]) (fun k : Nat => []) 0 (fun k : Nat => k ≤ xs.length ∧ ∀ x ∈ xs.take k, x ≠ n) (fun k : Nat => xs.length - k) 0 ⟨Nat.zero_le _, by simp⟩ (fits_mk [] (by simp [renL_d, bdL_d, sg, over, wipe, wl, memN, ins, rm, lk, fitFr, fit1, ren, renL, bd, bdL, app, fitHp, hget, renB, bdB] <;> omega)) ?_
  rintro k ⟨hk, hJ⟩
  simp only [over, wipe, wl, memN, ins, rm, if_true, if_false, Nat.reduceEqDiff, Bool.false_eq_true, reduceCtorEq]
  by_cases hlt : k < xs.length
  · have hx := List.getElem?_eq_getElem hlt
    generalize xs[k] = x at hx
    by_cases he : x = n
    · subst he
      repeat' (first | ((with_reducible first | (refine hK _ ?_; clear hK K) | refine stq fun K' hK' => ?_ | refine stc ?_); try simp only [go_sem, hlt, List.getElem?_map, hx, Option.map_some, datI]) | (with_reducible first | refine stp ?_ | (refine hK' _ ?_; clear hK' K') | refine kN kl29 fun K hK => ?_ | refine kO fun K hK => ?_) | refine iB ?_ | (with_reducible refine pK_mk ?_ ?_ <;> (intro hc; (try simp only [go_sem, hlt, List.getElem?_map, hx, Option.map_some, datI]); (try simp at hc); try (exfalso; omega))) | with_reducible refine And.intro (by first | omega | (unfold inI; omega)) ?_)
      all_goals first
        | (exfalso; omega)
        | (refine retQ_ret rfl rfl (by simp [rowsOf, lk]) ?_; rw [bP_true (List.mem_of_getElem? hx)])
    · repeat' (first | ((with_reducible first | (refine hK _ ?_; clear hK K) | refine stq fun K' hK' => ?_ | refine stc ?_); try simp only [go_sem, hlt, he, List.getElem?_map, hx, Option.map_some, datI]) | (with_reducible first | refine stp ?_ | (refine hK' _ ?_; clear hK' K') | refine kN kl29 fun K hK => ?_ | refine kO fun K hK => ?_) | refine iB ?_ | (with_reducible refine pK_mk ?_ ?_ <;> (intro hc; (try simp only [go_sem, hlt, he, List.getElem?_map, hx, Option.map_some, datI]); (try simp at hc); try (exfalso; omega))) | with_reducible refine And.intro (by first | omega | (unfold inI; omega)) ?_)
      all_goals first
        | (exfalso; omega)
        | exact ⟨k + 1, ⟨by omega, fun y hy => by
            rw [take_snoc hx] at hy
            rcases List.mem_append.1 hy with h | h
            · exact hJ y h
            · rw [List.mem_singleton] at h; subst h; exact he⟩, by omega, (fits_mk [] (by simp [renL_d, bdL_d, sg, over, wipe, wl, memN, ins, rm, lk, fitFr, fit1, ren, renL, bd, bdL, app, fitHp, hget, renB, bdB] <;> omega))⟩
  · repeat' (first | ((with_reducible first | (refine hK _ ?_; clear hK K) | refine stq fun K' hK' => ?_ | refine stc ?_); try simp only [go_sem]) | (with_reducible first | refine stp ?_ | (refine hK' _ ?_; clear hK' K') | refine kN kl29 fun K hK => ?_ | refine kO fun K hK => ?_) | refine iB ?_ | (with_reducible refine pK_mk ?_ ?_ <;> (intro hc; (try simp only [go_sem]); (try simp at hc); try (exfalso; omega))) | with_reducible refine And.intro (by first | omega | (unfold inI; omega)) ?_)
    refine retQ_ret rfl rfl (by simp [rowsOf, lk]) ?_; rw [bP_false fun h => hJ n (by rwa [List.take_of_length_le (by omega)]) rfl]
/-- an order by places, as plain data -/
theorem by_dat (ks sk pl : List Int) (s : Int) (h1 : ks.length ≤ 16) (h2 : sk.length ≤ 400) (h3 : pl.length ≤ 401) : ∃ (O : List Int) (b : Bool), FnEq Tryz.prog 27 [.d (.lst 1 (ks.map datI)), .d (.lst 1 (sk.map datI)), .d (.lst 1 (pl.map datI)), .d (.int .i64 s)] [.d (.lst 1 (O.map datI)), .d (.bool b)] ∧
    FnEq Tryz.prog 28 [.d (.lst 1 (ks.map datI)), .d (.lst 1 (sk.map datI)), .d (.lst 1 (pl.map datI)), .d (.int .i64 s)] [.d (.lst 1 (O.map datI)), .d (.bool b)] ∧ O.length ≤ 400 ∧ (b = true → ByOk ks sk pl s ∧ O = obZ ks (fallT ks sk pl 99) s.toNat) := by
  have e1 := fdata (impl_OrderByPlaces_ok ks sk pl s (by omega) (by omega) (by omega))
  have e2 := fdata (spec_OrderByPlaces_ok ks sk pl s (by omega) (by omega) (by omega))
  simp only [List.map_cons, List.map_nil, RV.data] at e1 e2
  by_cases h : ByOk ks sk pl s
  · have e : ansOrderByPlaces ks sk pl s = some (obZ ks (fallT ks sk pl 99) s.toNat) := optP_pos h
    have hl := h.perm.length_eq
    rw [e] at e1 e2
    simp only [Option.getD_some, Option.isSome_some] at e1 e2
    generalize obZ ks (fallT ks sk pl 99) s.toNat = O at *
    exact ⟨O, true, e1, e2, by omega, fun _ => ⟨h, rfl⟩⟩
  · have e : ansOrderByPlaces ks sk pl s = none := optP_neg h
    rw [e] at e1 e2
    exact ⟨_, _, e1, e2, by simp, fun h => by cases h⟩
/-- a late entrant's order, as plain data -/
theorem late_dat (l : List EntrantD) (o : List Int) (x : EntrantD) (h1 : l.length ≤ 41) (h2 : o.length ≤ 400) : ∃ (Y : List Int) (b : Bool), FnEq Tryz.prog 31 [.d (.lst 2 (l.map EntrantD.dat)), .d (.lst 1 (o.map datI)), .agg [.d (.int .i64 x.skater), .d (.int .i64 x.rank)]] [.d (.lst 1 (Y.map datI)), .d (.bool b)] ∧
    FnEq Tryz.prog 32 [.d (.lst 2 (l.map EntrantD.dat)), .d (.lst 1 (o.map datI)), .agg [.d (.int .i64 x.skater), .d (.int .i64 x.rank)]] [.d (.lst 1 (Y.map datI)), .d (.bool b)] ∧ Y.length ≤ 500 ∧ (b = true → Y = x.skater :: o) := by
  have e1 := fdata (impl_Late_ok l o x (by omega) (by omega))
  have e2 := fdata (spec_Late_ok l o x (by omega) (by omega))
  simp only [List.map_cons, List.map_nil, RV.data] at e1 e2
  by_cases h : LateOk l o x
  · have e : ansLate l o x = some (x.skater :: o) := optP_pos h
    rw [e] at e1 e2
    simp only [Option.getD_some, Option.isSome_some] at e1 e2
    exact ⟨x.skater :: o, true, e1, e2, by simp; omega, fun _ => rfl⟩
  · have e : ansLate l o x = none := optP_neg h
    rw [e] at e1 e2
    exact ⟨_, _, e1, e2, by simp, fun h => by cases h⟩
/-- an order's text, as plain data, and what is read back -/
theorem otext_dat (o : List Int) (h : o.length ≤ 400) : ∃ (s : ByteArray) (b : Bool), FnEq Tryz.prog 34 [.d (.lst 1 (o.map datI))] [.d (.str s), .d (.bool b)] ∧ FnEq Tryz.prog 35 [.d (.lst 1 (o.map datI))] [.d (.str s), .d (.bool b)] ∧
    (b = true → FnEq Tryz.prog 36 [.d (.str s)] [.d (.lst 1 (o.map datI)), .d (.bool true)]) := by
  have e1 := impl_OrderText_ok o (by omega)
  have e2 := spec_OrderText_ok o (by omega)
  by_cases hO : OrdOk o
  · rw [optP_pos hO] at e1 e2
    refine ⟨_, _, e1, e2, fun _ => ?_⟩
    have hl := textO_len4 (o := o) (fun x hx => by have := ordRng hO x hx; omega) o.length (Nat.le_refl _)
    rw [List.take_length, ← ba_size] at hl
    have e3 := fdata (impl_ParseOrder_ok (ba (textO o)) (by omega))
    rw [bl_ba, ansO_some hO rfl] at e3
    exact e3
  · rw [optP_neg hO] at e1 e2
    exact ⟨_, _, e1, e2, fun h => by cases h⟩
theorem oparse_dat (t : ByteArray) (h : t.size ≤ 1000010) : ∃ (o : List Int) (b : Bool), FnEq Tryz.prog 36 [.d (.str t)] [.d (.lst 1 (o.map datI)), .d (.bool b)] ∧ FnEq Tryz.prog 38 [.d (.str t)] [.d (.lst 1 (o.map datI)), .d (.bool b)] ∧ o.length ≤ 40 := by
  have e1 := fdata (impl_ParseOrder_ok t (by omega))
  have e2 := fdata (spec_ParseOrder_ok t (by omega))
  exact ⟨_, _, e1, e2, ansO_len _⟩
theorem law_FnOrders_ok (xs0 : List Int) (m0 : xs0.length ≤ maxLen ∧ ∀ x ∈ xs0, 0 ≤ x ∧ x ≤ 255) (xs1 : List Int) (m1 : xs1.length ≤ maxLen ∧ ∀ x ∈ xs1, 0 ≤ x ∧ x ≤ 255) : FnEq Tryz.prog 4 [.d (.lst 1 (xs0.map datY)), .d (.lst 1 (xs1.map datY))] [.d (.bool true)] := by
  have hT : bP True = true := bP_true trivial
  have hm0 := m0.1
  have hm1 := m1.1
  have hbig := big_ok xs0 xs1 hm0 hm1
  unfold maxLen at hm0 hm1
  refine fn_ok G_ok Tryz.func4 rfl rfl ?_; simp only [Tryz.ntmps4, List.length_cons, List.length_nil, Nat.reduceAdd, Nat.reduceSub, enm]
  by_cases hb : 1048576 < xs0.length + xs1.length
  · rw [decide_eq_true hb] at hbig
    repeat' (first | ((with_reducible first | (refine hK _ ?_; clear hK K) | refine stq fun K' hK' => ?_ | refine stc ?_); try simp only [go_sem]) | (with_reducible first | refine stp ?_ | (refine hK' _ ?_; clear hK' K') | refine kN kl4 fun K hK => ?_ | refine kO fun K hK => ?_) | (refine xS rfl fun K' hK' => ?_; simp only [go_sem]) | (refine qS rfl fun K' hK' => ?_; simp only [go_sem]) | ((with_reducible first | apply CallK.eq | apply CallQ.eqs); (· with_reducible first | exact hbig); (· first | exact rfl | (simp [RV.flat, D.sc, datI]; done)); try simp only [go_sem]) | refine iB ?_ | (with_reducible refine pw_seq_drawK kl4 G_ok mixed (by kernel_rfl) (fun K hK => ?_)) | (with_reducible refine pw_draw G_ok mixed (by kernel_rfl) ?_) | (with_reducible refine pK_mk ?_ ?_ <;> (intro hc; (try simp only [go_sem]); (try simp at hc); try (exfalso; omega))) | with_reducible refine And.intro (by first | omega | (unfold inI; omega)) ?_)
    all_goals first
      | (exfalso; omega)
      | (refine retQ_ret rfl rfl (by simp [rowsOf, lk]) ?_; rfl)
  · rw [decide_eq_false hb] at hbig
    repeat' (first | ((with_reducible first | (refine hK _ ?_; clear hK K) | refine stq fun K' hK' => ?_ | refine stc ?_); try simp only [go_sem]) | (with_reducible first | refine stp ?_ | (refine hK' _ ?_; clear hK' K') | refine kN kl4 fun K hK => ?_ | refine kO fun K hK => ?_) | (refine xS rfl fun K' hK' => ?_; simp only [go_sem]) | (refine qS rfl fun K' hK' => ?_; simp only [go_sem]) | ((with_reducible first | apply CallK.eq | apply CallQ.eqs); (· with_reducible first | exact hbig); (· first | exact rfl | (simp [RV.flat, D.sc, datI]; done)); try simp only [go_sem]) | refine iB ?_ | (with_reducible refine pw_seq_drawK kl4 G_ok mixed (by kernel_rfl) (fun K hK => ?_)) | (with_reducible refine pw_draw G_ok mixed (by kernel_rfl) ?_) | (with_reducible refine pK_mk ?_ ?_ <;> (intro hc; (try simp only [go_sem]); (try simp at hc); try (exfalso; omega))) | with_reducible refine And.intro (by first | omega | (unfold inI; omega)) ?_)
    all_goals first
      | (exfalso; omega)
      | skip
    refine CallK.of (drawPlacesO_ok xs0 m0.2 (by omega)) ?_; rintro _ ⟨ks, sk, pl, s, ⟨h1, h2, h3⟩, rfl⟩; refine ⟨(fun h => by cases h), ?_⟩; try simp only [go_sem]
    obtain ⟨O, b, n1, n2, n3, n4⟩ := by_dat ks sk pl s h1 h2 h3
    have q1 := sameInts_ok O O (by omega) (by omega)
    rw [bP_true rfl] at q1
    repeat' (first | with_reducible refine stop_seq (id := 8) ?_ | with_reducible refine stop_one (id := 8) ?_ | ((with_reducible first | (refine hK _ ?_; clear hK K) | refine stq fun K' hK' => ?_ | refine stc ?_); try simp only [go_sem, bne_self_eq_false]) | (with_reducible first | refine stp ?_ | (refine hK' _ ?_; clear hK' K') | refine kN kl4 fun K hK => ?_ | refine kO fun K hK => ?_) | (refine xS rfl fun K' hK' => ?_; simp only [go_sem, bne_self_eq_false]) | (refine qS rfl fun K' hK' => ?_; simp only [go_sem, bne_self_eq_false]) | ((with_reducible first | apply CallK.eq | apply CallQ.eqs); (· with_reducible first | exact n1 | exact n2 | exact q1); (· first | exact rfl | (simp [RV.flat, D.sc, datI]; done)); try simp only [go_sem, bne_self_eq_false]) | refine iB ?_ | (with_reducible refine pw_seq_drawK kl4 G_ok mixed (by kernel_rfl) (fun K hK => ?_)) | (with_reducible refine pw_draw G_ok mixed (by kernel_rfl) ?_) | (with_reducible refine pK_mk ?_ ?_ <;> (intro hc; (try simp only [go_sem, bne_self_eq_false]); (try simp at hc); try (exfalso; omega))) | with_reducible refine And.intro (by first | omega | (unfold inI; omega)) ?_)
    refine cut_at ⟨⟨240, [(1, .d (.lst 1 (xs1.map datY)))]⟩, [], 0⟩ ?_ ?_
    · intro K hK
      cases b
      case' false =>
        repeat' (first | ((with_reducible first | (refine hK _ ?_; clear hK K) | refine stq fun K' hK' => ?_ | refine stc ?_); try simp only [go_sem]) | (with_reducible first | refine stp ?_ | (refine hK' _ ?_; clear hK' K') | refine kN kl4 fun K hK => ?_ | refine kO fun K hK => ?_) | (refine xS rfl fun K' hK' => ?_; simp only [go_sem]) | (refine qS rfl fun K' hK' => ?_; simp only [go_sem]) | refine iB ?_ | (with_reducible refine pw_seq_drawK kl4 G_ok mixed (by kernel_rfl) (fun K hK => ?_)) | (with_reducible refine pw_draw G_ok mixed (by kernel_rfl) ?_) | (with_reducible refine pK_mk ?_ ?_ <;> (intro hc; (try simp only [go_sem]); (try simp at hc); try (exfalso; omega))) | with_reducible refine And.intro (by first | omega | (unfold inI; omega)) ?_)
      case' true =>
        obtain ⟨hB, hO⟩ := n4 rfl
        have hp := hB.perm
        rw [← hO] at hp
        have hl := hp.length_eq
        obtain ⟨hs1, hs8⟩ := hB.2.2.2.2
        have hpl := hB.2.2.1
        have hedge : s.toNat < sk.length → ∀ {i k : Nat} {a b p q : Int}, sk[i]? = some a → pl[i]? = some p → sk[k]? = some b → pl[k]? = some q → a ∈ O.drop (sk.length - s.toNat) → b ∈ O.take (sk.length - s.toNat) → p ≤ q := fun he i k a b p q ha hp hb hq h1 h2 => hB.edge he ha hp hb hq (by rwa [hO] at h1) (by rwa [hO] at h2)
        clear n4 hO
        repeat' (first | ((with_reducible first | (refine hK _ ?_; clear hK K) | refine stq fun K' hK' => ?_ | refine stc ?_); try simp only [go_sem, hl, bne_self_eq_false]) | (with_reducible first | refine stp ?_ | (refine hK' _ ?_; clear hK' K') | refine kN kl4 fun K hK => ?_ | refine kO fun K hK => ?_) | (refine xS rfl fun K' hK' => ?_; simp only [go_sem, hl, bne_self_eq_false]) | (refine qS rfl fun K' hK' => ?_; simp only [go_sem, hl, bne_self_eq_false]) | refine iB ?_ | (with_reducible refine pw_seq_drawK kl4 G_ok mixed (by kernel_rfl) (fun K hK => ?_)) | (with_reducible refine pw_draw G_ok mixed (by kernel_rfl) ?_) | (with_reducible refine pK_mk ?_ ?_ <;> (intro hc; (try simp only [go_sem, hl, bne_self_eq_false]); (try simp at hc); try (exfalso; omega))) | with_reducible refine And.intro (by first | omega | (unfold inI; omega)) ?_)
        all_goals first
          | (exfalso; omega)
          | skip
        refine pw_loop_over [4, 14, 82, 83, 84, 85, 86, 87, 88, 89, 90] (fun k : Nat => [(82, .d (.int .i64 (k : Int)))]) (fun k : Nat => []) 0 (fun k : Nat => k ≤ sk.length) (fun k : Nat => sk.length - k) 0 (Nat.zero_le _) (fits_mk [] (by simp [renL_d, bdL_d, sg, over, wipe, wl, memN, ins, rm, lk, fitFr, fit1, ren, renL, bd, bdL, app, fitHp, hget, renB, bdB] <;> omega)) ?_
        intro k hk
        simp only [over, wipe, wl, memN, ins, rm, if_true, if_false, Nat.reduceEqDiff, Bool.false_eq_true, reduceCtorEq]
        by_cases hlt : k < sk.length
        · have hx := List.getElem?_eq_getElem hlt
          have hm := hp.mem_iff.2 (List.getElem_mem hlt)
          generalize sk[k] = x at hx hm
          have q := pIn_ok O x (by omega)
          rw [bP_true hm] at q
          repeat' (first | ((with_reducible first | (refine hK _ ?_; clear hK K) | refine stq fun K' hK' => ?_ | refine stc ?_); try simp only [go_sem, List.getElem?_map, hx, Option.map_some, datI]) | (with_reducible first | refine stp ?_ | (refine hK' _ ?_; clear hK' K') | refine kN kl4 fun K hK => ?_ | refine kO fun K hK => ?_) | (refine xS rfl fun K' hK' => ?_; simp only [go_sem, List.getElem?_map, hx, Option.map_some, datI]) | (refine qS rfl fun K' hK' => ?_; simp only [go_sem, List.getElem?_map, hx, Option.map_some, datI]) | ((with_reducible first | apply CallK.eq | apply CallQ.eqs); (· with_reducible first | exact q); (· first | exact rfl | (simp [RV.flat, D.sc, datI]; done)); try simp only [go_sem, List.getElem?_map, hx, Option.map_some, datI]) | refine iB ?_ | (with_reducible refine pw_seq_drawK kl4 G_ok mixed (by kernel_rfl) (fun K hK => ?_)) | (with_reducible refine pw_draw G_ok mixed (by kernel_rfl) ?_) | (with_reducible refine pK_mk ?_ ?_ <;> (intro hc; (try simp only [go_sem, List.getElem?_map, hx, Option.map_some, datI]); (try simp at hc); try (exfalso; omega))) | with_reducible refine And.intro (by first | omega | (unfold inI; omega)) ?_)
          all_goals first
            | (exfalso; omega)
            | exact ⟨k + 1, by omega, by omega, (fits_mk [] (by simp [renL_d, bdL_d, sg, over, wipe, wl, memN, ins, rm, lk, fitFr, fit1, ren, renL, bd, bdL, app, fitHp, hget, renB, bdB] <;> omega))⟩
        · repeat' (first | ((with_reducible first | (refine hK _ ?_; clear hK K) | refine stq fun K' hK' => ?_ | refine stc ?_); try simp only [go_sem, hl]) | (with_reducible first | refine stp ?_ | (refine hK' _ ?_; clear hK' K') | refine kN kl4 fun K hK => ?_ | refine kO fun K hK => ?_) | (refine xS rfl fun K' hK' => ?_; simp only [go_sem, hl]) | (refine qS rfl fun K' hK' => ?_; simp only [go_sem, hl]) | refine iB ?_ | (with_reducible refine pw_seq_drawK kl4 G_ok mixed (by kernel_rfl) (fun K hK => ?_)) | (with_reducible refine pw_draw G_ok mixed (by kernel_rfl) ?_) | (with_reducible refine pK_mk ?_ ?_ <;> (intro hc; (try simp only [go_sem, hl]); (try simp at hc); try (exfalso; omega))) | with_reducible refine And.intro (by first | omega | (unfold inI; omega)) ?_)
          refine pw_loop_over [4, 16, 17, 18, 19, 97, 98, 99, 100, 101, 102, 103, 104, 105, 106, 107, 108, 109, 110, 111, 112, 113, 114, 115, 116, 117, 118, 119, 120, 121, 122, 123, 124, 125, 126, 127, 128, 129, 130, 131, 132, 133, 134, 135, 136, 137] (fun k : Nat => [(97, .d (.int .i64 (k : Int)))]) (fun k : Nat => []) 0 (fun k : Nat => k ≤ sk.length) (fun k : Nat => sk.length - k) 0 (Nat.zero_le _) (fits_mk [] (by simp [renL_d, bdL_d, sg, over, wipe, wl, memN, ins, rm, lk, fitFr, fit1, ren, renL, bd, bdL, app, fitHp, hget, renB, bdB] <;> omega)) ?_
          intro i hi
          simp only [over, wipe, wl, memN, ins, rm, if_true, if_false, Nat.reduceEqDiff, Bool.false_eq_true, reduceCtorEq]
          by_cases hlt1 : i < sk.length
          · have ha := List.getElem?_eq_getElem hlt1
            have hpa := List.getElem?_eq_getElem (show i < pl.length by omega)
            generalize sk[i] = a at ha
            generalize pl[i] = pa at hpa
            repeat' (first | ((with_reducible first | (refine hK _ ?_; clear hK K) | refine stq fun K' hK' => ?_ | refine stc ?_); try simp only [go_sem, List.getElem?_map, ha, Option.map_some, datI]) | (with_reducible first | refine stp ?_ | (refine hK' _ ?_; clear hK' K') | refine kN kl4 fun K hK => ?_ | refine kO fun K hK => ?_) | (refine xS rfl fun K' hK' => ?_; simp only [go_sem, List.getElem?_map, ha, Option.map_some, datI]) | (refine qS rfl fun K' hK' => ?_; simp only [go_sem, List.getElem?_map, ha, Option.map_some, datI]) | refine iB ?_ | (with_reducible refine pw_seq_drawK kl4 G_ok mixed (by kernel_rfl) (fun K hK => ?_)) | (with_reducible refine pw_draw G_ok mixed (by kernel_rfl) ?_) | (with_reducible refine pK_mk ?_ ?_ <;> (intro hc; (try simp only [go_sem, List.getElem?_map, ha, Option.map_some, datI]); (try simp at hc); try (exfalso; omega))) | with_reducible refine And.intro (by first | omega | (unfold inI; omega)) ?_)
            all_goals first
              | (exfalso; omega)
              | skip
            refine pw_loop_over [4, 18, 19, 104, 105, 106, 107, 108, 109, 110, 111, 112, 113, 114, 115, 116, 117, 118, 119, 120, 121, 122, 123, 124, 125, 126, 127, 128, 129, 130, 131, 132, 133, 134, 135, 136] (fun k : Nat => [(104, .d (.int .i64 (k : Int)))]) (fun k : Nat => []) 0 (fun k : Nat => k ≤ sk.length) (fun k : Nat => sk.length - k) 0 (Nat.zero_le _) (fits_mk [] (by simp [renL_d, bdL_d, sg, over, wipe, wl, memN, ins, rm, lk, fitFr, fit1, ren, renL, bd, bdL, app, fitHp, hget, renB, bdB] <;> omega)) ?_
            intro j hj
            simp only [over, wipe, wl, memN, ins, rm, if_true, if_false, Nat.reduceEqDiff, Bool.false_eq_true, reduceCtorEq]
            by_cases hlt2 : j < sk.length
            · have hb := List.getElem?_eq_getElem hlt2
              have hpb := List.getElem?_eq_getElem (show j < pl.length by omega)
              generalize sk[j] = b at hb
              generalize pl[j] = pb at hpb
              by_cases hgt : pb < pa
              · by_cases hed : (0 : Int) < (sk.length : Int) - s
                · have hsn : s.toNat < sk.length := by omega
                  have hei : (sk.length : Int) - s = ((sk.length - s.toNat : Nat) : Int) := by omega
                  have hgo := fun h1 h2 => hedge hsn ha hpa hb hpb h1 h2
                  have hel : sk.length - s.toNat ≤ sk.length := by omega
                  rw [hei] at hed
                  generalize sk.length - s.toNat = e at *
                  have w1 := pIn_ok (O.drop e) a (by rw [List.length_drop]; omega)
                  have w2 := pIn_ok (O.take e) b (by rw [List.length_take]; omega)
                  have htk : List.take e (List.map datI O) = (O.take e).map datI := (List.map_take).symm
                  have hdr : List.drop e (List.take sk.length (List.map datI O)) = (O.drop e).map datI := by rw [List.map_drop, List.take_of_length_le (by simp; omega)]
                  by_cases ha2 : a ∈ O.drop e
                  · by_cases hb2 : b ∈ O.take e
                    · exact absurd (hgo ha2 hb2) (by omega)
                    · rw [bP_true ha2] at w1
                      rw [bP_false hb2] at w2
                      repeat' (first | ((with_reducible first | (refine hK _ ?_; clear hK K) | refine stq fun K' hK' => ?_ | refine stc ?_); try simp only [go_sem, List.getElem?_map, ha, hb, hpa, hpb, Option.map_some, datI, hgt, hei, hed, htk, hdr, hl, List.drop_zero]) | (with_reducible first | refine stp ?_ | (refine hK' _ ?_; clear hK' K') | refine kN kl4 fun K hK => ?_ | refine kO fun K hK => ?_) | (refine xS rfl fun K' hK' => ?_; simp only [go_sem, List.getElem?_map, ha, hb, hpa, hpb, Option.map_some, datI, hgt, hei, hed, htk, hdr, hl, List.drop_zero]) | (refine qS rfl fun K' hK' => ?_; simp only [go_sem, List.getElem?_map, ha, hb, hpa, hpb, Option.map_some, datI, hgt, hei, hed, htk, hdr, hl, List.drop_zero]) | ((with_reducible first | apply CallK.eq | apply CallQ.eqs); (· with_reducible first | exact w1 | exact w2); (· first | exact rfl | (simp [RV.flat, D.sc, datI]; done)); try simp only [go_sem, List.getElem?_map, ha, hb, hpa, hpb, Option.map_some, datI, hgt, hei, hed, htk, hdr, hl, List.drop_zero]) | refine iB ?_ | (with_reducible refine pw_seq_drawK kl4 G_ok mixed (by kernel_rfl) (fun K hK => ?_)) | (with_reducible refine pw_draw G_ok mixed (by kernel_rfl) ?_) | (with_reducible refine pK_mk ?_ ?_ <;> (intro hc; (try simp only [go_sem, List.getElem?_map, ha, hb, hpa, hpb, Option.map_some, datI, hgt, hei, hed, htk, hdr, hl, List.drop_zero]); (try simp at hc); try (exfalso; omega))) | with_reducible refine And.intro (by first | omega | (unfold inI; omega)) ?_)
                      all_goals first
                        | (exfalso; omega)
                        | exact ⟨j + 1, by omega, by omega, (fits_mk [] (by simp [renL_d, bdL_d, sg, over, wipe, wl, memN, ins, rm, lk, fitFr, fit1, ren, renL, bd, bdL, app, fitHp, hget, renB, bdB, hei] <;> omega))⟩
                  · rw [bP_false ha2] at w1
                    repeat' (first | ((with_reducible first | (refine hK _ ?_; clear hK K) | refine stq fun K' hK' => ?_ | refine stc ?_); try simp only [go_sem, List.getElem?_map, ha, hb, hpa, hpb, Option.map_some, datI, hgt, hei, hed, htk, hdr, hl, List.drop_zero]) | (with_reducible first | refine stp ?_ | (refine hK' _ ?_; clear hK' K') | refine kN kl4 fun K hK => ?_ | refine kO fun K hK => ?_) | (refine xS rfl fun K' hK' => ?_; simp only [go_sem, List.getElem?_map, ha, hb, hpa, hpb, Option.map_some, datI, hgt, hei, hed, htk, hdr, hl, List.drop_zero]) | (refine qS rfl fun K' hK' => ?_; simp only [go_sem, List.getElem?_map, ha, hb, hpa, hpb, Option.map_some, datI, hgt, hei, hed, htk, hdr, hl, List.drop_zero]) | ((with_reducible first | apply CallK.eq | apply CallQ.eqs); (· with_reducible first | exact w1 | exact w2); (· first | exact rfl | (simp [RV.flat, D.sc, datI]; done)); try simp only [go_sem, List.getElem?_map, ha, hb, hpa, hpb, Option.map_some, datI, hgt, hei, hed, htk, hdr, hl, List.drop_zero]) | refine iB ?_ | (with_reducible refine pw_seq_drawK kl4 G_ok mixed (by kernel_rfl) (fun K hK => ?_)) | (with_reducible refine pw_draw G_ok mixed (by kernel_rfl) ?_) | (with_reducible refine pK_mk ?_ ?_ <;> (intro hc; (try simp only [go_sem, List.getElem?_map, ha, hb, hpa, hpb, Option.map_some, datI, hgt, hei, hed, htk, hdr, hl, List.drop_zero]); (try simp at hc); try (exfalso; omega))) | with_reducible refine And.intro (by first | omega | (unfold inI; omega)) ?_)
                    all_goals first
                      | (exfalso; omega)
                      | exact ⟨j + 1, by omega, by omega, (fits_mk [] (by simp [renL_d, bdL_d, sg, over, wipe, wl, memN, ins, rm, lk, fitFr, fit1, ren, renL, bd, bdL, app, fitHp, hget, renB, bdB, hei] <;> omega))⟩
                · repeat' (first | ((with_reducible first | (refine hK _ ?_; clear hK K) | refine stq fun K' hK' => ?_ | refine stc ?_); try simp only [go_sem, List.getElem?_map, ha, hb, hpa, hpb, Option.map_some, datI, hgt, hed]) | (with_reducible first | refine stp ?_ | (refine hK' _ ?_; clear hK' K') | refine kN kl4 fun K hK => ?_ | refine kO fun K hK => ?_) | (refine xS rfl fun K' hK' => ?_; simp only [go_sem, List.getElem?_map, ha, hb, hpa, hpb, Option.map_some, datI, hgt, hed]) | (refine qS rfl fun K' hK' => ?_; simp only [go_sem, List.getElem?_map, ha, hb, hpa, hpb, Option.map_some, datI, hgt, hed]) | refine iB ?_ | (with_reducible refine pw_seq_drawK kl4 G_ok mixed (by kernel_rfl) (fun K hK => ?_)) | (with_reducible refine pw_draw G_ok mixed (by kernel_rfl) ?_) | (with_reducible refine pK_mk ?_ ?_ <;> (intro hc; (try simp only [go_sem, List.getElem?_map, ha, hb, hpa, hpb, Option.map_some, datI, hgt, hed]); (try simp at hc); try (exfalso; omega))) | with_reducible refine And.intro (by first | omega | (unfold inI; omega)) ?_)
                  all_goals first
                    | (exfalso; omega)
                    | exact ⟨j + 1, by omega, by omega, (fits_mk [] (by simp [renL_d, bdL_d, sg, over, wipe, wl, memN, ins, rm, lk, fitFr, fit1, ren, renL, bd, bdL, app, fitHp, hget, renB, bdB] <;> omega))⟩
              · repeat' (first | ((with_reducible first | (refine hK _ ?_; clear hK K) | refine stq fun K' hK' => ?_ | refine stc ?_); try simp only [go_sem, List.getElem?_map, ha, hb, hpa, hpb, Option.map_some, datI, hgt]) | (with_reducible first | refine stp ?_ | (refine hK' _ ?_; clear hK' K') | refine kN kl4 fun K hK => ?_ | refine kO fun K hK => ?_) | (refine xS rfl fun K' hK' => ?_; simp only [go_sem, List.getElem?_map, ha, hb, hpa, hpb, Option.map_some, datI, hgt]) | (refine qS rfl fun K' hK' => ?_; simp only [go_sem, List.getElem?_map, ha, hb, hpa, hpb, Option.map_some, datI, hgt]) | refine iB ?_ | (with_reducible refine pw_seq_drawK kl4 G_ok mixed (by kernel_rfl) (fun K hK => ?_)) | (with_reducible refine pw_draw G_ok mixed (by kernel_rfl) ?_) | (with_reducible refine pK_mk ?_ ?_ <;> (intro hc; (try simp only [go_sem, List.getElem?_map, ha, hb, hpa, hpb, Option.map_some, datI, hgt]); (try simp at hc); try (exfalso; omega))) | with_reducible refine And.intro (by first | omega | (unfold inI; omega)) ?_)
                all_goals first
                  | (exfalso; omega)
                  | exact ⟨j + 1, by omega, by omega, (fits_mk [] (by simp [renL_d, bdL_d, sg, over, wipe, wl, memN, ins, rm, lk, fitFr, fit1, ren, renL, bd, bdL, app, fitHp, hget, renB, bdB] <;> omega))⟩
            · repeat' (first | ((with_reducible first | (refine hK _ ?_; clear hK K) | refine stq fun K' hK' => ?_ | refine stc ?_); try simp only [go_sem]) | (with_reducible first | refine stp ?_ | (refine hK' _ ?_; clear hK' K') | refine kN kl4 fun K hK => ?_ | refine kO fun K hK => ?_) | (refine xS rfl fun K' hK' => ?_; simp only [go_sem]) | (refine qS rfl fun K' hK' => ?_; simp only [go_sem]) | refine iB ?_ | (with_reducible refine pw_seq_drawK kl4 G_ok mixed (by kernel_rfl) (fun K hK => ?_)) | (with_reducible refine pw_draw G_ok mixed (by kernel_rfl) ?_) | (with_reducible refine pK_mk ?_ ?_ <;> (intro hc; (try simp only [go_sem]); (try simp at hc); try (exfalso; omega))) | with_reducible refine And.intro (by first | omega | (unfold inI; omega)) ?_)
              exact ⟨i + 1, by omega, by omega, (fits_mk [] (by simp [renL_d, bdL_d, sg, over, wipe, wl, memN, ins, rm, lk, fitFr, fit1, ren, renL, bd, bdL, app, fitHp, hget, renB, bdB] <;> omega))⟩
          · repeat' (first | ((with_reducible first | (refine hK _ ?_; clear hK K) | refine stq fun K' hK' => ?_ | refine stc ?_); try simp only [go_sem]) | (with_reducible first | refine stp ?_ | (refine hK' _ ?_; clear hK' K') | refine kN kl4 fun K hK => ?_ | refine kO fun K hK => ?_) | (refine xS rfl fun K' hK' => ?_; simp only [go_sem]) | (refine qS rfl fun K' hK' => ?_; simp only [go_sem]) | refine iB ?_ | (with_reducible refine pw_seq_drawK kl4 G_ok mixed (by kernel_rfl) (fun K hK => ?_)) | (with_reducible refine pw_draw G_ok mixed (by kernel_rfl) ?_) | (with_reducible refine pK_mk ?_ ?_ <;> (intro hc; (try simp only [go_sem]); (try simp at hc); try (exfalso; omega))) | with_reducible refine And.intro (by first | omega | (unfold inI; omega)) ?_)
            exact (fits_mk [] (by simp [renL_d, bdL_d, sg, over, wipe, wl, memN, ins, rm, lk, fitFr, fit1, ren, renL, bd, bdL, app, fitHp, hget, renB, bdB] <;> omega))
      all_goals exact (fits_mk [] (by simp [renL_d, bdL_d, sg, over, wipe, wl, memN, ins, rm, lk, fitFr, fit1, ren, renL, bd, bdL, app, fitHp, hget, renB, bdB] <;> omega))
    clear n1 n2 n3 n4 q1
    repeat' (first | ((with_reducible first | (refine hK _ ?_; clear hK K) | refine stq fun K' hK' => ?_ | refine stc ?_); try simp only [go_sem]) | (with_reducible first | refine stp ?_ | (refine hK' _ ?_; clear hK' K') | refine kN kl4 fun K hK => ?_ | refine kO fun K hK => ?_) | (refine xS rfl fun K' hK' => ?_; simp only [go_sem]) | (refine qS rfl fun K' hK' => ?_; simp only [go_sem]) | refine iB ?_ | (with_reducible refine pw_seq_drawK kl4 G_ok mixed (by kernel_rfl) (fun K hK => ?_)) | (with_reducible refine pw_draw G_ok mixed (by kernel_rfl) ?_) | (with_reducible refine pK_mk ?_ ?_ <;> (intro hc; (try simp only [go_sem]); (try simp at hc); try (exfalso; omega))) | with_reducible refine And.intro (by first | omega | (unfold inI; omega)) ?_)
    refine CallK.of (drawLate_ok xs1 m1.2 (by omega)) ?_; rintro _ ⟨l, o, e, ⟨h4, h5⟩, rfl⟩; refine ⟨(fun h => by cases h), ?_⟩; try simp only [go_sem]
    obtain ⟨Y, b2, l1, l2, l3, l4⟩ := late_dat l o e h4 h5
    have q2 := sameInts_ok Y Y (by omega) (by omega)
    rw [bP_true rfl] at q2
    cases hee : e with
    | mk es er =>
    subst hee
    simp only [EntrantD.dat] at *
    repeat' (first | with_reducible refine stop_seq (id := 31) ?_ | with_reducible refine stop_one (id := 31) ?_ | ((with_reducible first | (refine hK _ ?_; clear hK K) | refine stq fun K' hK' => ?_ | refine stc ?_); try simp only [go_sem, EntrantD.dat]) | (with_reducible first | refine stp ?_ | (refine hK' _ ?_; clear hK' K') | refine kN kl4 fun K hK => ?_ | refine kO fun K hK => ?_) | (refine xS rfl fun K' hK' => ?_; simp only [go_sem, EntrantD.dat]) | (refine qS rfl fun K' hK' => ?_; simp only [go_sem, EntrantD.dat]) | ((with_reducible first | apply CallK.eq | apply CallQ.eqs); (· with_reducible first | exact l1 | exact l2); (· first | exact rfl | (simp [RV.flat, D.sc, datI]; done)); try simp only [go_sem, EntrantD.dat]) | refine iB ?_ | (with_reducible refine pw_seq_drawK kl4 G_ok mixed (by kernel_rfl) (fun K hK => ?_)) | (with_reducible refine pw_draw G_ok mixed (by kernel_rfl) ?_) | (with_reducible refine pK_mk ?_ ?_ <;> (intro hc; (try simp only [go_sem, EntrantD.dat]); (try simp at hc); try (exfalso; omega))) | with_reducible refine And.intro (by first | omega | (unfold inI; omega)) ?_)
    refine cut_at ⟨⟨240, [(1, .d (.lst 1 (xs1.map datY)))]⟩, [], 0⟩ ?_ ?_
    · intro K hK
      cases b2
      case' false =>
        repeat' (first | ((with_reducible first | (refine hK _ ?_; clear hK K) | refine stq fun K' hK' => ?_ | refine stc ?_); try simp only [go_sem, bne_self_eq_false]) | (with_reducible first | refine stp ?_ | (refine hK' _ ?_; clear hK' K') | refine kN kl4 fun K hK => ?_ | refine kO fun K hK => ?_) | (refine xS rfl fun K' hK' => ?_; simp only [go_sem, bne_self_eq_false]) | (refine qS rfl fun K' hK' => ?_; simp only [go_sem, bne_self_eq_false]) | ((with_reducible first | apply CallK.eq | apply CallQ.eqs); (· with_reducible first | exact q2); (· first | exact rfl | (simp [RV.flat, D.sc, datI]; done)); try simp only [go_sem, bne_self_eq_false]) | refine iB ?_ | (with_reducible refine pw_seq_drawK kl4 G_ok mixed (by kernel_rfl) (fun K hK => ?_)) | (with_reducible refine pw_draw G_ok mixed (by kernel_rfl) ?_) | (with_reducible refine pK_mk ?_ ?_ <;> (intro hc; (try simp only [go_sem, bne_self_eq_false]); (try simp at hc); try (exfalso; omega))) | with_reducible refine And.intro (by first | omega | (unfold inI; omega)) ?_)
      case' true =>
        have hY := l4 rfl
        have hcl : (Y.length : Int) = (o.length : Int) + 1 := by rw [hY]; simp
        have hz : (List.map datI Y)[0]? = some [.int .i64 es] := by rw [hY]; rfl
        have hz0 : 0 < Y.length := by rw [hY]; simp
        clear hY
        repeat' (first | ((with_reducible first | (refine hK _ ?_; clear hK K) | refine stq fun K' hK' => ?_ | refine stc ?_); try simp only [go_sem, bne_self_eq_false, hcl, hz, hz0]) | (with_reducible first | refine stp ?_ | (refine hK' _ ?_; clear hK' K') | refine kN kl4 fun K hK => ?_ | refine kO fun K hK => ?_) | (refine xS rfl fun K' hK' => ?_; simp only [go_sem, bne_self_eq_false, hcl, hz, hz0]) | (refine qS rfl fun K' hK' => ?_; simp only [go_sem, bne_self_eq_false, hcl, hz, hz0]) | ((with_reducible first | apply CallK.eq | apply CallQ.eqs); (· with_reducible first | exact q2); (· first | exact rfl | (simp [RV.flat, D.sc, datI]; done)); try simp only [go_sem, bne_self_eq_false, hcl, hz, hz0]) | refine iB ?_ | (with_reducible refine pw_seq_drawK kl4 G_ok mixed (by kernel_rfl) (fun K hK => ?_)) | (with_reducible refine pw_draw G_ok mixed (by kernel_rfl) ?_) | (with_reducible refine pK_mk ?_ ?_ <;> (intro hc; (try simp only [go_sem, bne_self_eq_false, hcl, hz, hz0]); (try simp at hc); try (exfalso; omega))) | with_reducible refine And.intro (by first | omega | (unfold inI; omega)) ?_)
      all_goals exact (fits_mk [] (by simp [renL_d, bdL_d, sg, over, wipe, wl, memN, ins, rm, lk, fitFr, fit1, ren, renL, bd, bdL, app, fitHp, hget, renB, bdB] <;> omega))
    clear l1 l2 l4 q2
    repeat' (first | ((with_reducible first | (refine hK _ ?_; clear hK K) | refine stq fun K' hK' => ?_ | refine stc ?_); try simp only [go_sem]) | (with_reducible first | refine stp ?_ | (refine hK' _ ?_; clear hK' K') | refine kN kl4 fun K hK => ?_ | refine kO fun K hK => ?_) | (refine xS rfl fun K' hK' => ?_; simp only [go_sem]) | (refine qS rfl fun K' hK' => ?_; simp only [go_sem]) | refine iB ?_ | (with_reducible refine pw_seq_drawK kl4 G_ok mixed (by kernel_rfl) (fun K hK => ?_)) | (with_reducible refine pw_draw G_ok mixed (by kernel_rfl) ?_) | (with_reducible refine pK_mk ?_ ?_ <;> (intro hc; (try simp only [go_sem]); (try simp at hc); try (exfalso; omega))) | with_reducible refine And.intro (by first | omega | (unfold inI; omega)) ?_)
    refine CallK.of (drawOText_ok xs1 m1.2 (by omega)) ?_; rintro _ ⟨u, ⟨hu, _⟩, rfl⟩; refine ⟨(fun h => by cases h), ?_⟩; try simp only [go_sem]
    obtain ⟨S, b3, s1, s2, s3⟩ := otext_dat u hu
    repeat' (first | with_reducible refine stop_seq (id := 38) ?_ | with_reducible refine stop_one (id := 38) ?_ | ((with_reducible first | (refine hK _ ?_; clear hK K) | refine stq fun K' hK' => ?_ | refine stc ?_); try simp only [go_sem, bne_self_eq_false]) | (with_reducible first | refine stp ?_ | (refine hK' _ ?_; clear hK' K') | refine kN kl4 fun K hK => ?_ | refine kO fun K hK => ?_) | (refine xS rfl fun K' hK' => ?_; simp only [go_sem, bne_self_eq_false]) | (refine qS rfl fun K' hK' => ?_; simp only [go_sem, bne_self_eq_false]) | ((with_reducible first | apply CallK.eq | apply CallQ.eqs); (· with_reducible first | exact s1 | exact s2); (· first | exact rfl | (simp [RV.flat, D.sc, datI]; done)); try simp only [go_sem, bne_self_eq_false]) | refine iB ?_ | (with_reducible refine pw_seq_drawK kl4 G_ok mixed (by kernel_rfl) (fun K hK => ?_)) | (with_reducible refine pw_draw G_ok mixed (by kernel_rfl) ?_) | (with_reducible refine pK_mk ?_ ?_ <;> (intro hc; (try simp only [go_sem, bne_self_eq_false]); (try simp at hc); try (exfalso; omega))) | with_reducible refine And.intro (by first | omega | (unfold inI; omega)) ?_)
    refine cut_at ⟨⟨240, [(1, .d (.lst 1 (xs1.map datY)))]⟩, [], 0⟩ ?_ ?_
    · intro K hK
      cases b3
      case' false =>
        repeat' (first | ((with_reducible first | (refine hK _ ?_; clear hK K) | refine stq fun K' hK' => ?_ | refine stc ?_); try simp only [go_sem]) | (with_reducible first | refine stp ?_ | (refine hK' _ ?_; clear hK' K') | refine kN kl4 fun K hK => ?_ | refine kO fun K hK => ?_) | (refine xS rfl fun K' hK' => ?_; simp only [go_sem]) | (refine qS rfl fun K' hK' => ?_; simp only [go_sem]) | refine iB ?_ | (with_reducible refine pw_seq_drawK kl4 G_ok mixed (by kernel_rfl) (fun K hK => ?_)) | (with_reducible refine pw_draw G_ok mixed (by kernel_rfl) ?_) | (with_reducible refine pK_mk ?_ ?_ <;> (intro hc; (try simp only [go_sem]); (try simp at hc); try (exfalso; omega))) | with_reducible refine And.intro (by first | omega | (unfold inI; omega)) ?_)
      case' true =>
        have s4 := s3 rfl
        have q3 := sameInts_ok u u (by omega) (by omega)
        rw [bP_true rfl] at q3
        clear s3
        repeat' (first | ((with_reducible first | (refine hK _ ?_; clear hK K) | refine stq fun K' hK' => ?_ | refine stc ?_); try simp only [go_sem, bne_self_eq_false]) | (with_reducible first | refine stp ?_ | (refine hK' _ ?_; clear hK' K') | refine kN kl4 fun K hK => ?_ | refine kO fun K hK => ?_) | (refine xS rfl fun K' hK' => ?_; simp only [go_sem, bne_self_eq_false]) | (refine qS rfl fun K' hK' => ?_; simp only [go_sem, bne_self_eq_false]) | ((with_reducible first | apply CallK.eq | apply CallQ.eqs); (· with_reducible first | exact s4 | exact q3); (· first | exact rfl | (simp [RV.flat, D.sc, datI]; done)); try simp only [go_sem, bne_self_eq_false]) | refine iB ?_ | (with_reducible refine pw_seq_drawK kl4 G_ok mixed (by kernel_rfl) (fun K hK => ?_)) | (with_reducible refine pw_draw G_ok mixed (by kernel_rfl) ?_) | (with_reducible refine pK_mk ?_ ?_ <;> (intro hc; (try simp only [go_sem, bne_self_eq_false]); (try simp at hc); try (exfalso; omega))) | with_reducible refine And.intro (by first | omega | (unfold inI; omega)) ?_)
      all_goals exact (fits_mk [] (by simp [renL_d, bdL_d, sg, over, wipe, wl, memN, ins, rm, lk, fitFr, fit1, ren, renL, bd, bdL, app, fitHp, hget, renB, bdB] <;> omega))
    clear s1 s2 s3
    repeat' (first | ((with_reducible first | (refine hK _ ?_; clear hK K) | refine stq fun K' hK' => ?_ | refine stc ?_); try simp only [go_sem]) | (with_reducible first | refine stp ?_ | (refine hK' _ ?_; clear hK' K') | refine kN kl4 fun K hK => ?_ | refine kO fun K hK => ?_) | (refine xS rfl fun K' hK' => ?_; simp only [go_sem]) | (refine qS rfl fun K' hK' => ?_; simp only [go_sem]) | refine iB ?_ | (with_reducible refine pw_seq_drawK kl4 G_ok mixed (by kernel_rfl) (fun K hK => ?_)) | (with_reducible refine pw_draw G_ok mixed (by kernel_rfl) ?_) | (with_reducible refine pK_mk ?_ ?_ <;> (intro hc; (try simp only [go_sem]); (try simp at hc); try (exfalso; omega))) | with_reducible refine And.intro (by first | omega | (unfold inI; omega)) ?_)
    refine CallK.of (drawPOrder_ok xs1 m1.2 (by omega)) ?_; rintro _ ⟨v, hv, rfl⟩; refine ⟨(fun h => by cases h), ?_⟩; try simp only [go_sem]
    obtain ⟨V, b4, v1, v2, v3⟩ := oparse_dat v hv
    have q4 := sameInts_ok V V (by omega) (by omega)
    rw [bP_true rfl] at q4
    repeat' (first | ((with_reducible first | (refine hK _ ?_; clear hK K) | refine stq fun K' hK' => ?_ | refine stc ?_); try simp only [go_sem, beq_self_eq_true]) | (with_reducible first | refine stp ?_ | (refine hK' _ ?_; clear hK' K') | refine kN kl4 fun K hK => ?_ | refine kO fun K hK => ?_) | (refine xS rfl fun K' hK' => ?_; simp only [go_sem, beq_self_eq_true]) | (refine qS rfl fun K' hK' => ?_; simp only [go_sem, beq_self_eq_true]) | ((with_reducible first | apply CallK.eq | apply CallQ.eqs); (· with_reducible first | exact v1 | exact v2 | exact q4); (· first | exact rfl | (simp [RV.flat, D.sc, datI]; done)); try simp only [go_sem, beq_self_eq_true]) | refine iB ?_ | (with_reducible refine pw_seq_drawK kl4 G_ok mixed (by kernel_rfl) (fun K hK => ?_)) | (with_reducible refine pw_draw G_ok mixed (by kernel_rfl) ?_) | (with_reducible refine pK_mk ?_ ?_ <;> (intro hc; (try simp only [go_sem, beq_self_eq_true]); (try simp at hc); try (exfalso; omega))) | with_reducible refine And.intro (by first | omega | (unfold inI; omega)) ?_)
    refine retQ_ret rfl rfl (by simp [rowsOf, lk]) ?_
    rfl

theorem own : ownKnob Tryz.prog.godebug = none := by kernel_rfl
theorem laidOut : laidOutB Tryz.prog = true := by kernel_rfl
set_option linter.unusedVariables false in
set_option maxRecDepth 100000 in
theorem lifted (os : Os) (started : os.Started) (H : Type) (enc : TypeId × Value → H) :
    ReturnsInHanded {} Tryz.checked os 4 .any (fun w args => (Rows.fnOrdersSpec.pre enc Tryz.prog Tryz.f4 [] false w args ∧ laidMetH Tryz.prog Rows.fnOrdersRow.laid w) ∧ sizedMet enc Tryz.prog Tryz.f4 (OpenSpec.ofChange Rows.fnOrdersSpec) false w args) (Rows.fnOrdersSpec.post enc Tryz.prog Tryz.f4 false true false false) := by
  refine returnsInHanded_of_change_and (C := Tryz.checked) (X := fun w _ => laidMetH Tryz.prog Rows.fnOrdersRow.laid w) (fun _ _ _ hh h => h.of_heap hh) own started (by kernel_rfl) Tryz.func4
    (ChangeSpec.witness_shaped (enc := enc) (C := Tryz.checked) (os := os) (X := fun w _ => laidMetH Tryz.prog Rows.fnOrdersRow.laid w) false (World.laidAll Tryz.prog os Rows.fnOrdersRow.laid) #[.slice none 0 0, .slice none 0 0] 8 (World.laidAll_os _ _ _)
      (World.shaped_of_ZipB (by kernel_rfl) (by kernel_rfl)) (by kernel_rfl) (by kernel_rfl) (by kernel_rfl)
      (by rw [MakeChecks.laidMetH_plain _ _ _ (by kernel_rfl)]; exact laidMet_laidAll _ (by kernel_rfl) (by kernel_rfl))) ?_
  intro W base args ds gs before hval0 hW _ _ hL _
  have hval : ∀ (j : Nat) t v, Tryz.f4.params[j]? = some t → args[j]? = some v → Value.okWide Tryz.prog W .any base t v := hval0
  have hW' := hW
  obtain ⟨p, q, hA0, hV, rfl, hfz, hnd⟩ := hW
  have hA : DataW.TrodAll enc Tryz.prog W 0 (fun _ => true) true Tryz.f4.params.toList args.toList ds p := hA0
  rw [Tryz.params4] at hA hval
  obtain ⟨v0, vs0, d0, ds0, p0, q0, hargs, rfl, rfl, h0, r0⟩ := trodAll_cons hA
  obtain ⟨v1, vs1, d1, ds1, p1, q1, rfl, rfl, rfl, h1, r1⟩ := trodAll_cons r0
  obtain ⟨rfl, rfl, rfl⟩ := trodAll_nil r1
  obtain rfl : args = #[v0, v1] := by cases args; simp_all
  obtain ⟨rfl, rfl⟩ := trodVars_none hV
  have k0 := h0
  have lt0 := below_lt k0
  obtain ⟨s0, len0, cap0, rfl⟩ := okWide_slice Tryz.underlying22 (hval 0 22 v0 rfl rfl)
  obtain ⟨fuel0, hf0⟩ := h0
  obtain ⟨x0, m0, rd0⟩ := open_bytes.2 _ _ _ hf0
  have R0 := R_of_crd1 rfl rd0
  clear hf0
  have k1 := h1
  have lt1 := below_lt k1
  obtain ⟨s1, len1, cap1, rfl⟩ := okWide_slice Tryz.underlying22 (hval 1 22 v1 rfl rfl)
  obtain ⟨fuel1, hf1⟩ := h1
  obtain ⟨x1, m1, rd1⟩ := open_bytes.2 _ _ _ hf1
  have R1 := R_of_crd1 rfl rd1
  clear hf1
  clear hA0 hval0
  refine (mwalk (law_FnOrders_ok x0 m0 x1 m1) W (glW hL) _ rfl (args2 R0 R1)).mono fun e W' ⟨he, bel⟩ => ?_
  subst he
  exact ⟨_, rfl, _, _, _, [], _, [], hW', trodAll_mk1 (shut_bool Tryz.underlying4 _), (trodAll_cons_mk (Below.trod laidOut (by kernel_rfl) (of_decide_eq_true (by kernel_rfl)) k0 bel lt0) (trodAll_cons_mk (Below.trod laidOut (by kernel_rfl) (of_decide_eq_true (by kernel_rfl)) k1 bel lt1) trodAll_mk0)), rfl, bel.frame _, fun h => by cases h⟩
theorem over : Rows.fnOrdersRow.holds Tryz.pinned (OpenSpec.ofChange Rows.fnOrdersSpec) :=
  OpenClaim.holds_of_wide 4 Tryz.f4 rfl rfl rfl rfl rfl rfl rfl ⟨rfl, rfl, rfl, rfl, rfl⟩ rfl rfl rfl rfl rfl (by kernel_rfl) Tryz.func4 (by kernel_rfl)
    (of_decide_eq_true (by kernel_rfl)) (by unfold Func.isWrapper; first | (rw [if_pos (by decide +kernel)]; kernel_rfl) | (rw [if_neg (by decide +kernel)]; exact ⟨rfl, rfl⟩))
    (fun os started H enc _ => lifted os started H enc)
theorem proved : Rows.FnOrdersCardSaid :=
  Claim7.holds_tied_plain_at .later [] [.data, .data, .data, .data, .pinned] true (true, "0fa1573e9eaae1a0e503c3d40fc940c5dffe2ce7be3fd555e4ced14202a02b66") false over (fun _ h => by cases h) (by kernel_rfl) (fun _ h => by cases h) fnOrders_row_tie rfl ⟨rfl, rfl⟩ (by kernel_rfl) rfl
    (fun f fn hf hfn => by
      obtain rfl : f = 4 := Option.some.inj ((show Tryz.prog.funcNamed "loop.example/g00912/laws.FnOrders" = some 4 by kernel_rfl).symm.trans hf) |>.symm
      obtain rfl : fn = Tryz.f4 := (Option.some.inj (Tryz.func4.symm.trans hfn)).symm
      exact ⟨by kernel_rfl, fun j t ht => by
        rw [Tryz.params4] at ht
        have hm : t ∈ [22, 22] := by simpa using Array.mem_of_getElem? ht
        have hall : ([22, 22].all fun u => !Tryz.prog.wantsStandIn u) = true := by kernel_rfl
        exact (show Tryz.prog.wantsStandIn t = false by simpa using List.all_eq_true.1 hall t hm)⟩)
    (by kernel_rfl)
end Go.Proofs.YthocihmhljmgdaaGreatDoor.lawOrders
