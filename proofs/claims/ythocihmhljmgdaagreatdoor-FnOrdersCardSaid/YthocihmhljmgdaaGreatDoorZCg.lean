/-
  Spoilt texts (draw).
-/
import Derived.Test.YthocihmhljmgdaaGreatDoorZCn
import Derived.Test.YthocihmhljmgdaaGreatDoorZNj
import Derived.Test.YthocihmhljmgdaaGreatDoorZDl
set_option linter.unusedSimpArgs false
set_option linter.unusedVariables false
set_option maxHeartbeats 2000000
set_option maxRecDepth 100000
namespace Go.Proofs.YthocihmhljmgdaaGreatDoor
open Go.RowKit

theorem spoilt_ok {k : Nat} {cs : List D} {t w : ByteArray} (hC : Cur k cs) (hk : k ≤ 1000000000) (ht : t.size ≤ 1000000) (hw0 : 0 < w.size) (hw : w.size ≤ 1000) : FnC Tryz.prog 67 3 [.str t, .str w] cs (PostX (k + 20) (fun s : ByteArray => s.size ≤ 1000010) fun s => [.d (.str s)]) := by
  refine fn_okC G_ok Tryz.func67 rfl rfl hC.len fun ty => ?_; simp only [Tryz.ntmps67, List.length_cons, List.length_nil, Nat.reduceAdd, Nat.reduceSub, List.map_cons, List.map_nil, List.length_map, enm]
  repeat' (first | ((with_reducible first | (refine hK _ ?_; clear hK K) | refine stq fun K' hK' => ?_ | refine stc ?_); try simp only [go_sem]) | (with_reducible first | refine stp ?_ | (refine hK' _ ?_; clear hK' K') | refine kN kl67 fun K hK => ?_ | refine kO fun K hK => ?_) | (refine xS rfl fun K' hK' => ?_; simp only [go_sem]) | (refine qS rfl fun K' hK' => ?_; simp only [go_sem]) | refine iB ?_ | (with_reducible refine pw_seq_drawK kl67 G_ok mixed (by kernel_rfl) (fun K hK => ?_)) | (with_reducible refine pw_draw G_ok mixed (by kernel_rfl) ?_) | (with_reducible refine pK_mk ?_ ?_ <;> (intro hc; (try simp only [go_sem]); (try simp at hc); try (exfalso; omega))) | with_reducible refine And.intro (by first | omega | (unfold inI; omega)) ?_)
  refine CallK.cur (some 0) (pick_ok (by assumption) (by omega)) rfl rfl rfl rfl rfl rfl ?_; rintro c2 _ ⟨x, hx, rfl, hC⟩; try simp only [mkB, go_sem]
  obtain ⟨N, hN⟩ : ∃ N : Nat, 1 + x = (N : Int) := ⟨(1 + x).toNat, by omega⟩
  have hN2 : N ≤ 2 := by omega
  repeat' (first | ((with_reducible first | (refine hK _ ?_; clear hK K) | refine stq fun K' hK' => ?_ | refine stc ?_); try simp only [go_sem]) | (with_reducible first | refine stp ?_ | (refine hK' _ ?_; clear hK' K') | refine kN kl67 fun K hK => ?_ | refine kO fun K hK => ?_) | (refine xS rfl fun K' hK' => ?_; simp only [go_sem]) | (refine qS rfl fun K' hK' => ?_; simp only [go_sem]) | refine iB ?_ | (with_reducible refine pw_seq_drawK kl67 G_ok mixed (by kernel_rfl) (fun K hK => ?_)) | (with_reducible refine pw_draw G_ok mixed (by kernel_rfl) ?_) | (with_reducible refine pK_mk ?_ ?_ <;> (intro hc; (try simp only [go_sem]); (try simp at hc); try (exfalso; omega))) | with_reducible refine And.intro (by first | omega | (unfold inI; omega)) ?_)
  rw [hN]
  refine pw_loop_over [1, 6, 7, 8, 9, 13, 14, 15, 16, 17, 18, 19, 20, 21, 22, 23, 24, 25, 26, 27, 28, 29, 30, 31, 32, 33, 34, 35, 36, 37, 38, 39, 40, 41, 42, 43, 44, 45, 46, 47, 48, 49, 50, 51, 52, 53, 54, 55, 56, 57, 58, 59, 60, 61, 62, 63, 64, 65, 66] (fun q : Nat × ByteArray × List D => [(0, .bptr 0 0), (1, .d (.str q.2.1)), (2, .d (.str w)), (7, .d (.int .i64 (q.1 : Int))), (8, .und), (9, .und)]) (fun q => [(0, .pbox 0 ty (q.2.2.map .d))]) 7 (fun q => q.1 ≤ N ∧ q.2.1.size ≤ 1000000 + (N - q.1) ∧ Cur (k + 2 + 6 * (N - q.1)) q.2.2) (fun q => q.1) (N, t, c2) ⟨Nat.le_refl _, by simp only; omega, hC.mono (by omega)⟩ (fits_mk [] (by simp [renL_d, bdL_d, sg, over, wipe, wl, memN, ins, rm, lk, fitFr, fit1, ren, renL, bd, bdL, app, fitHp, hget, renB, bdB] <;> omega)) ?_
  rintro ⟨j, s, c⟩ ⟨h0, h1, hC⟩; simp only [over, wipe, wl, memN, ins, rm, if_true, if_false, Nat.reduceEqDiff, Bool.false_eq_true, reduceCtorEq]
  simp only at h0 h1 hC
  by_cases hj : 0 < j ∧ 0 < s.size
  · obtain ⟨hj0, hs0⟩ := hj
    have hjp : 0 < (j : Int) := by omega
    have hsp : 0 < (s.size : Int) := by omega
    have hj' : (j : Int) - 1 = ((j - 1 : Nat) : Int) := by omega
    repeat' (first | ((with_reducible first | (refine hK _ ?_; clear hK K) | refine stq fun K' hK' => ?_ | refine stc ?_); try simp only [go_sem, hjp, hsp]) | (with_reducible first | refine stp ?_ | (refine hK' _ ?_; clear hK' K') | refine kN kl67 fun K hK => ?_ | refine kO fun K hK => ?_) | (refine xS rfl fun K' hK' => ?_; simp only [go_sem, hjp, hsp]) | (refine qS rfl fun K' hK' => ?_; simp only [go_sem, hjp, hsp]) | ((first | refine CallK.cur (some 0) (pick_ok (by assumption) (by omega)) rfl rfl rfl rfl rfl rfl ?_); rintro c2 _ ⟨x, hx, rfl, hC⟩; try simp only [mkB, go_sem, hjp, hsp]) | ((first | refine CallK.cur (some 0) (pick_ok (by assumption) (by omega)) rfl rfl rfl rfl rfl rfl ?_); rintro c2 _ ⟨x, hx, rfl, hC⟩; try simp only [mkB, go_sem, hjp, hsp]) | refine iB ?_ | (with_reducible refine pw_seq_drawK kl67 G_ok mixed (by kernel_rfl) (fun K hK => ?_)) | (with_reducible refine pw_draw G_ok mixed (by kernel_rfl) ?_) | (with_reducible refine pK_mk ?_ ?_ <;> (intro hc; (try simp only [go_sem, hjp, hsp]); (try simp at hc); try (exfalso; omega))) | with_reducible refine And.intro (by first | omega | (unfold inI; omega)) ?_)
    rename_i p hp _
    obtain ⟨p, rfl⟩ : ∃ i : Nat, p = i := ⟨p.toNat, by omega⟩
    obtain ⟨i, rfl⟩ : ∃ i : Nat, x = i := ⟨x.toNat, by omega⟩
    have hp1 : (p : Int) + 1 = ((p + 1 : Nat) : Int) := by omega
    have e1 : (s.extract 0 p).size = p := by rw [ByteArray.size_extract]; omega
    have e2 : (s.extract p s.size).size = s.size - p := by rw [ByteArray.size_extract]; omega
    have e3 : (s.extract (p + 1) s.size).size = s.size - (p + 1) := by rw [ByteArray.size_extract]; omega
    have hiw : i < w.size := by omega
    obtain ⟨u, hu⟩ : ∃ u, w[i]? = some u := ⟨w[i], by simp [hiw]⟩
    simp only [Int.toNat_natCast, hu]
    repeat' (first | ((with_reducible first | (refine hK _ ?_; clear hK K) | refine stq fun K' hK' => ?_ | refine stc ?_); try simp only [go_sem]) | (with_reducible first | refine stp ?_ | (refine hK' _ ?_; clear hK' K') | refine kN kl67 fun K hK => ?_ | refine kO fun K hK => ?_) | (refine xS rfl fun K' hK' => ?_; simp only [go_sem]) | (refine qS rfl fun K' hK' => ?_; simp only [go_sem]) | ((first | refine CallK.cur (some 0) (pick_ok (by assumption) (by omega)) rfl rfl rfl rfl rfl rfl ?_); rintro c2 _ ⟨x, hx, rfl, hC⟩; try simp only [mkB, go_sem]) | ((first | refine CallK.cur (some 0) (pick_ok (by assumption) (by omega)) rfl rfl rfl rfl rfl rfl ?_); rintro c2 _ ⟨x, hx, rfl, hC⟩; try simp only [mkB, go_sem]) | refine iB ?_ | (with_reducible refine pw_seq_drawK kl67 G_ok mixed (by kernel_rfl) (fun K hK => ?_)) | (with_reducible refine pw_draw G_ok mixed (by kernel_rfl) ?_) | (with_reducible refine pK_mk ?_ ?_ <;> (intro hc; (try simp only [go_sem]); (try simp at hc); try (exfalso; omega))) | with_reducible refine And.intro (by first | omega | (unfold inI; omega)) ?_)
    refine pq_toStr (xs := [(u.toNat : Int)]) rfl (G_ok _ _ G22) Tryz.underlying5 (G_ok _ _ G9) rfl ?_
    have hws : (strOfNums [(u.toNat : Int)]).size = 1 := rfl
    generalize strOfNums [(u.toNat : Int)] = v at hws
    repeat' (first | ((with_reducible first | (refine hK _ ?_; clear hK K) | refine stq fun K' hK' => ?_ | refine stc ?_); try simp only [go_sem, hp1]) | (with_reducible first | refine stp ?_ | (refine hK' _ ?_; clear hK' K') | refine kN kl67 fun K hK => ?_ | refine kO fun K hK => ?_) | (refine xS rfl fun K' hK' => ?_; simp only [go_sem, hp1]) | (refine qS rfl fun K' hK' => ?_; simp only [go_sem, hp1]) | ((first | refine CallK.cur (some 0) (pick_ok (by assumption) (by omega)) rfl rfl rfl rfl rfl rfl ?_); rintro c2 _ ⟨x, hx, rfl, hC⟩; try simp only [mkB, go_sem, hp1]) | ((first | refine CallK.cur (some 0) (pick_ok (by assumption) (by omega)) rfl rfl rfl rfl rfl rfl ?_); rintro c2 _ ⟨x, hx, rfl, hC⟩; try simp only [mkB, go_sem, hp1]) | refine iB ?_ | (with_reducible refine pw_seq_drawK kl67 G_ok mixed (by kernel_rfl) (fun K hK => ?_)) | (with_reducible refine pw_draw G_ok mixed (by kernel_rfl) ?_) | (with_reducible refine pK_mk ?_ ?_ <;> (intro hc; (try simp only [go_sem, hp1]); (try simp at hc); try (exfalso; omega))) | with_reducible refine And.intro (by first | omega | (unfold inI; omega)) ?_)
    all_goals first
      | omega
      | skip
    · exact ⟨(j - 1, s.extract 0 p ++ v ++ s.extract p s.size, c2), ⟨by simp only; omega, by simp only [ByteArray.size_append, e1, e2, e3]; omega, Cur.mono (by assumption) (by simp only; omega)⟩, by simp only; omega, (fits_mk [] (by simp [renL_d, bdL_d, sg, over, wipe, wl, memN, ins, rm, lk, fitFr, fit1, ren, renL, bd, bdL, app, fitHp, hget, renB, bdB, hj', hp1] <;> omega))⟩
    · exact ⟨(j - 1, s.extract 0 p ++ v ++ s.extract (p + 1) s.size, c2), ⟨by simp only; omega, by simp only [ByteArray.size_append, e1, e2, e3]; omega, Cur.mono (by assumption) (by simp only; omega)⟩, by simp only; omega, (fits_mk [] (by simp [renL_d, bdL_d, sg, over, wipe, wl, memN, ins, rm, lk, fitFr, fit1, ren, renL, bd, bdL, app, fitHp, hget, renB, bdB, hj', hp1] <;> omega))⟩
    · exact ⟨(j - 1, s.extract 0 p ++ s.extract (p + 1) s.size, c2), ⟨by simp only; omega, by simp only [ByteArray.size_append, e1, e2, e3]; omega, Cur.mono (by assumption) (by simp only; omega)⟩, by simp only; omega, (fits_mk [] (by simp [renL_d, bdL_d, sg, over, wipe, wl, memN, ins, rm, lk, fitFr, fit1, ren, renL, bd, bdL, app, fitHp, hget, renB, bdB, hj', hp1] <;> omega))⟩
  · by_cases hj0 : 0 < (j : Int)
    · have hsp : ¬ 0 < (s.size : Int) := by omega
      repeat' (first | ((with_reducible first | (refine hK _ ?_; clear hK K) | refine stq fun K' hK' => ?_ | refine stc ?_); try simp only [go_sem, hj0, hsp]) | (with_reducible first | refine stp ?_ | (refine hK' _ ?_; clear hK' K') | refine kN kl67 fun K hK => ?_ | refine kO fun K hK => ?_) | (refine xS rfl fun K' hK' => ?_; simp only [go_sem, hj0, hsp]) | (refine qS rfl fun K' hK' => ?_; simp only [go_sem, hj0, hsp]) | refine iB ?_ | (with_reducible refine pw_seq_drawK kl67 G_ok mixed (by kernel_rfl) (fun K hK => ?_)) | (with_reducible refine pw_draw G_ok mixed (by kernel_rfl) ?_) | (with_reducible refine pK_mk ?_ ?_ <;> (intro hc; (try simp only [go_sem, hj0, hsp]); (try simp at hc); try (exfalso; omega))) | with_reducible refine And.intro (by first | omega | (unfold inI; omega)) ?_)
      refine retC_ret (id := 0) _ rfl rfl (by simp [rowsOf, lk]) rfl (Cur.len (by assumption)) ⟨_, ?_, rfl, Cur.mono (by assumption) (by omega)⟩
      omega
    · repeat' (first | ((with_reducible first | (refine hK _ ?_; clear hK K) | refine stq fun K' hK' => ?_ | refine stc ?_); try simp only [go_sem, hj0]) | (with_reducible first | refine stp ?_ | (refine hK' _ ?_; clear hK' K') | refine kN kl67 fun K hK => ?_ | refine kO fun K hK => ?_) | (refine xS rfl fun K' hK' => ?_; simp only [go_sem, hj0]) | (refine qS rfl fun K' hK' => ?_; simp only [go_sem, hj0]) | refine iB ?_ | (with_reducible refine pw_seq_drawK kl67 G_ok mixed (by kernel_rfl) (fun K hK => ?_)) | (with_reducible refine pw_draw G_ok mixed (by kernel_rfl) ?_) | (with_reducible refine pK_mk ?_ ?_ <;> (intro hc; (try simp only [go_sem, hj0]); (try simp at hc); try (exfalso; omega))) | with_reducible refine And.intro (by first | omega | (unfold inI; omega)) ?_)
      refine retC_ret (id := 0) _ rfl rfl (by simp [rowsOf, lk]) rfl (Cur.len (by assumption)) ⟨_, ?_, rfl, Cur.mono (by assumption) (by omega)⟩
      omega
end Go.Proofs.YthocihmhljmgdaaGreatDoor

/-
  What is drawn for the law on orders.
-/
set_option linter.unusedSimpArgs false
set_option linter.unusedVariables false
set_option maxHeartbeats 2000000
set_option maxRecDepth 100000
namespace Go.Proofs.YthocihmhljmgdaaGreatDoor
open Go.RowKit

theorem drawOText_ok (xs : List Int) (hx : ∀ x ∈ xs, 0 ≤ x ∧ x ≤ 255) (hn : xs.length ≤ 9223372036854775807) : FnOK Tryz.prog 33 [.d (.lst 1 (xs.map datY))] (fun rs => ∃ o, (o.length ≤ 400 ∧ inO o) ∧ rs = [.d (.lst 1 (o.map datI))]) := by
  have hC := cur0 hx hn
  refine fn_ok G_ok Tryz.func33 rfl rfl ?_; simp only [Tryz.ntmps33, List.length_cons, List.length_nil, Nat.reduceAdd, Nat.reduceSub, enm]
  repeat' (first | ((with_reducible first | (refine hK _ ?_; clear hK K) | refine stq fun K' hK' => ?_ | refine stc ?_); try simp only [go_sem]) | (with_reducible first | refine stp ?_ | (refine hK' _ ?_; clear hK' K') | refine kN kl33 fun K hK => ?_ | refine kO fun K hK => ?_) | (with_reducible refine pK_mk ?_ ?_ <;> (intro hc; (try simp only [go_sem]); (try simp at hc); try (exfalso; omega))) | with_reducible refine And.intro (by first | omega | (unfold inI; omega)) ?_)
  rw [box3 (.lst 1 (xs.map datY)) (.int .i64 0) (.int .u64 0)]
  generalize [D.lst 1 (xs.map datY), D.int .i64 0, D.int .u64 0] = cs at hC ⊢
  refine CallK.cur (none) (starting2_ok (by assumption) (by omega)) rfl rfl rfl rfl rfl rfl ?_; rintro c2 _ ⟨x, hx, rfl, hC⟩; try simp only [mkB, go_sem]
  obtain ⟨l, s, o⟩ := x
  have ho : o.length ≤ 400 ∧ inO o := ⟨hx.1.2.2.2, hx.2⟩
  repeat' (first | ((with_reducible first | (refine hK _ ?_; clear hK K) | refine stq fun K' hK' => ?_ | refine stc ?_); try simp only [go_sem]) | (with_reducible first | refine stp ?_ | (refine hK' _ ?_; clear hK' K') | refine kN kl33 fun K hK => ?_ | refine kO fun K hK => ?_) | (with_reducible refine pK_mk ?_ ?_ <;> (intro hc; (try simp only [go_sem]); (try simp at hc); try (exfalso; omega))) | with_reducible refine And.intro (by first | omega | (unfold inI; omega)) ?_)
  refine retQ_ret rfl rfl (by simp [rowsOf, lk]) ?_
  exact ⟨o, ho, rfl⟩
theorem drawPOrder_ok (xs : List Int) (hx : ∀ x ∈ xs, 0 ≤ x ∧ x ≤ 255) (hn : xs.length ≤ 9223372036854775807) : FnOK Tryz.prog 37 [.d (.lst 1 (xs.map datY))] (fun rs => ∃ t : ByteArray, t.size ≤ 1000010 ∧ rs = [.d (.str t)]) := by
  have hC := cur0 hx hn
  refine fn_ok G_ok Tryz.func37 rfl rfl ?_; simp only [Tryz.ntmps37, List.length_cons, List.length_nil, Nat.reduceAdd, Nat.reduceSub, enm]
  repeat' (first | ((with_reducible first | (refine hK _ ?_; clear hK K) | refine stq fun K' hK' => ?_ | refine stc ?_); try simp only [go_sem]) | (with_reducible first | refine stp ?_ | (refine hK' _ ?_; clear hK' K') | refine kN kl37 fun K hK => ?_ | refine kO fun K hK => ?_) | (with_reducible refine pK_mk ?_ ?_ <;> (intro hc; (try simp only [go_sem]); (try simp at hc); try (exfalso; omega))) | with_reducible refine And.intro (by first | omega | (unfold inI; omega)) ?_)
  rw [box3 (.lst 1 (xs.map datY)) (.int .i64 0) (.int .u64 0)]
  generalize [D.lst 1 (xs.map datY), D.int .i64 0, D.int .u64 0] = cs at hC ⊢
  refine CallK.of (drawOText_ok xs hx hn) ?_; rintro _ ⟨o, ⟨ho, hor⟩, rfl⟩; refine ⟨(fun h => by cases h), ?_⟩; try simp only [go_sem]
  have hst := soText_ok o (by omega) hor
  have hts := textO_len4 hor o.length (Nat.le_refl _)
  rw [List.take_length, ← ba_size] at hts
  generalize ba (textO o) = t at hst hts
  repeat' (first | ((with_reducible first | (refine hK _ ?_; clear hK K) | refine stq fun K' hK' => ?_ | refine stc ?_); try simp only [go_sem]) | (with_reducible first | refine stp ?_ | (refine hK' _ ?_; clear hK' K') | refine kN kl37 fun K hK => ?_ | refine kO fun K hK => ?_) | ((with_reducible apply CallK.eq); (· with_reducible first | exact hst); (· simp [RV.flat, D.sc, datI]); try simp only [go_sem]) | ((first | refine CallK.cur none (onec_ok (by assumption) (by omega)) rfl rfl rfl rfl rfl rfl ?_ | refine CallK.cur none (spoilt_ok (by assumption) (by omega) (by omega) (by decide) (by decide)) rfl rfl rfl rfl rfl rfl ?_); rintro c2 _ ⟨x, hx, rfl, hC⟩; try simp only [mkB, go_sem]) | (with_reducible refine pK_mk ?_ ?_ <;> (intro hc; (try simp only [go_sem]); (try simp at hc); try (exfalso; omega))) | with_reducible refine And.intro (by first | omega | (unfold inI; omega)) ?_)
  · refine retQ_ret rfl rfl (by simp [rowsOf, lk]) ?_
    exact ⟨x, hx, rfl⟩
  · refine retQ_ret rfl rfl (by simp [rowsOf, lk]) ?_
    exact ⟨t, by omega, rfl⟩
theorem drawLate_ok (xs : List Int) (hx : ∀ x ∈ xs, 0 ≤ x ∧ x ≤ 255) (hn : xs.length ≤ 9223372036854775807) : FnOK Tryz.prog 30 [.d (.lst 1 (xs.map datY))] (fun rs => ∃ (l : List EntrantD) (o : List Int) (e : EntrantD), (l.length ≤ 41 ∧ o.length ≤ 400) ∧ rs = [.d (.lst 2 (l.map EntrantD.dat)), .d (.lst 1 (o.map datI)), .agg e.dat]) := by
  have hC := cur0 hx hn
  refine fn_ok G_ok Tryz.func30 rfl rfl ?_; simp only [Tryz.ntmps30, List.length_cons, List.length_nil, Nat.reduceAdd, Nat.reduceSub, enm]
  repeat' (first | ((with_reducible first | (refine hK _ ?_; clear hK K) | refine stq fun K' hK' => ?_ | refine stc ?_); try simp only [go_sem]) | (with_reducible first | refine stp ?_ | (refine hK' _ ?_; clear hK' K') | refine kN kl30 fun K hK => ?_ | refine kO fun K hK => ?_) | (with_reducible refine pK_mk ?_ ?_ <;> (intro hc; (try simp only [go_sem]); (try simp at hc); try (exfalso; omega))) | with_reducible refine And.intro (by first | omega | (unfold inI; omega)) ?_)
  rw [box3 (.lst 1 (xs.map datY)) (.int .i64 0) (.int .u64 0)]
  generalize [D.lst 1 (xs.map datY), D.int .i64 0, D.int .u64 0] = cs at hC ⊢
  refine CallK.cur (none) (starting2_ok (by assumption) (by omega)) rfl rfl rfl rfl rfl rfl ?_; rintro c2 _ ⟨x, hx, rfl, hC⟩; try simp only [mkB, go_sem]
  obtain ⟨l, s, o⟩ := x
  have ho : l.length ≤ 41 ∧ o.length ≤ 400 := ⟨hx.1.1, hx.1.2.2.2⟩
  repeat' (first | ((with_reducible first | (refine hK _ ?_; clear hK K) | refine stq fun K' hK' => ?_ | refine stc ?_); try simp only [go_sem]) | (with_reducible first | refine stp ?_ | (refine hK' _ ?_; clear hK' K') | refine kN kl30 fun K hK => ?_ | refine kO fun K hK => ?_) | ((first | refine CallK.cur none (among_ok (l := [998, 500, 1, 0, 1000]) (by assumption) (by omega) (by simp) (by simp)) rfl rfl rfl rfl rfl rfl ?_ | refine CallK.cur none (among_ok (l := [0, 998, 1]) (by assumption) (by omega) (by simp) (by simp)) rfl rfl rfl rfl rfl rfl ?_); rintro c2 _ ⟨x, hx, rfl, hC⟩; try simp only [mkB, go_sem]) | ((first | refine CallK.cur none (among_ok (l := [998, 500, 1, 0, 1000]) (by assumption) (by omega) (by simp) (by simp)) rfl rfl rfl rfl rfl rfl ?_ | refine CallK.cur none (among_ok (l := [0, 998, 1]) (by assumption) (by omega) (by simp) (by simp)) rfl rfl rfl rfl rfl rfl ?_); rintro c2 _ ⟨x, hx, rfl, hC⟩; try simp only [mkB, go_sem]) | (with_reducible refine pK_mk ?_ ?_ <;> (intro hc; (try simp only [go_sem]); (try simp at hc); try (exfalso; omega))) | with_reducible refine And.intro (by first | omega | (unfold inI; omega)) ?_)
  rename_i a _ _
  refine retQ_ret (rs := [.d (.lst 2 (l.map EntrantD.dat)), .d (.lst 1 (o.map datI)), .agg (EntrantD.dat ⟨a, x⟩)]) rfl (by simp [retL, ret1, frzL, frzD, hget, EntrantD.dat, lk]) (by simp [rowsOf, rowIds, lk]) ?_
  exact ⟨l, o, ⟨a, x⟩, ho, rfl⟩
theorem drawPlacesO_ok (xs : List Int) (hx : ∀ x ∈ xs, 0 ≤ x ∧ x ≤ 255) (hn : xs.length ≤ 9223372036854775807) : FnOK Tryz.prog 26 [.d (.lst 1 (xs.map datY))] (fun rs => ∃ (ks sk pl : List Int) (s : Int), (ks.length ≤ 16 ∧ sk.length ≤ 400 ∧ pl.length ≤ 401) ∧ rs = [.d (.lst 1 (ks.map datI)), .d (.lst 1 (sk.map datI)), .d (.lst 1 (pl.map datI)), .d (.int .i64 s)]) := by
  refine FnOK.data ?_
  have hC := cur0 hx hn
  refine fn_ok G_ok Tryz.func26 rfl rfl ?_; simp only [Tryz.ntmps26, List.length_cons, List.length_nil, Nat.reduceAdd, Nat.reduceSub, enm]
  repeat' (first | ((with_reducible first | (refine hK _ ?_; clear hK K) | refine stq fun K' hK' => ?_ | refine stc ?_); try simp only [go_sem]) | (with_reducible first | refine stp ?_ | (refine hK' _ ?_; clear hK' K') | refine kN kl26 fun K hK => ?_ | refine kO fun K hK => ?_) | (refine xS rfl fun K' hK' => ?_; simp only [go_sem]) | refine iB ?_ | (with_reducible refine pK_mk ?_ ?_ <;> (intro hc; (try simp only [go_sem]); (try simp at hc); try (exfalso; omega))) | with_reducible refine And.intro (by first | omega | (unfold inI; omega)) ?_)
  rw [box3 (.lst 1 (xs.map datY)) (.int .i64 0) (.int .u64 0)]
  generalize [D.lst 1 (xs.map datY), D.int .i64 0, D.int .u64 0] = cs at hC ⊢
  refine CallK.cur (none) (starting2_ok (by assumption) (by omega)) rfl rfl rfl rfl rfl rfl ?_; rintro c2 _ ⟨x, hx, rfl, hC⟩; try simp only [mkB, go_sem]
  obtain ⟨l, s, o⟩ := x
  have ho : o.length ≤ 400 := hx.1.2.2.2
  repeat' (first | ((with_reducible first | (refine hK _ ?_; clear hK K) | refine stq fun K' hK' => ?_ | refine stc ?_); try simp only [go_sem]) | (with_reducible first | refine stp ?_ | (refine hK' _ ?_; clear hK' K') | refine kN kl26 fun K hK => ?_ | refine kO fun K hK => ?_) | (refine xS rfl fun K' hK' => ?_; simp only [go_sem]) | refine iB ?_ | (with_reducible refine pK_mk ?_ ?_ <;> (intro hc; (try simp only [go_sem]); (try simp at hc); try (exfalso; omega))) | with_reducible refine And.intro (by first | omega | (unfold inI; omega)) ?_)
  refine pw_loop_over [2, 3, 4, 5, 10, 22, 23, 24, 25, 26, 27, 28, 29, 30, 31, 32, 33] (fun q : List Int × List D => [(22, .d (.int .i64 (q.1.length : Int))), (21, .d (.int .i64 (o.length : Int))), (10, .row 10 q.1.length), (9, .d (.lst 1 (o.map datI))), (8, .d (.int .i64 s)), (6, .bptr 3 0), (0, .d (.lst 1 (xs.map datY)))]) (fun q => [(10, .row 3 1 (q.1.map datI)), (3, .box 87 (q.2.map .d))]) 11 (fun q => q.1.length ≤ o.length ∧ Cur (600 + 4 * q.1.length) q.2) (fun q => o.length - q.1.length) ([], c2) ⟨by simp, hC.mono (by simp)⟩ (fits_mk [] (by simp [renL_d, bdL_d, sg, over, wipe, wl, memN, ins, rm, lk, fitFr, fit1, ren, renL, bd, bdL, app, fitHp, hget, renB, bdB] <;> omega)) ?_
  rintro ⟨q, c⟩ ⟨hq, hCq⟩; simp only [over, wipe, wl, memN, ins, rm, if_true, if_false, Nat.reduceEqDiff, Bool.false_eq_true, reduceCtorEq]
  simp only at hq hCq
  by_cases hlt : q.length < o.length
  · repeat' (first | ((with_reducible first | (refine hK _ ?_; clear hK K) | refine stq fun K' hK' => ?_ | refine stc ?_); try simp only [go_sem, hlt]) | (with_reducible first | refine stp ?_ | (refine hK' _ ?_; clear hK' K') | refine kN kl26 fun K hK => ?_ | refine kO fun K hK => ?_) | (refine xS rfl fun K' hK' => ?_; simp only [go_sem, hlt]) | ((first | refine CallK.cur none (pick_ok (by assumption) (by omega)) rfl rfl rfl rfl rfl rfl ?_); rintro c2 _ ⟨x, hx, rfl, hC⟩; try simp only [mkB, go_sem, hlt]) | ((first | refine CallK.cur none (pick_ok (by assumption) (by omega)) rfl rfl rfl rfl rfl rfl ?_); rintro c2 _ ⟨x, hx, rfl, hC⟩; try simp only [mkB, go_sem, hlt]) | refine iB ?_ | (with_reducible refine pK_mk ?_ ?_ <;> (intro hc; (try simp only [go_sem, hlt]); (try simp at hc); try (exfalso; omega))) | with_reducible refine And.intro (by first | omega | (unfold inI; omega)) ?_)
    refine CallK.cur (none) (among_ok (l := [1, 2, 3, 3, 5, 8, 99, 1 + x]) (by assumption) (by omega) (by simp) (by simp)) rfl rfl rfl rfl rfl rfl ?_; rintro c2 _ ⟨x, hx, rfl, hC⟩; try simp only [mkB, go_sem]
    repeat' (first | ((with_reducible first | (refine hK _ ?_; clear hK K) | refine stq fun K' hK' => ?_ | refine stc ?_); try simp only [go_sem]) | (with_reducible first | refine stp ?_ | (refine hK' _ ?_; clear hK' K') | refine kN kl26 fun K hK => ?_ | refine kO fun K hK => ?_) | (refine xS rfl fun K' hK' => ?_; simp only [go_sem]) | refine iB ?_ | (with_reducible refine pK_mk ?_ ?_ <;> (intro hc; (try simp only [go_sem]); (try simp at hc); try (exfalso; omega))) | with_reducible refine And.intro (by first | omega | (unfold inI; omega)) ?_)
    exact ⟨(q ++ [x], c2), ⟨by simp; omega, Cur.mono (by assumption) (by simp; omega)⟩, by simp; omega, (fits_mk [] (by simp [renL_d, bdL_d, sg, over, wipe, wl, memN, ins, rm, lk, fitFr, fit1, ren, renL, bd, bdL, app, fitHp, hget, renB, bdB, datI] <;> omega))⟩
  · have hol : q.length ≤ 400 := by omega
    have hset : ∀ z : Int, (List.map datI q).set 0 [D.int .i64 z] = List.map datI (q.set 0 z) := fun z => by rw [List.map_set]; rfl
    have hq0 : 0 < q.length → ∃ z, q[0]? = some z := fun h => ⟨_, List.getElem?_eq_getElem h⟩
    by_cases h0 : 0 < q.length
    · obtain ⟨z, hz⟩ := hq0 h0
      repeat' (first | ((with_reducible first | (refine hK _ ?_; clear hK K) | refine stq fun K' hK' => ?_ | refine stc ?_); try simp only [go_sem, hlt, h0, hz, hset, List.length_set, List.getElem?_map, Option.map_some, datI]) | (with_reducible first | refine stp ?_ | (refine hK' _ ?_; clear hK' K') | refine kN kl26 fun K hK => ?_ | refine kO fun K hK => ?_) | (refine xS rfl fun K' hK' => ?_; simp only [go_sem, hlt, h0, hz, hset, List.length_set, List.getElem?_map, Option.map_some, datI]) | ((first | refine CallK.cur none (onec_ok (by assumption) (by omega)) rfl rfl rfl rfl rfl rfl ?_ | refine CallK.cur none (among_ok (l := [0, 100]) (by assumption) (by omega) (by simp) (by simp)) rfl rfl rfl rfl rfl rfl ?_); rintro c2 _ ⟨x, hx, rfl, hC⟩; try simp only [mkB, go_sem, hlt, h0, hz, hset, List.length_set, List.getElem?_map, Option.map_some, datI]) | ((first | refine CallK.cur none (onec_ok (by assumption) (by omega)) rfl rfl rfl rfl rfl rfl ?_ | refine CallK.cur none (among_ok (l := [0, 100]) (by assumption) (by omega) (by simp) (by simp)) rfl rfl rfl rfl rfl rfl ?_); rintro c2 _ ⟨x, hx, rfl, hC⟩; try simp only [mkB, go_sem, hlt, h0, hz, hset, List.length_set, List.getElem?_map, Option.map_some, datI]) | refine iB ?_ | (with_reducible refine pK_mk ?_ ?_ <;> (intro hc; (try simp only [go_sem, hlt, h0, hz, hset, List.length_set, List.getElem?_map, Option.map_some, datI]); (try simp at hc); try (exfalso; omega))) | with_reducible refine And.intro (by first | omega | (unfold inI; omega)) ?_)
      all_goals
        refine CallK.cur (none) (keyList_ok (n := 4) (by assumption) (by omega) (by omega) (by omega)) rfl rfl rfl rfl rfl rfl ?_; rintro c2 _ ⟨x, hx, rfl, hC⟩; try simp only [mkB, go_sem]
        repeat' (first | ((with_reducible first | (refine hK _ ?_; clear hK K) | refine stq fun K' hK' => ?_ | refine stc ?_); try simp only [go_sem]) | (with_reducible first | refine stp ?_ | (refine hK' _ ?_; clear hK' K') | refine kN kl26 fun K hK => ?_ | refine kO fun K hK => ?_) | (refine xS rfl fun K' hK' => ?_; simp only [go_sem]) | refine iB ?_ | (with_reducible refine pK_mk ?_ ?_ <;> (intro hc; (try simp only [go_sem]); (try simp at hc); try (exfalso; omega))) | with_reducible refine And.intro (by first | omega | (unfold inI; omega)) ?_)
      · rename Int => y
        refine retQ_ret rfl (by simp only [List.length_set, List.length_cons, List.length_nil, retL, ret1, hget, lk, List.length_map, List.length_nil, List.length_append, List.length_take, if_true, if_false, Nat.reduceEqDiff, Nat.reduceBEq, Bool.false_eq_true, Option.some.injEq]; rfl) (by simp [rowsOf, lk]) ?_
        exact ⟨x, o, q.set 0 y ++ [1], s, ⟨hx.1, ho, by simp; omega⟩, by simp [RV.data, datI]⟩
      · rename Int => y
        refine retQ_ret rfl (by simp only [List.length_set, List.length_cons, List.length_nil, retL, ret1, hget, lk, List.length_map, List.length_nil, List.length_append, List.length_take, if_true, if_false, Nat.reduceEqDiff, Nat.reduceBEq, Bool.false_eq_true, Option.some.injEq]; rfl) (by simp [rowsOf, lk]) ?_
        exact ⟨x, o, q.set 0 y, s, ⟨hx.1, ho, by simp; omega⟩, by simp [RV.data, datI]⟩
      · refine retQ_ret rfl (by simp only [List.length_set, List.length_cons, List.length_nil, retL, ret1, hget, lk, List.length_map, List.length_nil, List.length_append, List.length_take, if_true, if_false, Nat.reduceEqDiff, Nat.reduceBEq, Bool.false_eq_true, Option.some.injEq]; rfl) (by simp [rowsOf, lk]) ?_
        exact ⟨x, o, q ++ [1], s, ⟨hx.1, ho, by simp; omega⟩, by simp [RV.data, datI]⟩
      · refine retQ_ret rfl (by simp only [List.length_set, List.length_cons, List.length_nil, retL, ret1, hget, lk, List.length_map, List.length_nil, List.length_append, List.length_take, if_true, if_false, Nat.reduceEqDiff, Nat.reduceBEq, Bool.false_eq_true, Option.some.injEq]; rfl) (by simp [rowsOf, lk]) ?_
        exact ⟨x, o, q, s, ⟨hx.1, ho, by omega⟩, by simp [RV.data]⟩
      · refine retQ_ret rfl (by simp only [List.length_set, List.length_cons, List.length_nil, retL, ret1, hget, lk, List.length_map, List.length_nil, List.length_append, List.length_take, if_true, if_false, Nat.reduceEqDiff, Nat.reduceBEq, Bool.false_eq_true, Option.some.injEq]; rfl) (by simp [rowsOf, lk]) ?_
        exact ⟨x, o, q ++ [1], s, ⟨hx.1, ho, by simp; omega⟩, by simp [RV.data, datI]⟩
      · refine retQ_ret rfl (by simp only [List.length_set, List.length_cons, List.length_nil, retL, ret1, hget, lk, List.length_map, List.length_nil, List.length_append, List.length_take, if_true, if_false, Nat.reduceEqDiff, Nat.reduceBEq, Bool.false_eq_true, Option.some.injEq]; rfl) (by simp [rowsOf, lk]) ?_
        exact ⟨x, o, q, s, ⟨hx.1, ho, by omega⟩, by simp [RV.data]⟩
    · repeat' (first | ((with_reducible first | (refine hK _ ?_; clear hK K) | refine stq fun K' hK' => ?_ | refine stc ?_); try simp only [go_sem, hlt, h0]) | (with_reducible first | refine stp ?_ | (refine hK' _ ?_; clear hK' K') | refine kN kl26 fun K hK => ?_ | refine kO fun K hK => ?_) | (refine xS rfl fun K' hK' => ?_; simp only [go_sem, hlt, h0]) | ((first | refine CallK.cur none (onec_ok (by assumption) (by omega)) rfl rfl rfl rfl rfl rfl ?_ | refine CallK.cur none (among_ok (l := [0, 100]) (by assumption) (by omega) (by simp) (by simp)) rfl rfl rfl rfl rfl rfl ?_); rintro c2 _ ⟨x, hx, rfl, hC⟩; try simp only [mkB, go_sem, hlt, h0]) | ((first | refine CallK.cur none (onec_ok (by assumption) (by omega)) rfl rfl rfl rfl rfl rfl ?_ | refine CallK.cur none (among_ok (l := [0, 100]) (by assumption) (by omega) (by simp) (by simp)) rfl rfl rfl rfl rfl rfl ?_); rintro c2 _ ⟨x, hx, rfl, hC⟩; try simp only [mkB, go_sem, hlt, h0]) | refine iB ?_ | (with_reducible refine pK_mk ?_ ?_ <;> (intro hc; (try simp only [go_sem, hlt, h0]); (try simp at hc); try (exfalso; omega))) | with_reducible refine And.intro (by first | omega | (unfold inI; omega)) ?_)
      all_goals
        refine CallK.cur (none) (keyList_ok (n := 4) (by assumption) (by omega) (by omega) (by omega)) rfl rfl rfl rfl rfl rfl ?_; rintro c2 _ ⟨x, hx, rfl, hC⟩; try simp only [mkB, go_sem]
        repeat' (first | ((with_reducible first | (refine hK _ ?_; clear hK K) | refine stq fun K' hK' => ?_ | refine stc ?_); try simp only [go_sem]) | (with_reducible first | refine stp ?_ | (refine hK' _ ?_; clear hK' K') | refine kN kl26 fun K hK => ?_ | refine kO fun K hK => ?_) | (refine xS rfl fun K' hK' => ?_; simp only [go_sem]) | refine iB ?_ | (with_reducible refine pK_mk ?_ ?_ <;> (intro hc; (try simp only [go_sem]); (try simp at hc); try (exfalso; omega))) | with_reducible refine And.intro (by first | omega | (unfold inI; omega)) ?_)
      · refine retQ_ret rfl (by simp only [List.length_set, List.length_cons, List.length_nil, retL, ret1, hget, lk, List.length_map, List.length_nil, List.length_append, List.length_take, if_true, if_false, Nat.reduceEqDiff, Nat.reduceBEq, Bool.false_eq_true, Option.some.injEq]; rfl) (by simp [rowsOf, lk]) ?_
        exact ⟨x, o, q ++ [1], s, ⟨hx.1, ho, by simp; omega⟩, by simp [RV.data, datI]⟩
      · refine retQ_ret rfl (by simp only [retL, ret1, hget, lk, List.length_map, List.length_nil, List.length_append, List.length_take, if_true, if_false, Nat.reduceEqDiff, Nat.reduceBEq, Bool.false_eq_true, Option.some.injEq]; rfl) (by simp [rowsOf, lk]) ?_
        exact ⟨x, o, q, s, ⟨hx.1, ho, by omega⟩, by simp [RV.data]⟩
end Go.Proofs.YthocihmhljmgdaaGreatDoor
