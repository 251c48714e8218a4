/-
  Entrants in order: the reference's function (an insertion), in the abstract machine.
-/
import Derived.Test.YthocihmhljmgdaaGreatDoorZEr
set_option linter.unusedSimpArgs false
set_option linter.unusedVariables false
set_option maxHeartbeats 2000000
set_option maxRecDepth 100000
namespace Go.Proofs.YthocihmhljmgdaaGreatDoor
open Go.RowKit

theorem soSorted_ok (l : List EntrantD) (hv : EntsOk l) : FnEq Tryz.prog 152 [.d (.lst 2 (l.map EntrantD.dat))] [.row 53 2 ((ordE l).map EntrantD.dat)] := by
  refine fn_ok G_ok Tryz.func152 rfl rfl ?_; simp only [Tryz.ntmps152, List.length_cons, List.length_nil, Nat.reduceAdd, Nat.reduceSub, enm]
  have h40 := hv.1
  have hoE : ordE (l.take 0) = [] := rfl
  have hoE2 : ordE [] = [] := rfl
  repeat' (first | ((with_reducible first | (refine hK _ ?_; clear hK K) | refine stq fun K' hK' => ?_ | refine stc ?_); try simp only [go_sem]) | (with_reducible first | refine stp ?_ | (refine hK' _ ?_; clear hK' K') | refine kN kl152 fun K hK => ?_ | refine kO fun K hK => ?_) | (refine xS rfl fun K' hK' => ?_; simp only [go_sem]) | (refine qS rfl fun K' hK' => ?_; simp only [go_sem]) | refine iB ?_ | (with_reducible refine pw_seq_drawK kl152 G_ok mixed (by kernel_rfl) (fun K hK => ?_)) | (with_reducible refine pw_draw G_ok mixed (by kernel_rfl) ?_) | (with_reducible refine pK_mk ?_ ?_ <;> (intro hc; (try simp only [go_sem]); (try simp at hc); try (exfalso; omega))) | with_reducible refine And.intro (by first | omega | (unfold inI; omega)) ?_)
  refine pw_loop_over [2, 3, 5, 6, 9, 10, 11, 12, 13, 14, 15, 16, 17, 18, 19, 20, 21, 22, 23, 24, 25, 26, 27, 28, 29, 30, 31, 32, 33, 34, 35, 36, 37, 38, 39, 40] (fun k : Nat => [(9, .d (.int .i64 (k : Int))), (3, .row 0 k)]) (fun k : Nat => [(0, .row 53 2 ((ordE (l.take k)).map EntrantD.dat))]) 1 (fun k : Nat => k ≤ l.length) (fun k : Nat => l.length - k) 0 (Nat.zero_le _) (fits_mk [] (by simp [renL_d, bdL_d, sg, over, wipe, wl, memN, ins, rm, lk, fitFr, fit1, ren, renL, bd, bdL, app, fitHp, hget, renB, bdB, hoE2] <;> omega)) ?_
  intro k hk
  have hL := ordE_len hv hk
  simp only [over, wipe, wl, memN, ins, rm, if_true, if_false, Nat.reduceEqDiff, Bool.false_eq_true, reduceCtorEq]
  by_cases hlt : k < l.length
  · have hx := List.getElem?_eq_getElem hlt
    generalize l[k] = x at hx
    have hxm := List.mem_of_getElem? hx
    have hsn := ordE_snoc hx
    have hso := (ordE_aux hv k hk).2
    have hin := ordE_in hv hk
    have hne : ∀ y ∈ ordE (l.take k), y.skater ≠ x.skater := fun y hy => ((hv.2 k _ hx).2 y ((ordE_aux hv k hk).1.mem_iff.1 hy)).1
    generalize ordE (l.take k) = out at hL hsn hso hin hne
    have hat := fun m => insO_at (ltE_tot hv) hxm out m hin hso
    have htot : ∀ y ∈ out, ltE x y = false → ltE y x = true := fun y hy h => by
      cases h2 : ltE y x with
      | true => rfl
      | false => exact absurd (congrArg EntrantD.skater ((ltE_tot hv).total (hin y hy) hxm h2 h)) (hne y hy)
    repeat' (first | ((with_reducible first | (refine hK _ ?_; clear hK K) | refine stq fun K' hK' => ?_ | refine stc ?_); try simp only [go_sem, hL, hlt, List.getElem?_map, hx, Option.map_some, EntrantD.dat]) | (with_reducible first | refine stp ?_ | (refine hK' _ ?_; clear hK' K') | refine kN kl152 fun K hK => ?_ | refine kO fun K hK => ?_) | (refine xS rfl fun K' hK' => ?_; simp only [go_sem, hL, hlt, List.getElem?_map, hx, Option.map_some, EntrantD.dat]) | (refine qS rfl fun K' hK' => ?_; simp only [go_sem, hL, hlt, List.getElem?_map, hx, Option.map_some, EntrantD.dat]) | refine iB ?_ | (with_reducible refine pw_seq_drawK kl152 G_ok mixed (by kernel_rfl) (fun K hK => ?_)) | (with_reducible refine pw_draw G_ok mixed (by kernel_rfl) ?_) | (with_reducible refine pK_mk ?_ ?_ <;> (intro hc; (try simp only [go_sem, hL, hlt, List.getElem?_map, hx, Option.map_some, EntrantD.dat]); (try simp at hc); try (exfalso; omega))) | with_reducible refine And.intro (by first | omega | (unfold inI; omega)) ?_)
    refine (fun (key : ∀ (b : Bool) (m : Nat), m ≤ k → (∀ j y, m ≤ j → out[j]? = some y → ltE y x = false) → (∀ y, 0 < m → out[m - 1]? = some y → ltE y x = true) → PW Tryz.prog ?c ?Q ⟨⟨42, [(25, .d (.bool b)), (6, .d (.int .i64 (m : Int))), (5, .bptr 1 0), (10, .d (.bool (decide ((k : Int) < (l.length : Int))))), (3, .row 0 k), (9, .d (.int .i64 (k : Int))), (8, .d (.int .i64 (l.length : Int))), (7, .d (.lst 2 (l.map EntrantD.dat))), (0, .d (.lst 2 (l.map EntrantD.dat)))]⟩, [(0, .row 53 2 (out.map EntrantD.dat)), (1, .box 53 [.d (.int .i64 x.skater), .d (.int .i64 x.rank)])], 2⟩) => ?main) ?key
    case main =>
     refine pw_loop_over [2, 6, 15, 16, 17, 18, 19, 20, 21, 22, 23, 24, 25, 26, 27] (fun m : Nat => [(6, .d (.int .i64 (m : Int)))]) (fun _ => [(0, .row 53 2 (out.map EntrantD.dat)), (1, .box 53 [.d (.int .i64 x.skater), .d (.int .i64 x.rank)])]) 2 (fun m => m ≤ k ∧ (∀ j y, m ≤ j → out[j]? = some y → ltE y x = false)) (fun m => m) k ⟨by omega, fun j y hj hy => by rw [List.getElem?_eq_none (by omega)] at hy; cases hy⟩ (fits_mk [] (by simp [renL_d, bdL_d, sg, over, wipe, wl, memN, ins, rm, lk, fitFr, fit1, ren, renL, bd, bdL, app, fitHp, hget, renB, bdB, hL] <;> omega)) ?_
     rintro m ⟨hm, hA⟩
     simp only [over, wipe, wl, memN, ins, rm, if_true, if_false, Nat.reduceEqDiff, Bool.false_eq_true, reduceCtorEq]
     rcases Nat.eq_zero_or_pos m with hm0 | hm0
     · have hm0' : ¬ 0 < m := by omega
       have hm0'' : ¬ (0 : Int) < (m : Int) := by omega
       repeat' (first | ((with_reducible first | (refine hK _ ?_; clear hK K) | refine stq fun K' hK' => ?_ | refine stc ?_); try simp only [go_sem, hL, hm0', hm0'']) | (with_reducible first | refine stp ?_ | (refine hK' _ ?_; clear hK' K') | refine kN kl152 fun K hK => ?_ | refine kO fun K hK => ?_) | (refine xS rfl fun K' hK' => ?_; simp only [go_sem, hL, hm0', hm0'']) | (refine qS rfl fun K' hK' => ?_; simp only [go_sem, hL, hm0', hm0'']) | ((with_reducible first | apply CallK.eq | apply CallQ.eqs); (· with_reducible first | exact soBehind_ok x x); (· first | exact rfl | (simp [RV.flat, D.sc, datI]; done)); try simp only [go_sem, hL, hm0', hm0'']) | refine iB ?_ | (with_reducible refine pw_seq_drawK (id := 6) kl152 G_ok mixed (by kernel_rfl) (fun K hK => ?_)) | (with_reducible refine pw_draw (id := 6) G_ok mixed (by kernel_rfl) ?_) | (with_reducible refine pK_mk ?_ ?_ <;> (intro hc; (try simp only [go_sem, hL, hm0', hm0'']); (try simp at hc); try (exfalso; omega))) | with_reducible refine And.intro (by first | omega | (unfold inI; omega)) ?_)
       all_goals first
         | (exfalso; omega)
         | exact key _ m hm hA fun y' h _ => by omega
     · have hy := List.getElem?_eq_getElem (show m - 1 < out.length by omega)
       generalize out[m - 1] = y at hy
       have hy' : out[((m : Int) - 1).toNat]? = some y := by rw [show ((m : Int) - 1).toNat = m - 1 by omega]; exact hy
       have hlt2 : ((m : Int) - 1).toNat < k := by omega
       have hym := List.mem_of_getElem? hy
       have hpos : (0 : Int) < (m : Int) := by omega
       cases hb : ltE x y with
       | true =>
         have hyx := (ltE_tot hv).asymm hxm (hin y hym) hb
         repeat' (first | ((with_reducible first | (refine hK _ ?_; clear hK K) | refine stq fun K' hK' => ?_ | refine stc ?_); try simp only [go_sem, hL, hlt2, List.getElem?_map, hy', Option.map_some, EntrantD.dat, hb, hm0, hpos]) | (with_reducible first | refine stp ?_ | (refine hK' _ ?_; clear hK' K') | refine kN kl152 fun K hK => ?_ | refine kO fun K hK => ?_) | (refine xS rfl fun K' hK' => ?_; simp only [go_sem, hL, hlt2, List.getElem?_map, hy', Option.map_some, EntrantD.dat, hb, hm0, hpos]) | (refine qS rfl fun K' hK' => ?_; simp only [go_sem, hL, hlt2, List.getElem?_map, hy', Option.map_some, EntrantD.dat, hb, hm0, hpos]) | ((with_reducible first | apply CallK.eq | apply CallQ.eqs); (· with_reducible first | exact soBehind_ok x y); (· first | exact rfl | (simp [RV.flat, D.sc, datI]; done)); try simp only [go_sem, hL, hlt2, List.getElem?_map, hy', Option.map_some, EntrantD.dat, hb, hm0, hpos]) | refine iB ?_ | (with_reducible refine pw_seq_drawK (id := 6) kl152 G_ok mixed (by kernel_rfl) (fun K hK => ?_)) | (with_reducible refine pw_draw (id := 6) G_ok mixed (by kernel_rfl) ?_) | (with_reducible refine pK_mk ?_ ?_ <;> (intro hc; (try simp only [go_sem, hL, hlt2, List.getElem?_map, hy', Option.map_some, EntrantD.dat, hb, hm0, hpos]); (try simp at hc); try (exfalso; omega))) | with_reducible refine And.intro (by first | omega | (unfold inI; omega)) ?_)
         all_goals first
           | (exfalso; omega)
           | exact ⟨m - 1, ⟨by omega, fun j y' hj hy2 => by
               by_cases e2 : j = m - 1
               · subst e2; rw [hy] at hy2; cases hy2; exact hyx
               · exact hA j y' (by omega) hy2⟩, by omega, (fits_mk [] (by simp [renL_d, bdL_d, sg, over, wipe, wl, memN, ins, rm, lk, fitFr, fit1, ren, renL, bd, bdL, app, fitHp, hget, renB, bdB] <;> omega))⟩
       | false =>
         have hyx := htot y hym hb
         repeat' (first | ((with_reducible first | (refine hK _ ?_; clear hK K) | refine stq fun K' hK' => ?_ | refine stc ?_); try simp only [go_sem, hL, hlt2, List.getElem?_map, hy', Option.map_some, EntrantD.dat, hb, hm0, hpos]) | (with_reducible first | refine stp ?_ | (refine hK' _ ?_; clear hK' K') | refine kN kl152 fun K hK => ?_ | refine kO fun K hK => ?_) | (refine xS rfl fun K' hK' => ?_; simp only [go_sem, hL, hlt2, List.getElem?_map, hy', Option.map_some, EntrantD.dat, hb, hm0, hpos]) | (refine qS rfl fun K' hK' => ?_; simp only [go_sem, hL, hlt2, List.getElem?_map, hy', Option.map_some, EntrantD.dat, hb, hm0, hpos]) | ((with_reducible first | apply CallK.eq | apply CallQ.eqs); (· with_reducible first | exact soBehind_ok x y); (· first | exact rfl | (simp [RV.flat, D.sc, datI]; done)); try simp only [go_sem, hL, hlt2, List.getElem?_map, hy', Option.map_some, EntrantD.dat, hb, hm0, hpos]) | refine iB ?_ | (with_reducible refine pw_seq_drawK (id := 6) kl152 G_ok mixed (by kernel_rfl) (fun K hK => ?_)) | (with_reducible refine pw_draw (id := 6) G_ok mixed (by kernel_rfl) ?_) | (with_reducible refine pK_mk ?_ ?_ <;> (intro hc; (try simp only [go_sem, hL, hlt2, List.getElem?_map, hy', Option.map_some, EntrantD.dat, hb, hm0, hpos]); (try simp at hc); try (exfalso; omega))) | with_reducible refine And.intro (by first | omega | (unfold inI; omega)) ?_)
         all_goals first
           | (exfalso; omega)
           | exact key _ m hm hA fun y' _ h => by rw [hy] at h; cases h; exact hyx
    case key =>
      intro b m hm hA hB
      have hins := hat m (by omega) hA hB
      have hmin : min m k = m := Nat.min_eq_left hm
      have hmin2 : min m out.length = m := Nat.min_eq_left (by omega)
      have hmd : m + (k - m) = k := by omega
      have hm2 : m ≤ out.length := by omega
      have hdr : List.take (k - m) (List.drop m (List.map EntrantD.dat out)) = List.drop m (List.map EntrantD.dat out) := List.take_of_length_le (by simp; omega)
      refine pw_anyN mixed ?_
      refine anyN_take 1 rfl rfl rfl (by decide +kernel) (by decide +kernel) (by decide +kernel) (pure_move (.inl rfl)) ?_
      try simp only [go_sem, Int.toNat_zero, Nat.sub_zero, Nat.zero_add, hL, hmin, hmin2, hmd, hdr, hm, hm2, Nat.le_refl, List.length_append, List.length_take, List.length_drop, List.length_map, List.drop_zero, List.length_cons, List.length_nil, List.nil_append]
      refine anyN_take 2 rfl rfl rfl (by decide +kernel) (by decide +kernel) (by decide +kernel) (pure_move (.inl rfl)) ?_
      try simp only [go_sem, Int.toNat_zero, Nat.sub_zero, Nat.zero_add, hL, hmin, hmin2, hmd, hdr, hm, hm2, Nat.le_refl, List.length_append, List.length_take, List.length_drop, List.length_map, List.drop_zero, List.length_cons, List.length_nil, List.nil_append]
      refine anyN_take 3 rfl rfl rfl (by decide +kernel) (by decide +kernel) (by decide +kernel) (pure_slice rfl (G_ok _ _ G51) rfl rfl rfl (by omega) (by omega) (by omega) rfl) ?_
      try simp only [go_sem, Int.toNat_zero, Nat.sub_zero, Nat.zero_add, hL, hmin, hmin2, hmd, hdr, hm, hm2, Nat.le_refl, List.length_append, List.length_take, List.length_drop, List.length_map, List.drop_zero, List.length_cons, List.length_nil, List.nil_append]
      refine anyN_take 8 rfl rfl rfl (by decide +kernel) (by decide +kernel) (by decide +kernel) (pure_move (.inl rfl)) ?_
      try simp only [go_sem, Int.toNat_zero, Nat.sub_zero, Nat.zero_add, hL, hmin, hmin2, hmd, hdr, hm, hm2, Nat.le_refl, List.length_append, List.length_take, List.length_drop, List.length_map, List.drop_zero, List.length_cons, List.length_nil, List.nil_append]
      refine anyN_take 9 rfl rfl rfl (by decide +kernel) (by decide +kernel) (by decide +kernel) (pure_move (.inl rfl)) ?_
      try simp only [go_sem, Int.toNat_zero, Nat.sub_zero, Nat.zero_add, hL, hmin, hmin2, hmd, hdr, hm, hm2, Nat.le_refl, List.length_append, List.length_take, List.length_drop, List.length_map, List.drop_zero, List.length_cons, List.length_nil, List.nil_append]
      refine anyN_take 10 rfl rfl rfl (by decide +kernel) (by decide +kernel) (by decide +kernel) (pure_slice rfl (G_ok _ _ G51) rfl rfl rfl (by omega) (by omega) (by omega) rfl) ?_
      try simp only [go_sem, Int.toNat_zero, Nat.sub_zero, Nat.zero_add, hL, hmin, hmin2, hmd, hdr, hm, hm2, Nat.le_refl, List.length_append, List.length_take, List.length_drop, List.length_map, List.drop_zero, List.length_cons, List.length_nil, List.nil_append]
      have hc1 : List.take m (List.map EntrantD.dat out) ++ ([.int .i64 x.skater, .int .i64 x.rank] :: List.drop m (List.map EntrantD.dat out)) = (ordE (l.take (k + 1))).map EntrantD.dat := by rw [hsn, hins]; simp [EntrantD.dat]
      have hc2 : List.take m (List.map EntrantD.dat out) ++ [[.int .i64 x.skater, .int .i64 x.rank]] ++ List.drop m (List.map EntrantD.dat out) = (ordE (l.take (k + 1))).map EntrantD.dat := by rw [hsn, hins]; simp [EntrantD.dat]
      have hmd2 : m + 1 + (k - m) = k + 1 := by omega
      refine anyN_step G_ok [0, 5] (by decide +kernel) rfl ⟨⟨_, rfl, fun K' hK' => ?_⟩, ⟨_, rfl, fun K' hK' => ?_⟩, trivial⟩
      · (first | with_reducible refine s_none rfl ?_ | refine s_some2 rfl ?_)
        simp only [go_sem, Int.toNat_zero, Nat.sub_zero, Nat.zero_add, hL, hmin, hmin2, hmd, hdr, hm, hm2, Nat.le_refl, List.length_append, List.length_take, List.length_drop, List.length_map, List.drop_zero, List.length_cons, List.length_nil, List.nil_append]
        repeat' (first | (refine hK' _ ?_; clear hK' K'; try simp only [go_sem, Int.toNat_zero, Nat.sub_zero, Nat.zero_add, hL, hmin, hmin2, hmd, hdr, hm, hm2, Nat.le_refl, List.length_append, List.length_take, List.length_drop, List.length_map, List.drop_zero, List.length_cons, List.length_nil, List.nil_append]) | with_reducible refine And.intro (by first | omega | rfl | decide | (simp; done)) ?_)
        refine anyN_step G_ok [4, 5] (by decide +kernel) rfl ⟨⟨_, rfl, fun K' hK' => ?_⟩, ⟨_, rfl, fun K' hK' => ?_⟩, trivial⟩
        · (first | with_reducible refine s_none rfl ?_ | refine s_some2 rfl ?_)
          simp only [go_sem, Int.toNat_zero, Nat.sub_zero, Nat.zero_add, hL, hmin, hmin2, hmd, hdr, hm, hm2, Nat.le_refl, List.length_append, List.length_take, List.length_drop, List.length_map, List.drop_zero, List.length_cons, List.length_nil, List.nil_append]
          repeat' (first | (refine hK' _ ?_; clear hK' K'; try simp only [go_sem, Int.toNat_zero, Nat.sub_zero, Nat.zero_add, hL, hmin, hmin2, hmd, hdr, hm, hm2, Nat.le_refl, List.length_append, List.length_take, List.length_drop, List.length_map, List.drop_zero, List.length_cons, List.length_nil, List.nil_append]) | with_reducible refine And.intro (by first | omega | rfl | decide | (simp; done)) ?_)
          refine anyN_step G_ok [5] (by decide +kernel) rfl ⟨⟨_, rfl, fun K' hK' => ?_⟩, trivial⟩
          · (first | with_reducible refine s_none rfl ?_ | refine s_some2 rfl ?_)
            simp only [go_sem, Int.toNat_zero, Nat.sub_zero, Nat.zero_add, hL, hmin, hmin2, hmd, hdr, hm, hm2, Nat.le_refl, List.length_append, List.length_take, List.length_drop, List.length_map, List.drop_zero, List.length_cons, List.length_nil, List.nil_append]
            repeat' (first | (refine hK' _ ?_; clear hK' K'; try simp only [go_sem, Int.toNat_zero, Nat.sub_zero, Nat.zero_add, hL, hmin, hmin2, hmd, hdr, hm, hm2, Nat.le_refl, List.length_append, List.length_take, List.length_drop, List.length_map, List.drop_zero, List.length_cons, List.length_nil, List.nil_append]) | with_reducible refine And.intro (by first | omega | rfl | decide | (simp; done)) ?_)
            refine anyN_step G_ok [6] (by decide +kernel) rfl ⟨⟨_, rfl, fun K' hK' => ?_⟩, trivial⟩
            · (first | with_reducible refine s_none rfl ?_ | refine s_some2 rfl ?_)
              simp only [go_sem, Int.toNat_zero, Nat.sub_zero, Nat.zero_add, hL, hmin, hmin2, hmd, hdr, hm, hm2, Nat.le_refl, List.length_append, List.length_take, List.length_drop, List.length_map, List.drop_zero, List.length_cons, List.length_nil, List.nil_append]
              repeat' (first | (refine hK' _ ?_; clear hK' K'; try simp only [go_sem, Int.toNat_zero, Nat.sub_zero, Nat.zero_add, hL, hmin, hmin2, hmd, hdr, hm, hm2, Nat.le_refl, List.length_append, List.length_take, List.length_drop, List.length_map, List.drop_zero, List.length_cons, List.length_nil, List.nil_append]) | with_reducible refine And.intro (by first | omega | rfl | decide | (simp; done)) ?_)
              refine anyN_step G_ok [7] (by decide +kernel) rfl ⟨⟨_, rfl, fun K' hK' => ?_⟩, trivial⟩
              · (first | with_reducible refine s_none rfl ?_ | refine s_some2 rfl ?_)
                simp only [go_sem, Int.toNat_zero, Nat.sub_zero, Nat.zero_add, hL, hmin, hmin2, hmd, hdr, hm, hm2, Nat.le_refl, List.length_append, List.length_take, List.length_drop, List.length_map, List.drop_zero, List.length_cons, List.length_nil, List.nil_append]
                repeat' (first | (refine hK' _ ?_; clear hK' K'; try simp only [go_sem, Int.toNat_zero, Nat.sub_zero, Nat.zero_add, hL, hmin, hmin2, hmd, hdr, hm, hm2, Nat.le_refl, List.length_append, List.length_take, List.length_drop, List.length_map, List.drop_zero, List.length_cons, List.length_nil, List.nil_append]) | with_reducible refine And.intro (by first | omega | rfl | decide | (simp; done)) ?_)
                refine anyN_step G_ok [11] (by decide +kernel) rfl ⟨⟨_, rfl, fun K' hK' => ?_⟩, trivial⟩
                · (first | with_reducible refine s_none rfl ?_ | refine s_some2 rfl ?_)
                  simp only [go_sem, Int.toNat_zero, Nat.sub_zero, Nat.zero_add, hL, hmin, hmin2, hmd, hdr, hm, hm2, Nat.le_refl, List.length_append, List.length_take, List.length_drop, List.length_map, List.drop_zero, List.length_cons, List.length_nil, List.nil_append]
                  repeat' (first | (refine hK' _ ?_; clear hK' K'; try simp only [go_sem, Int.toNat_zero, Nat.sub_zero, Nat.zero_add, hL, hmin, hmin2, hmd, hdr, hm, hm2, Nat.le_refl, List.length_append, List.length_take, List.length_drop, List.length_map, List.drop_zero, List.length_cons, List.length_nil, List.nil_append]) | with_reducible refine And.intro (by first | omega | rfl | decide | (simp; done)) ?_)
                  refine anyN_take 12 rfl rfl rfl (by decide +kernel) (by decide +kernel) (by decide +kernel) (pure_move (.inr rfl)) ?_
                  try simp only [go_sem, Int.toNat_zero, Nat.sub_zero, Nat.zero_add, hL, hmin, hmin2, hmd, hdr, hm, hm2, Nat.le_refl, List.length_append, List.length_take, List.length_drop, List.length_map, List.drop_zero, List.length_cons, List.length_nil, List.nil_append]
                  refine anyN_done (by decide +kernel) ?_
                  try simp only [go_sem, Int.toNat_zero, Nat.sub_zero, Nat.zero_add, hL, hmin, hmin2, hmd, hdr, hm, hm2, Nat.le_refl, List.length_append, List.length_take, List.length_drop, List.length_map, List.drop_zero, List.length_cons, List.length_nil, List.nil_append]
                  repeat' (first | ((with_reducible first | (refine hK _ ?_; clear hK K) | refine stq fun K' hK' => ?_ | refine stc ?_); try simp only [go_sem, hL]) | (with_reducible first | refine stp ?_ | (refine hK' _ ?_; clear hK' K') | refine kN kl152 fun K hK => ?_ | refine kO fun K hK => ?_) | (refine xS rfl fun K' hK' => ?_; simp only [go_sem, hL]) | refine iB ?_ | (with_reducible refine pK_mk ?_ ?_ <;> (intro hc; (try simp only [go_sem, hL]); (try simp at hc); try (exfalso; omega))) | with_reducible refine And.intro (by first | omega | (unfold inI; omega)) ?_)
                  exact ⟨k + 1, by omega, by omega, (fits_mk [] (by simp [renL_d, bdL_d, sg, over, wipe, wl, memN, ins, rm, lk, fitFr, fit1, ren, renL, bd, bdL, app, fitHp, hget, renB, bdB, hc1, hc2, hmd2] <;> omega))⟩
        · (first | with_reducible refine s_none rfl ?_ | refine s_some2 rfl ?_)
          simp only [go_sem, Int.toNat_zero, Nat.sub_zero, Nat.zero_add, hL, hmin, hmin2, hmd, hdr, hm, hm2, Nat.le_refl, List.length_append, List.length_take, List.length_drop, List.length_map, List.drop_zero, List.length_cons, List.length_nil, List.nil_append]
          repeat' (first | (refine hK' _ ?_; clear hK' K'; try simp only [go_sem, Int.toNat_zero, Nat.sub_zero, Nat.zero_add, hL, hmin, hmin2, hmd, hdr, hm, hm2, Nat.le_refl, List.length_append, List.length_take, List.length_drop, List.length_map, List.drop_zero, List.length_cons, List.length_nil, List.nil_append]) | with_reducible refine And.intro (by first | omega | rfl | decide | (simp; done)) ?_)
          refine anyN_step G_ok [4, 6] (by decide +kernel) rfl ⟨⟨_, rfl, fun K' hK' => ?_⟩, ⟨_, rfl, fun K' hK' => ?_⟩, trivial⟩
          · (first | with_reducible refine s_none rfl ?_ | refine s_some2 rfl ?_)
            simp only [go_sem, Int.toNat_zero, Nat.sub_zero, Nat.zero_add, hL, hmin, hmin2, hmd, hdr, hm, hm2, Nat.le_refl, List.length_append, List.length_take, List.length_drop, List.length_map, List.drop_zero, List.length_cons, List.length_nil, List.nil_append]
            repeat' (first | (refine hK' _ ?_; clear hK' K'; try simp only [go_sem, Int.toNat_zero, Nat.sub_zero, Nat.zero_add, hL, hmin, hmin2, hmd, hdr, hm, hm2, Nat.le_refl, List.length_append, List.length_take, List.length_drop, List.length_map, List.drop_zero, List.length_cons, List.length_nil, List.nil_append]) | with_reducible refine And.intro (by first | omega | rfl | decide | (simp; done)) ?_)
            refine anyN_step G_ok [6] (by decide +kernel) rfl ⟨⟨_, rfl, fun K' hK' => ?_⟩, trivial⟩
            · (first | with_reducible refine s_none rfl ?_ | refine s_some2 rfl ?_)
              simp only [go_sem, Int.toNat_zero, Nat.sub_zero, Nat.zero_add, hL, hmin, hmin2, hmd, hdr, hm, hm2, Nat.le_refl, List.length_append, List.length_take, List.length_drop, List.length_map, List.drop_zero, List.length_cons, List.length_nil, List.nil_append]
              repeat' (first | (refine hK' _ ?_; clear hK' K'; try simp only [go_sem, Int.toNat_zero, Nat.sub_zero, Nat.zero_add, hL, hmin, hmin2, hmd, hdr, hm, hm2, Nat.le_refl, List.length_append, List.length_take, List.length_drop, List.length_map, List.drop_zero, List.length_cons, List.length_nil, List.nil_append]) | with_reducible refine And.intro (by first | omega | rfl | decide | (simp; done)) ?_)
              refine anyN_step G_ok [7] (by decide +kernel) rfl ⟨⟨_, rfl, fun K' hK' => ?_⟩, trivial⟩
              · (first | with_reducible refine s_none rfl ?_ | refine s_some2 rfl ?_)
                simp only [go_sem, Int.toNat_zero, Nat.sub_zero, Nat.zero_add, hL, hmin, hmin2, hmd, hdr, hm, hm2, Nat.le_refl, List.length_append, List.length_take, List.length_drop, List.length_map, List.drop_zero, List.length_cons, List.length_nil, List.nil_append]
                repeat' (first | (refine hK' _ ?_; clear hK' K'; try simp only [go_sem, Int.toNat_zero, Nat.sub_zero, Nat.zero_add, hL, hmin, hmin2, hmd, hdr, hm, hm2, Nat.le_refl, List.length_append, List.length_take, List.length_drop, List.length_map, List.drop_zero, List.length_cons, List.length_nil, List.nil_append]) | with_reducible refine And.intro (by first | omega | rfl | decide | (simp; done)) ?_)
                refine anyN_step G_ok [11] (by decide +kernel) rfl ⟨⟨_, rfl, fun K' hK' => ?_⟩, trivial⟩
                · (first | with_reducible refine s_none rfl ?_ | refine s_some2 rfl ?_)
                  simp only [go_sem, Int.toNat_zero, Nat.sub_zero, Nat.zero_add, hL, hmin, hmin2, hmd, hdr, hm, hm2, Nat.le_refl, List.length_append, List.length_take, List.length_drop, List.length_map, List.drop_zero, List.length_cons, List.length_nil, List.nil_append]
                  repeat' (first | (refine hK' _ ?_; clear hK' K'; try simp only [go_sem, Int.toNat_zero, Nat.sub_zero, Nat.zero_add, hL, hmin, hmin2, hmd, hdr, hm, hm2, Nat.le_refl, List.length_append, List.length_take, List.length_drop, List.length_map, List.drop_zero, List.length_cons, List.length_nil, List.nil_append]) | with_reducible refine And.intro (by first | omega | rfl | decide | (simp; done)) ?_)
                  refine anyN_take 12 rfl rfl rfl (by decide +kernel) (by decide +kernel) (by decide +kernel) (pure_move (.inr rfl)) ?_
                  try simp only [go_sem, Int.toNat_zero, Nat.sub_zero, Nat.zero_add, hL, hmin, hmin2, hmd, hdr, hm, hm2, Nat.le_refl, List.length_append, List.length_take, List.length_drop, List.length_map, List.drop_zero, List.length_cons, List.length_nil, List.nil_append]
                  refine anyN_done (by decide +kernel) ?_
                  try simp only [go_sem, Int.toNat_zero, Nat.sub_zero, Nat.zero_add, hL, hmin, hmin2, hmd, hdr, hm, hm2, Nat.le_refl, List.length_append, List.length_take, List.length_drop, List.length_map, List.drop_zero, List.length_cons, List.length_nil, List.nil_append]
                  repeat' (first | ((with_reducible first | (refine hK _ ?_; clear hK K) | refine stq fun K' hK' => ?_ | refine stc ?_); try simp only [go_sem, hL]) | (with_reducible first | refine stp ?_ | (refine hK' _ ?_; clear hK' K') | refine kN kl152 fun K hK => ?_ | refine kO fun K hK => ?_) | (refine xS rfl fun K' hK' => ?_; simp only [go_sem, hL]) | refine iB ?_ | (with_reducible refine pK_mk ?_ ?_ <;> (intro hc; (try simp only [go_sem, hL]); (try simp at hc); try (exfalso; omega))) | with_reducible refine And.intro (by first | omega | (unfold inI; omega)) ?_)
                  exact ⟨k + 1, by omega, by omega, (fits_mk [] (by simp [renL_d, bdL_d, sg, over, wipe, wl, memN, ins, rm, lk, fitFr, fit1, ren, renL, bd, bdL, app, fitHp, hget, renB, bdB, hc1, hc2, hmd2] <;> omega))⟩
          · (first | with_reducible refine s_none rfl ?_ | refine s_some2 rfl ?_)
            simp only [go_sem, Int.toNat_zero, Nat.sub_zero, Nat.zero_add, hL, hmin, hmin2, hmd, hdr, hm, hm2, Nat.le_refl, List.length_append, List.length_take, List.length_drop, List.length_map, List.drop_zero, List.length_cons, List.length_nil, List.nil_append]
            repeat' (first | (refine hK' _ ?_; clear hK' K'; try simp only [go_sem, Int.toNat_zero, Nat.sub_zero, Nat.zero_add, hL, hmin, hmin2, hmd, hdr, hm, hm2, Nat.le_refl, List.length_append, List.length_take, List.length_drop, List.length_map, List.drop_zero, List.length_cons, List.length_nil, List.nil_append]) | with_reducible refine And.intro (by first | omega | rfl | decide | (simp; done)) ?_)
            refine anyN_step G_ok [4] (by decide +kernel) rfl ⟨⟨_, rfl, fun K' hK' => ?_⟩, trivial⟩
            · (first | with_reducible refine s_none rfl ?_ | refine s_some2 rfl ?_)
              simp only [go_sem, Int.toNat_zero, Nat.sub_zero, Nat.zero_add, hL, hmin, hmin2, hmd, hdr, hm, hm2, Nat.le_refl, List.length_append, List.length_take, List.length_drop, List.length_map, List.drop_zero, List.length_cons, List.length_nil, List.nil_append]
              repeat' (first | (refine hK' _ ?_; clear hK' K'; try simp only [go_sem, Int.toNat_zero, Nat.sub_zero, Nat.zero_add, hL, hmin, hmin2, hmd, hdr, hm, hm2, Nat.le_refl, List.length_append, List.length_take, List.length_drop, List.length_map, List.drop_zero, List.length_cons, List.length_nil, List.nil_append]) | with_reducible refine And.intro (by first | omega | rfl | decide | (simp; done)) ?_)
              refine anyN_step G_ok [7] (by decide +kernel) rfl ⟨⟨_, rfl, fun K' hK' => ?_⟩, trivial⟩
              · (first | with_reducible refine s_none rfl ?_ | refine s_some2 rfl ?_)
                simp only [go_sem, Int.toNat_zero, Nat.sub_zero, Nat.zero_add, hL, hmin, hmin2, hmd, hdr, hm, hm2, Nat.le_refl, List.length_append, List.length_take, List.length_drop, List.length_map, List.drop_zero, List.length_cons, List.length_nil, List.nil_append]
                repeat' (first | (refine hK' _ ?_; clear hK' K'; try simp only [go_sem, Int.toNat_zero, Nat.sub_zero, Nat.zero_add, hL, hmin, hmin2, hmd, hdr, hm, hm2, Nat.le_refl, List.length_append, List.length_take, List.length_drop, List.length_map, List.drop_zero, List.length_cons, List.length_nil, List.nil_append]) | with_reducible refine And.intro (by first | omega | rfl | decide | (simp; done)) ?_)
                refine anyN_step G_ok [11] (by decide +kernel) rfl ⟨⟨_, rfl, fun K' hK' => ?_⟩, trivial⟩
                · (first | with_reducible refine s_none rfl ?_ | refine s_some2 rfl ?_)
                  simp only [go_sem, Int.toNat_zero, Nat.sub_zero, Nat.zero_add, hL, hmin, hmin2, hmd, hdr, hm, hm2, Nat.le_refl, List.length_append, List.length_take, List.length_drop, List.length_map, List.drop_zero, List.length_cons, List.length_nil, List.nil_append]
                  repeat' (first | (refine hK' _ ?_; clear hK' K'; try simp only [go_sem, Int.toNat_zero, Nat.sub_zero, Nat.zero_add, hL, hmin, hmin2, hmd, hdr, hm, hm2, Nat.le_refl, List.length_append, List.length_take, List.length_drop, List.length_map, List.drop_zero, List.length_cons, List.length_nil, List.nil_append]) | with_reducible refine And.intro (by first | omega | rfl | decide | (simp; done)) ?_)
                  refine anyN_take 12 rfl rfl rfl (by decide +kernel) (by decide +kernel) (by decide +kernel) (pure_move (.inr rfl)) ?_
                  try simp only [go_sem, Int.toNat_zero, Nat.sub_zero, Nat.zero_add, hL, hmin, hmin2, hmd, hdr, hm, hm2, Nat.le_refl, List.length_append, List.length_take, List.length_drop, List.length_map, List.drop_zero, List.length_cons, List.length_nil, List.nil_append]
                  refine anyN_done (by decide +kernel) ?_
                  try simp only [go_sem, Int.toNat_zero, Nat.sub_zero, Nat.zero_add, hL, hmin, hmin2, hmd, hdr, hm, hm2, Nat.le_refl, List.length_append, List.length_take, List.length_drop, List.length_map, List.drop_zero, List.length_cons, List.length_nil, List.nil_append]
                  repeat' (first | ((with_reducible first | (refine hK _ ?_; clear hK K) | refine stq fun K' hK' => ?_ | refine stc ?_); try simp only [go_sem, hL]) | (with_reducible first | refine stp ?_ | (refine hK' _ ?_; clear hK' K') | refine kN kl152 fun K hK => ?_ | refine kO fun K hK => ?_) | (refine xS rfl fun K' hK' => ?_; simp only [go_sem, hL]) | refine iB ?_ | (with_reducible refine pK_mk ?_ ?_ <;> (intro hc; (try simp only [go_sem, hL]); (try simp at hc); try (exfalso; omega))) | with_reducible refine And.intro (by first | omega | (unfold inI; omega)) ?_)
                  exact ⟨k + 1, by omega, by omega, (fits_mk [] (by simp [renL_d, bdL_d, sg, over, wipe, wl, memN, ins, rm, lk, fitFr, fit1, ren, renL, bd, bdL, app, fitHp, hget, renB, bdB, hc1, hc2, hmd2] <;> omega))⟩
      · (first | with_reducible refine s_none rfl ?_ | refine s_some2 rfl ?_)
        simp only [go_sem, Int.toNat_zero, Nat.sub_zero, Nat.zero_add, hL, hmin, hmin2, hmd, hdr, hm, hm2, Nat.le_refl, List.length_append, List.length_take, List.length_drop, List.length_map, List.drop_zero, List.length_cons, List.length_nil, List.nil_append]
        repeat' (first | (refine hK' _ ?_; clear hK' K'; try simp only [go_sem, Int.toNat_zero, Nat.sub_zero, Nat.zero_add, hL, hmin, hmin2, hmd, hdr, hm, hm2, Nat.le_refl, List.length_append, List.length_take, List.length_drop, List.length_map, List.drop_zero, List.length_cons, List.length_nil, List.nil_append]) | with_reducible refine And.intro (by first | omega | rfl | decide | (simp; done)) ?_)
        refine anyN_step G_ok [0, 6] (by decide +kernel) rfl ⟨⟨_, rfl, fun K' hK' => ?_⟩, ⟨_, rfl, fun K' hK' => ?_⟩, trivial⟩
        · (first | with_reducible refine s_none rfl ?_ | refine s_some2 rfl ?_)
          simp only [go_sem, Int.toNat_zero, Nat.sub_zero, Nat.zero_add, hL, hmin, hmin2, hmd, hdr, hm, hm2, Nat.le_refl, List.length_append, List.length_take, List.length_drop, List.length_map, List.drop_zero, List.length_cons, List.length_nil, List.nil_append]
          repeat' (first | (refine hK' _ ?_; clear hK' K'; try simp only [go_sem, Int.toNat_zero, Nat.sub_zero, Nat.zero_add, hL, hmin, hmin2, hmd, hdr, hm, hm2, Nat.le_refl, List.length_append, List.length_take, List.length_drop, List.length_map, List.drop_zero, List.length_cons, List.length_nil, List.nil_append]) | with_reducible refine And.intro (by first | omega | rfl | decide | (simp; done)) ?_)
          refine anyN_step G_ok [4, 6] (by decide +kernel) rfl ⟨⟨_, rfl, fun K' hK' => ?_⟩, ⟨_, rfl, fun K' hK' => ?_⟩, trivial⟩
          · (first | with_reducible refine s_none rfl ?_ | refine s_some2 rfl ?_)
            simp only [go_sem, Int.toNat_zero, Nat.sub_zero, Nat.zero_add, hL, hmin, hmin2, hmd, hdr, hm, hm2, Nat.le_refl, List.length_append, List.length_take, List.length_drop, List.length_map, List.drop_zero, List.length_cons, List.length_nil, List.nil_append]
            repeat' (first | (refine hK' _ ?_; clear hK' K'; try simp only [go_sem, Int.toNat_zero, Nat.sub_zero, Nat.zero_add, hL, hmin, hmin2, hmd, hdr, hm, hm2, Nat.le_refl, List.length_append, List.length_take, List.length_drop, List.length_map, List.drop_zero, List.length_cons, List.length_nil, List.nil_append]) | with_reducible refine And.intro (by first | omega | rfl | decide | (simp; done)) ?_)
            refine anyN_step G_ok [6] (by decide +kernel) rfl ⟨⟨_, rfl, fun K' hK' => ?_⟩, trivial⟩
            · (first | with_reducible refine s_none rfl ?_ | refine s_some2 rfl ?_)
              simp only [go_sem, Int.toNat_zero, Nat.sub_zero, Nat.zero_add, hL, hmin, hmin2, hmd, hdr, hm, hm2, Nat.le_refl, List.length_append, List.length_take, List.length_drop, List.length_map, List.drop_zero, List.length_cons, List.length_nil, List.nil_append]
              repeat' (first | (refine hK' _ ?_; clear hK' K'; try simp only [go_sem, Int.toNat_zero, Nat.sub_zero, Nat.zero_add, hL, hmin, hmin2, hmd, hdr, hm, hm2, Nat.le_refl, List.length_append, List.length_take, List.length_drop, List.length_map, List.drop_zero, List.length_cons, List.length_nil, List.nil_append]) | with_reducible refine And.intro (by first | omega | rfl | decide | (simp; done)) ?_)
              refine anyN_step G_ok [7] (by decide +kernel) rfl ⟨⟨_, rfl, fun K' hK' => ?_⟩, trivial⟩
              · (first | with_reducible refine s_none rfl ?_ | refine s_some2 rfl ?_)
                simp only [go_sem, Int.toNat_zero, Nat.sub_zero, Nat.zero_add, hL, hmin, hmin2, hmd, hdr, hm, hm2, Nat.le_refl, List.length_append, List.length_take, List.length_drop, List.length_map, List.drop_zero, List.length_cons, List.length_nil, List.nil_append]
                repeat' (first | (refine hK' _ ?_; clear hK' K'; try simp only [go_sem, Int.toNat_zero, Nat.sub_zero, Nat.zero_add, hL, hmin, hmin2, hmd, hdr, hm, hm2, Nat.le_refl, List.length_append, List.length_take, List.length_drop, List.length_map, List.drop_zero, List.length_cons, List.length_nil, List.nil_append]) | with_reducible refine And.intro (by first | omega | rfl | decide | (simp; done)) ?_)
                refine anyN_step G_ok [11] (by decide +kernel) rfl ⟨⟨_, rfl, fun K' hK' => ?_⟩, trivial⟩
                · (first | with_reducible refine s_none rfl ?_ | refine s_some2 rfl ?_)
                  simp only [go_sem, Int.toNat_zero, Nat.sub_zero, Nat.zero_add, hL, hmin, hmin2, hmd, hdr, hm, hm2, Nat.le_refl, List.length_append, List.length_take, List.length_drop, List.length_map, List.drop_zero, List.length_cons, List.length_nil, List.nil_append]
                  repeat' (first | (refine hK' _ ?_; clear hK' K'; try simp only [go_sem, Int.toNat_zero, Nat.sub_zero, Nat.zero_add, hL, hmin, hmin2, hmd, hdr, hm, hm2, Nat.le_refl, List.length_append, List.length_take, List.length_drop, List.length_map, List.drop_zero, List.length_cons, List.length_nil, List.nil_append]) | with_reducible refine And.intro (by first | omega | rfl | decide | (simp; done)) ?_)
                  refine anyN_take 12 rfl rfl rfl (by decide +kernel) (by decide +kernel) (by decide +kernel) (pure_move (.inr rfl)) ?_
                  try simp only [go_sem, Int.toNat_zero, Nat.sub_zero, Nat.zero_add, hL, hmin, hmin2, hmd, hdr, hm, hm2, Nat.le_refl, List.length_append, List.length_take, List.length_drop, List.length_map, List.drop_zero, List.length_cons, List.length_nil, List.nil_append]
                  refine anyN_done (by decide +kernel) ?_
                  try simp only [go_sem, Int.toNat_zero, Nat.sub_zero, Nat.zero_add, hL, hmin, hmin2, hmd, hdr, hm, hm2, Nat.le_refl, List.length_append, List.length_take, List.length_drop, List.length_map, List.drop_zero, List.length_cons, List.length_nil, List.nil_append]
                  repeat' (first | ((with_reducible first | (refine hK _ ?_; clear hK K) | refine stq fun K' hK' => ?_ | refine stc ?_); try simp only [go_sem, hL]) | (with_reducible first | refine stp ?_ | (refine hK' _ ?_; clear hK' K') | refine kN kl152 fun K hK => ?_ | refine kO fun K hK => ?_) | (refine xS rfl fun K' hK' => ?_; simp only [go_sem, hL]) | refine iB ?_ | (with_reducible refine pK_mk ?_ ?_ <;> (intro hc; (try simp only [go_sem, hL]); (try simp at hc); try (exfalso; omega))) | with_reducible refine And.intro (by first | omega | (unfold inI; omega)) ?_)
                  exact ⟨k + 1, by omega, by omega, (fits_mk [] (by simp [renL_d, bdL_d, sg, over, wipe, wl, memN, ins, rm, lk, fitFr, fit1, ren, renL, bd, bdL, app, fitHp, hget, renB, bdB, hc1, hc2, hmd2] <;> omega))⟩
          · (first | with_reducible refine s_none rfl ?_ | refine s_some2 rfl ?_)
            simp only [go_sem, Int.toNat_zero, Nat.sub_zero, Nat.zero_add, hL, hmin, hmin2, hmd, hdr, hm, hm2, Nat.le_refl, List.length_append, List.length_take, List.length_drop, List.length_map, List.drop_zero, List.length_cons, List.length_nil, List.nil_append]
            repeat' (first | (refine hK' _ ?_; clear hK' K'; try simp only [go_sem, Int.toNat_zero, Nat.sub_zero, Nat.zero_add, hL, hmin, hmin2, hmd, hdr, hm, hm2, Nat.le_refl, List.length_append, List.length_take, List.length_drop, List.length_map, List.drop_zero, List.length_cons, List.length_nil, List.nil_append]) | with_reducible refine And.intro (by first | omega | rfl | decide | (simp; done)) ?_)
            refine anyN_step G_ok [4] (by decide +kernel) rfl ⟨⟨_, rfl, fun K' hK' => ?_⟩, trivial⟩
            · (first | with_reducible refine s_none rfl ?_ | refine s_some2 rfl ?_)
              simp only [go_sem, Int.toNat_zero, Nat.sub_zero, Nat.zero_add, hL, hmin, hmin2, hmd, hdr, hm, hm2, Nat.le_refl, List.length_append, List.length_take, List.length_drop, List.length_map, List.drop_zero, List.length_cons, List.length_nil, List.nil_append]
              repeat' (first | (refine hK' _ ?_; clear hK' K'; try simp only [go_sem, Int.toNat_zero, Nat.sub_zero, Nat.zero_add, hL, hmin, hmin2, hmd, hdr, hm, hm2, Nat.le_refl, List.length_append, List.length_take, List.length_drop, List.length_map, List.drop_zero, List.length_cons, List.length_nil, List.nil_append]) | with_reducible refine And.intro (by first | omega | rfl | decide | (simp; done)) ?_)
              refine anyN_step G_ok [7] (by decide +kernel) rfl ⟨⟨_, rfl, fun K' hK' => ?_⟩, trivial⟩
              · (first | with_reducible refine s_none rfl ?_ | refine s_some2 rfl ?_)
                simp only [go_sem, Int.toNat_zero, Nat.sub_zero, Nat.zero_add, hL, hmin, hmin2, hmd, hdr, hm, hm2, Nat.le_refl, List.length_append, List.length_take, List.length_drop, List.length_map, List.drop_zero, List.length_cons, List.length_nil, List.nil_append]
                repeat' (first | (refine hK' _ ?_; clear hK' K'; try simp only [go_sem, Int.toNat_zero, Nat.sub_zero, Nat.zero_add, hL, hmin, hmin2, hmd, hdr, hm, hm2, Nat.le_refl, List.length_append, List.length_take, List.length_drop, List.length_map, List.drop_zero, List.length_cons, List.length_nil, List.nil_append]) | with_reducible refine And.intro (by first | omega | rfl | decide | (simp; done)) ?_)
                refine anyN_step G_ok [11] (by decide +kernel) rfl ⟨⟨_, rfl, fun K' hK' => ?_⟩, trivial⟩
                · (first | with_reducible refine s_none rfl ?_ | refine s_some2 rfl ?_)
                  simp only [go_sem, Int.toNat_zero, Nat.sub_zero, Nat.zero_add, hL, hmin, hmin2, hmd, hdr, hm, hm2, Nat.le_refl, List.length_append, List.length_take, List.length_drop, List.length_map, List.drop_zero, List.length_cons, List.length_nil, List.nil_append]
                  repeat' (first | (refine hK' _ ?_; clear hK' K'; try simp only [go_sem, Int.toNat_zero, Nat.sub_zero, Nat.zero_add, hL, hmin, hmin2, hmd, hdr, hm, hm2, Nat.le_refl, List.length_append, List.length_take, List.length_drop, List.length_map, List.drop_zero, List.length_cons, List.length_nil, List.nil_append]) | with_reducible refine And.intro (by first | omega | rfl | decide | (simp; done)) ?_)
                  refine anyN_take 12 rfl rfl rfl (by decide +kernel) (by decide +kernel) (by decide +kernel) (pure_move (.inr rfl)) ?_
                  try simp only [go_sem, Int.toNat_zero, Nat.sub_zero, Nat.zero_add, hL, hmin, hmin2, hmd, hdr, hm, hm2, Nat.le_refl, List.length_append, List.length_take, List.length_drop, List.length_map, List.drop_zero, List.length_cons, List.length_nil, List.nil_append]
                  refine anyN_done (by decide +kernel) ?_
                  try simp only [go_sem, Int.toNat_zero, Nat.sub_zero, Nat.zero_add, hL, hmin, hmin2, hmd, hdr, hm, hm2, Nat.le_refl, List.length_append, List.length_take, List.length_drop, List.length_map, List.drop_zero, List.length_cons, List.length_nil, List.nil_append]
                  repeat' (first | ((with_reducible first | (refine hK _ ?_; clear hK K) | refine stq fun K' hK' => ?_ | refine stc ?_); try simp only [go_sem, hL]) | (with_reducible first | refine stp ?_ | (refine hK' _ ?_; clear hK' K') | refine kN kl152 fun K hK => ?_ | refine kO fun K hK => ?_) | (refine xS rfl fun K' hK' => ?_; simp only [go_sem, hL]) | refine iB ?_ | (with_reducible refine pK_mk ?_ ?_ <;> (intro hc; (try simp only [go_sem, hL]); (try simp at hc); try (exfalso; omega))) | with_reducible refine And.intro (by first | omega | (unfold inI; omega)) ?_)
                  exact ⟨k + 1, by omega, by omega, (fits_mk [] (by simp [renL_d, bdL_d, sg, over, wipe, wl, memN, ins, rm, lk, fitFr, fit1, ren, renL, bd, bdL, app, fitHp, hget, renB, bdB, hc1, hc2, hmd2] <;> omega))⟩
        · (first | with_reducible refine s_none rfl ?_ | refine s_some2 rfl ?_)
          simp only [go_sem, Int.toNat_zero, Nat.sub_zero, Nat.zero_add, hL, hmin, hmin2, hmd, hdr, hm, hm2, Nat.le_refl, List.length_append, List.length_take, List.length_drop, List.length_map, List.drop_zero, List.length_cons, List.length_nil, List.nil_append]
          repeat' (first | (refine hK' _ ?_; clear hK' K'; try simp only [go_sem, Int.toNat_zero, Nat.sub_zero, Nat.zero_add, hL, hmin, hmin2, hmd, hdr, hm, hm2, Nat.le_refl, List.length_append, List.length_take, List.length_drop, List.length_map, List.drop_zero, List.length_cons, List.length_nil, List.nil_append]) | with_reducible refine And.intro (by first | omega | rfl | decide | (simp; done)) ?_)
          refine anyN_step G_ok [0] (by decide +kernel) rfl ⟨⟨_, rfl, fun K' hK' => ?_⟩, trivial⟩
          · (first | with_reducible refine s_none rfl ?_ | refine s_some2 rfl ?_)
            simp only [go_sem, Int.toNat_zero, Nat.sub_zero, Nat.zero_add, hL, hmin, hmin2, hmd, hdr, hm, hm2, Nat.le_refl, List.length_append, List.length_take, List.length_drop, List.length_map, List.drop_zero, List.length_cons, List.length_nil, List.nil_append]
            repeat' (first | (refine hK' _ ?_; clear hK' K'; try simp only [go_sem, Int.toNat_zero, Nat.sub_zero, Nat.zero_add, hL, hmin, hmin2, hmd, hdr, hm, hm2, Nat.le_refl, List.length_append, List.length_take, List.length_drop, List.length_map, List.drop_zero, List.length_cons, List.length_nil, List.nil_append]) | with_reducible refine And.intro (by first | omega | rfl | decide | (simp; done)) ?_)
            refine anyN_step G_ok [4] (by decide +kernel) rfl ⟨⟨_, rfl, fun K' hK' => ?_⟩, trivial⟩
            · (first | with_reducible refine s_none rfl ?_ | refine s_some2 rfl ?_)
              simp only [go_sem, Int.toNat_zero, Nat.sub_zero, Nat.zero_add, hL, hmin, hmin2, hmd, hdr, hm, hm2, Nat.le_refl, List.length_append, List.length_take, List.length_drop, List.length_map, List.drop_zero, List.length_cons, List.length_nil, List.nil_append]
              repeat' (first | (refine hK' _ ?_; clear hK' K'; try simp only [go_sem, Int.toNat_zero, Nat.sub_zero, Nat.zero_add, hL, hmin, hmin2, hmd, hdr, hm, hm2, Nat.le_refl, List.length_append, List.length_take, List.length_drop, List.length_map, List.drop_zero, List.length_cons, List.length_nil, List.nil_append]) | with_reducible refine And.intro (by first | omega | rfl | decide | (simp; done)) ?_)
              refine anyN_step G_ok [7] (by decide +kernel) rfl ⟨⟨_, rfl, fun K' hK' => ?_⟩, trivial⟩
              · (first | with_reducible refine s_none rfl ?_ | refine s_some2 rfl ?_)
                simp only [go_sem, Int.toNat_zero, Nat.sub_zero, Nat.zero_add, hL, hmin, hmin2, hmd, hdr, hm, hm2, Nat.le_refl, List.length_append, List.length_take, List.length_drop, List.length_map, List.drop_zero, List.length_cons, List.length_nil, List.nil_append]
                repeat' (first | (refine hK' _ ?_; clear hK' K'; try simp only [go_sem, Int.toNat_zero, Nat.sub_zero, Nat.zero_add, hL, hmin, hmin2, hmd, hdr, hm, hm2, Nat.le_refl, List.length_append, List.length_take, List.length_drop, List.length_map, List.drop_zero, List.length_cons, List.length_nil, List.nil_append]) | with_reducible refine And.intro (by first | omega | rfl | decide | (simp; done)) ?_)
                refine anyN_step G_ok [11] (by decide +kernel) rfl ⟨⟨_, rfl, fun K' hK' => ?_⟩, trivial⟩
                · (first | with_reducible refine s_none rfl ?_ | refine s_some2 rfl ?_)
                  simp only [go_sem, Int.toNat_zero, Nat.sub_zero, Nat.zero_add, hL, hmin, hmin2, hmd, hdr, hm, hm2, Nat.le_refl, List.length_append, List.length_take, List.length_drop, List.length_map, List.drop_zero, List.length_cons, List.length_nil, List.nil_append]
                  repeat' (first | (refine hK' _ ?_; clear hK' K'; try simp only [go_sem, Int.toNat_zero, Nat.sub_zero, Nat.zero_add, hL, hmin, hmin2, hmd, hdr, hm, hm2, Nat.le_refl, List.length_append, List.length_take, List.length_drop, List.length_map, List.drop_zero, List.length_cons, List.length_nil, List.nil_append]) | with_reducible refine And.intro (by first | omega | rfl | decide | (simp; done)) ?_)
                  refine anyN_take 12 rfl rfl rfl (by decide +kernel) (by decide +kernel) (by decide +kernel) (pure_move (.inr rfl)) ?_
                  try simp only [go_sem, Int.toNat_zero, Nat.sub_zero, Nat.zero_add, hL, hmin, hmin2, hmd, hdr, hm, hm2, Nat.le_refl, List.length_append, List.length_take, List.length_drop, List.length_map, List.drop_zero, List.length_cons, List.length_nil, List.nil_append]
                  refine anyN_done (by decide +kernel) ?_
                  try simp only [go_sem, Int.toNat_zero, Nat.sub_zero, Nat.zero_add, hL, hmin, hmin2, hmd, hdr, hm, hm2, Nat.le_refl, List.length_append, List.length_take, List.length_drop, List.length_map, List.drop_zero, List.length_cons, List.length_nil, List.nil_append]
                  repeat' (first | ((with_reducible first | (refine hK _ ?_; clear hK K) | refine stq fun K' hK' => ?_ | refine stc ?_); try simp only [go_sem, hL]) | (with_reducible first | refine stp ?_ | (refine hK' _ ?_; clear hK' K') | refine kN kl152 fun K hK => ?_ | refine kO fun K hK => ?_) | (refine xS rfl fun K' hK' => ?_; simp only [go_sem, hL]) | refine iB ?_ | (with_reducible refine pK_mk ?_ ?_ <;> (intro hc; (try simp only [go_sem, hL]); (try simp at hc); try (exfalso; omega))) | with_reducible refine And.intro (by first | omega | (unfold inI; omega)) ?_)
                  exact ⟨k + 1, by omega, by omega, (fits_mk [] (by simp [renL_d, bdL_d, sg, over, wipe, wl, memN, ins, rm, lk, fitFr, fit1, ren, renL, bd, bdL, app, fitHp, hget, renB, bdB, hc1, hc2, hmd2] <;> omega))⟩
  · obtain rfl : k = l.length := by omega
    rw [List.take_length] at hL ⊢
    repeat' (first | ((with_reducible first | (refine hK _ ?_; clear hK K) | refine stq fun K' hK' => ?_ | refine stc ?_); try simp only [go_sem]) | (with_reducible first | refine stp ?_ | (refine hK' _ ?_; clear hK' K') | refine kN kl152 fun K hK => ?_ | refine kO fun K hK => ?_) | (refine xS rfl fun K' hK' => ?_; simp only [go_sem]) | (refine qS rfl fun K' hK' => ?_; simp only [go_sem]) | refine iB ?_ | (with_reducible refine pw_seq_drawK kl152 G_ok mixed (by kernel_rfl) (fun K hK => ?_)) | (with_reducible refine pw_draw G_ok mixed (by kernel_rfl) ?_) | (with_reducible refine pK_mk ?_ ?_ <;> (intro hc; (try simp only [go_sem]); (try simp at hc); try (exfalso; omega))) | with_reducible refine And.intro (by first | omega | (unfold inI; omega)) ?_)
    refine retQ_ret rfl (by simp only [hL, retL, ret1, hget, lk, List.length_map, List.length_nil, List.length_append, List.length_take, if_true, if_false, Nat.reduceEqDiff, Nat.reduceBEq, Bool.false_eq_true, Option.some.injEq]; rfl) (by simp [rowsOf, lk]) ?_; rfl
end Go.Proofs.YthocihmhljmgdaaGreatDoor
