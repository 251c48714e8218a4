/-
  Two of an order exchanged: the program's ExchangeStarts and the reference's, in the abstract machine.
-/
import Derived.Test.YtkncdoodlggbcaaGreatGs
import Derived.Test.YtkncdoodlggbcaaGreatTk
set_option linter.unusedSimpArgs false
set_option linter.unusedVariables false
set_option maxHeartbeats 2000000
set_option maxRecDepth 100000
namespace Go.Proofs.YtkncdoodlggbcaaGreat
open Go.RowKit

section
variable {P : Program} {o : Oper} {s : AS}
theorem pure_sub {t t' : TypeId} {x y : Operand} {a b : Int} (ho : o.op = .binOp .sub t x y t') (hx : s.get x = .d (.int .i64 a)) (hy : s.get y = .d (.int .i64 b)) (hi : inI (a - b)) : PureAt P o s (.d (.int .i64 (a - b))) := fun m X w ac hq => by
  have h1 := hq x
  have h2 := hq y
  rw [hx] at h1
  rw [hy] at h2
  refine ⟨.int .i64 (a - b), fun u => ?_, .d _ _ (.int _ _)⟩
  have hw := wrapI hi
  have hr' : (eqGuard .sub t x y (.int .i64 a) (.int .i64 b) >>= fun _ => binOp .sub t (.int .i64 a) (.int .i64 b)).run P u = .ok (.int .i64 (a - b)) u := by
    simp [go_sem, hw]
  simp only [execOp, ho, h1.int, h2.int, Sem.run_bind] at hr' ⊢
  simp only [hr', Result.andThen_ok, Sem.run_pure]
theorem pure_index {t : TypeId} {x i : Operand} {e : TypeId} {sz bytes : Nat} {z : List D} {k : IntKind} {n : Int} {y : PV} (ho : o.op = .indexAddr t x i) (ht : tiB P t (.slc e sz bytes z) = true) (hi : s.get i = .d (.int k n)) (h0 : 0 ≤ n) (hx : idxP sz n.toNat (s.get x) = some y) : PureAt P o s y := fun m X w a hq => by
  obtain ⟨b, off, len, c, h1, h2, h3⟩ := idxP_R hx (hq x)
  have h4 := hq i
  rw [hi] at h4
  obtain ⟨h5, ⟨inf, v, h6, h7, _⟩, _⟩ := tiB_slc ht
  refine ⟨_, fun u => ?_, h3⟩
  have hb : 0 ≤ n ∧ n < (len : Int) := ⟨h0, by omega⟩
  simp [execOp, ho, h1, h4.int, Instr.indexAt, run_underlying h5, asIntOf, hb, run_size h6, h7, Addr.add_lit]
end
def exD (o : List Int) (i j : Nat) : List Int := (o.set i (o.getD j 0)).set j (o.getD i 0)
theorem exD_len (o : List Int) (i j : Nat) : (exD o i j).length = o.length := by simp [exD]
theorem exD_perm {o : List Int} {i j : Nat} (hi : i < o.length) (hj : j < o.length) : (exD o i j).Perm o := by
  unfold exD
  rw [show o.getD j 0 = o[j] by simp [List.getD, List.getElem?_eq_getElem hj], show o.getD i 0 = o[i] by simp [List.getD, List.getElem?_eq_getElem hi]]
  exact List.set_set_perm hi hj
theorem exD_ne {o : List Int} {i j : Nat} (hi : i < o.length) (hj : j < o.length) (h : o.Pairwise (· ≠ ·)) : (exD o i j).Pairwise (· ≠ ·) := (exD_perm hi hj).symm.pairwise h (fun h => Ne.symm h)
def ExAt (o : List Int) (a b : Int) : Prop := (1 ≤ a ∧ a ≤ o.length) ∧ 1 ≤ b ∧ b ≤ o.length
def ExOk (l : List EntrantD) (s : Int) (o : List Int) (a b : Int) : Prop := IsFit l s o ∧ ExAt o a b ∧ FitOk (gsE l s) (exD o (a - 1).toNat (b - 1).toNat)
noncomputable abbrev ansExchangeStarts (l : List EntrantD) (s : Int) (o : List Int) (a b : Int) : Option (List Int) := optP (ExOk l s o a b) (exD o (a - 1).toNat (b - 1).toNat)
theorem exat {o : List Int} {a b : Int} (h : ExAt o a b) : ∃ i j : Nat, a = (i : Int) + 1 ∧ b = (j : Int) + 1 ∧ i < o.length ∧ j < o.length ∧ (a - 1).toNat = i ∧ (b - 1).toNat = j := by
  obtain ⟨⟨h1, h2⟩, h3, h4⟩ := h
  exact ⟨(a - 1).toNat, (b - 1).toNat, by omega, by omega, by omega, by omega, rfl, rfl⟩
theorem fit_nil {o : List Int} (h : 0 < o.length) : ¬ FitOk [] o := fun h' => by
  have h2 := h'.2
  rw [show offG [] ([] : List (List Int)).length = 0 from rfl, List.drop_zero] at h2
  rw [h2] at h
  exact absurd h (by decide)
theorem impl_ExchangeStarts_ok (l : List EntrantD) (s : Int) (o : List Int) (a b : Int) (hn : l.length ≤ 1048576) (ho : o.length ≤ 1048576) : FnEq Tryz.prog 17 [.d (.lst 2 (l.map EntrantD.dat)), .d (.int .i64 s), .d (.lst 1 (o.map datI)), .d (.int .i64 a), .d (.int .i64 b)] [.row 3 1 (((ansExchangeStarts l s o a b).getD []).map datI), .d (.bool (ansExchangeStarts l s o a b).isSome)] := by
  refine fn_ok G_ok Tryz.func17 rfl rfl ?_; simp only [Tryz.ntmps17, List.length_cons, List.length_nil, Nat.reduceAdd, Nat.reduceSub, enm]
  by_cases hO : OrdOk o
  · have h2 := bP_true hO
    by_cases hx : ExAt o a b
    · obtain ⟨i, j, ea, eb, hi, hj, ei, ej⟩ := exat hx
      by_cases hv : RgOk l s ∧ 0 < l.length
      · have himpl := impl_RankGroups_yes l s hn hv.2 hv.1
        have hm8 := hv.1.2.2.2
        have hgk := grpE_bd hv.1.1 (many l s.toNat)
        have hgs := grpE_sorted l (many l s.toNat)
        have hgl := grpE_len l (many l s.toNat)
        have hgg : gsE l s = grpE l (many l s.toNat) := rfl
        generalize grpE l (many l s.toNat) = g at himpl hgk hgs hgl hgg
        have hyes : FitOk g o → FitOk g (exD o i j) → ansExchangeStarts l s o a b = some (exD o i j) := fun h3 h4 => by
          have e : ansExchangeStarts l s o a b = some (exD o (a - 1).toNat (b - 1).toNat) := optP_pos ⟨⟨⟨hv.1, hO⟩, by rw [hgg]; exact h3⟩, hx, by rw [hgg, ei, ej]; exact h4⟩
          rw [e, ei, ej]
        have hno : ¬ (FitOk g o ∧ FitOk g (exD o i j)) → ansExchangeStarts l s o a b = none := fun h => optP_neg fun h' => h ⟨by rw [← hgg]; exact h'.1.2, by rw [← hgg, ← ei, ← ej]; exact h'.2.2⟩
        generalize ansExchangeStarts l s o a b = ans at hyes hno
        subst ea eb
        have hxi := List.getElem?_eq_getElem hi
        have hxj := List.getElem?_eq_getElem hj
        generalize o[i] = x at hxi
        generalize o[j] = y at hxj
        have hse : ((o.map datI).set i [.int .i64 y]).set j [.int .i64 x] = (exD o i j).map datI := by unfold exD; simp [List.getD, hxi, hxj, List.map_set, datI]
        obtain ⟨z, hsj⟩ : ∃ z, ((o.map datI).set i [.int .i64 y])[j]? = some [.int .i64 z] := ⟨(o.set i y)[j]'(by simp; omega), by rw [show (o.map datI).set i [.int .i64 y] = (o.set i y).map datI by rw [List.map_set]; rfl, List.getElem?_map, List.getElem?_eq_getElem (by simp; omega)]; rfl⟩
        have hel := exD_len o i j
        have hed := exD_ne hi hj (ord_ne hO)
        generalize exD o i j = e at hyes hno hse hel hed
        repeat' (first | (with_reducible refine execL_step (fun K' hK' => ?_); (first | with_reducible refine s_none rfl ?_ | refine s_some2 rfl ?_); simp only [go_sem, h2]) | (with_reducible refine hK' _ ?_; clear hK' K') | with_reducible refine execL_nil ?_ | (with_reducible refine hK _ ?_; clear hK K; try simp only [go_sem, h2]) | with_reducible refine pw_seq_opsK kl17 G_ok (fun K hK => ?_) | (with_reducible refine CallK.eq (himpl) ?_ ?_; (focus (simp [RV.flat, D.sc, datI]; done)); try simp only [go_sem, h2]) | (with_reducible refine CallK.eq (isOrder_ok o ho) ?_ ?_; (focus (simp [RV.flat, D.sc, datI]; done)); try simp only [go_sem, h2]) | (with_reducible refine CallK.eq (within_ok _ _ _) ?_ ?_; (focus (simp [RV.flat, D.sc, datI]; done)); try simp only [go_sem, h2]) | (with_reducible refine CallK.eq (copyInts_ok o ho) ?_ ?_; (focus (simp [RV.flat, D.sc, datI]; done)); try simp only [go_sem, h2]) | with_reducible (first | refine pw_seq (x := .seq _ _) ?_ | refine thenA_normal ?_ | refine thenA_exit ?_ | refine thenA_ret ?_ | refine inBlockA_same ?_ | refine inBlockA_ret ?_ | refine inBlockA_normal ?_) | refine inBlockA_other (by decide) ?_ | with_reducible (first | refine pw_seq (pw_block ?_) | refine pw_seq (pw_skip (thenA_normal ?_)) | refine pw_skip ?_ | refine pw_exit ?_ | refine pw_ret ?_ | refine pw_ops G_ok (fun K hK => ?_)) | with_reducible refine pw_block ?_ | (with_reducible refine pK_mk (fun hc => ?_) (fun hc => ?_) <;> (try simp only [go_sem, h2]) <;> (try simp at hc) <;> (try (exfalso; omega))) | ((first | refine pw_seq (pw_cond rfl (fun hc => ?_) (fun hc => ?_)) | refine pw_cond rfl (fun hc => ?_) (fun hc => ?_)) <;> (try simp at hc) <;> (try (exfalso; omega))) | with_reducible refine And.intro (by first | omega | (unfold inI; omega) | exact andI_inI _) ?_)
        all_goals first
          | (exfalso; omega)
          | skip
        refine pw_seq_anyN kl17 mixed ?_
        refine anyN_take 0 rfl rfl rfl (by decide +kernel) (by decide +kernel) (by decide +kernel) (pure_move (.inl rfl)) ?_
        try simp only [go_sem, Int.toNat_zero, Nat.sub_zero, Nat.zero_add, Int.add_sub_cancel, Int.toNat_natCast, Nat.mul_one, List.length_map]
        refine anyN_take 1 rfl rfl rfl (by decide +kernel) (by decide +kernel) (by decide +kernel) (pure_move (.inl rfl)) ?_
        try simp only [go_sem, Int.toNat_zero, Nat.sub_zero, Nat.zero_add, Int.add_sub_cancel, Int.toNat_natCast, Nat.mul_one, List.length_map]
        refine anyN_take 2 rfl rfl rfl (by decide +kernel) (by decide +kernel) (by decide +kernel) (pure_sub rfl rfl rfl (by unfold inI; omega)) ?_
        try simp only [go_sem, Int.toNat_zero, Nat.sub_zero, Nat.zero_add, Int.add_sub_cancel, Int.toNat_natCast, Nat.mul_one, List.length_map]
        refine anyN_take 3 rfl rfl rfl (by decide +kernel) (by decide +kernel) (by decide +kernel) (pure_move (.inl rfl)) ?_
        try simp only [go_sem, Int.toNat_zero, Nat.sub_zero, Nat.zero_add, Int.add_sub_cancel, Int.toNat_natCast, Nat.mul_one, List.length_map]
        refine anyN_take 4 rfl rfl rfl (by decide +kernel) (by decide +kernel) (by decide +kernel) (pure_move (.inl rfl)) ?_
        try simp only [go_sem, Int.toNat_zero, Nat.sub_zero, Nat.zero_add, Int.add_sub_cancel, Int.toNat_natCast, Nat.mul_one, List.length_map]
        refine anyN_take 5 rfl rfl rfl (by decide +kernel) (by decide +kernel) (by decide +kernel) (pure_sub rfl rfl rfl (by unfold inI; omega)) ?_
        try simp only [go_sem, Int.toNat_zero, Nat.sub_zero, Nat.zero_add, Int.add_sub_cancel, Int.toNat_natCast, Nat.mul_one, List.length_map]
        refine anyN_take 6 rfl rfl rfl (by decide +kernel) (by decide +kernel) (by decide +kernel) (pure_move (.inl rfl)) ?_
        try simp only [go_sem, Int.toNat_zero, Nat.sub_zero, Nat.zero_add, Int.add_sub_cancel, Int.toNat_natCast, Nat.mul_one, List.length_map]
        refine anyN_take 7 rfl rfl rfl (by decide +kernel) (by decide +kernel) (by decide +kernel) (pure_move (.inl rfl)) ?_
        try simp only [go_sem, Int.toNat_zero, Nat.sub_zero, Nat.zero_add, Int.add_sub_cancel, Int.toNat_natCast, Nat.mul_one, List.length_map]
        refine anyN_take 8 rfl rfl rfl (by decide +kernel) (by decide +kernel) (by decide +kernel) (pure_sub rfl rfl rfl (by unfold inI; omega)) ?_
        try simp only [go_sem, Int.toNat_zero, Nat.sub_zero, Nat.zero_add, Int.add_sub_cancel, Int.toNat_natCast, Nat.mul_one, List.length_map]
        refine anyN_take 11 rfl rfl rfl (by decide +kernel) (by decide +kernel) (by decide +kernel) (pure_move (.inl rfl)) ?_
        try simp only [go_sem, Int.toNat_zero, Nat.sub_zero, Nat.zero_add, Int.add_sub_cancel, Int.toNat_natCast, Nat.mul_one, List.length_map]
        refine anyN_take 12 rfl rfl rfl (by decide +kernel) (by decide +kernel) (by decide +kernel) (pure_move (.inl rfl)) ?_
        try simp only [go_sem, Int.toNat_zero, Nat.sub_zero, Nat.zero_add, Int.add_sub_cancel, Int.toNat_natCast, Nat.mul_one, List.length_map]
        refine anyN_take 13 rfl rfl rfl (by decide +kernel) (by decide +kernel) (by decide +kernel) (pure_sub rfl rfl rfl (by unfold inI; omega)) ?_
        try simp only [go_sem, Int.toNat_zero, Nat.sub_zero, Nat.zero_add, Int.add_sub_cancel, Int.toNat_natCast, Nat.mul_one, List.length_map]
        refine anyN_take 9 rfl rfl rfl (by decide +kernel) (by decide +kernel) (by decide +kernel) (pure_index rfl (G_ok _ _ G24) rfl (by omega) (if_pos (by omega))) ?_
        try simp only [go_sem, Int.toNat_zero, Nat.sub_zero, Nat.zero_add, Int.add_sub_cancel, Int.toNat_natCast, Nat.mul_one, List.length_map]
        refine anyN_take 14 rfl rfl rfl (by decide +kernel) (by decide +kernel) (by decide +kernel) (pure_index rfl (G_ok _ _ G24) rfl (by omega) (if_pos (by omega))) ?_
        try simp only [go_sem, Int.toNat_zero, Nat.sub_zero, Nat.zero_add, Int.add_sub_cancel, Int.toNat_natCast, Nat.mul_one, List.length_map]
        refine anyN_step G_ok [10, 15] (by decide +kernel) rfl ⟨⟨_, rfl, fun K' hK' => ?_⟩, ⟨_, rfl, fun K' hK' => ?_⟩, trivial⟩
        · (first | with_reducible refine s_none rfl ?_ | refine s_some2 rfl ?_)
          simp only [go_sem, Int.toNat_zero, Nat.sub_zero, Nat.zero_add, Int.add_sub_cancel, Int.toNat_natCast, Nat.mul_one, List.length_map, hsj, List.getElem?_map, hxi, hxj, Option.map_some, datI]
          refine hK' _ ?_
          clear hK' K'
          try simp only [go_sem, Int.toNat_zero, Nat.sub_zero, Nat.zero_add, Int.add_sub_cancel, Int.toNat_natCast, Nat.mul_one, List.length_map, hsj, List.getElem?_map, hxi, hxj, Option.map_some, datI]
          refine anyN_step G_ok [15] (by decide +kernel) rfl ⟨⟨_, rfl, fun K' hK' => ?_⟩, trivial⟩
          · (first | with_reducible refine s_none rfl ?_ | refine s_some2 rfl ?_)
            simp only [go_sem, Int.toNat_zero, Nat.sub_zero, Nat.zero_add, Int.add_sub_cancel, Int.toNat_natCast, Nat.mul_one, List.length_map, hsj, List.getElem?_map, hxi, hxj, Option.map_some, datI]
            refine hK' _ ?_
            clear hK' K'
            try simp only [go_sem, Int.toNat_zero, Nat.sub_zero, Nat.zero_add, Int.add_sub_cancel, Int.toNat_natCast, Nat.mul_one, List.length_map, hsj, List.getElem?_map, hxi, hxj, Option.map_some, datI]
            refine anyN_take 16 rfl rfl rfl (by decide +kernel) (by decide +kernel) (by decide +kernel) (pure_index rfl (G_ok _ _ G24) rfl (by omega) (if_pos (by omega))) ?_
            try simp only [go_sem, Int.toNat_zero, Nat.sub_zero, Nat.zero_add, Int.add_sub_cancel, Int.toNat_natCast, Nat.mul_one, List.length_map]
            refine anyN_step G_ok [17] (by decide +kernel) rfl ⟨⟨_, rfl, fun K' hK' => ?_⟩, trivial⟩
            · (first | with_reducible refine s_none rfl ?_ | refine s_some2 rfl ?_)
              simp only [go_sem, Int.toNat_zero, Nat.sub_zero, Nat.zero_add, Int.add_sub_cancel, Int.toNat_natCast, Nat.mul_one, List.length_map, hsj, List.getElem?_map, hxi, hxj, Option.map_some, datI]
              refine hK' _ ?_
              clear hK' K'
              try simp only [go_sem, Int.toNat_zero, Nat.sub_zero, Nat.zero_add, Int.add_sub_cancel, Int.toNat_natCast, Nat.mul_one, List.length_map, hsj, List.getElem?_map, hxi, hxj, Option.map_some, datI]
              refine anyN_take 18 rfl rfl rfl (by decide +kernel) (by decide +kernel) (by decide +kernel) (pure_index rfl (G_ok _ _ G24) rfl (by omega) (if_pos (by omega))) ?_
              try simp only [go_sem, Int.toNat_zero, Nat.sub_zero, Nat.zero_add, Int.add_sub_cancel, Int.toNat_natCast, Nat.mul_one, List.length_map]
              refine anyN_step G_ok [19] (by decide +kernel) rfl ⟨⟨_, rfl, fun K' hK' => ?_⟩, trivial⟩
              · (first | with_reducible refine s_none rfl ?_ | refine s_some2 rfl ?_)
                simp only [go_sem, Int.toNat_zero, Nat.sub_zero, Nat.zero_add, Int.add_sub_cancel, Int.toNat_natCast, Nat.mul_one, List.length_map, hsj, List.getElem?_map, hxi, hxj, Option.map_some, datI]
                refine hK' _ ?_
                clear hK' K'
                try simp only [go_sem, Int.toNat_zero, Nat.sub_zero, Nat.zero_add, Int.add_sub_cancel, Int.toNat_natCast, Nat.mul_one, List.length_map, hsj, List.getElem?_map, hxi, hxj, Option.map_some, datI]
                refine anyN_done (by decide +kernel) ?_
                simp only [go_sem, Int.toNat_zero, Nat.sub_zero, Nat.zero_add, Int.add_sub_cancel, Int.toNat_natCast, Nat.mul_one, List.length_map, hsj, List.getElem?_map, hxi, hxj, Option.map_some, datI, hse]
                by_cases hf1 : FitOk g o
                · have hb1 := bP_true hf1
                  by_cases hf2 : FitOk g e
                  · have hb2 := bP_true hf2
                    have hans := hyes hf1 hf2
                    repeat' (first | (with_reducible refine execL_step (fun K' hK' => ?_); (first | with_reducible refine s_none rfl ?_ | refine s_some2 rfl ?_); simp only [go_sem, hb1, hb2, hel]) | (with_reducible refine hK' _ ?_; clear hK' K') | with_reducible refine execL_nil ?_ | (with_reducible refine hK _ ?_; clear hK K; try simp only [go_sem, hb1, hb2, hel]) | with_reducible refine pw_seq_opsK kl17 G_ok (fun K hK => ?_) | (with_reducible refine CallK.eq (isStartOrder_ok g o (by omega) ho (fun c hc => Nat.le_trans (hgk c hc) (by decide)) hgs (ord_ne hO)) ?_ ?_; (focus (simp [RV.flat, D.sc, datI]; done)); try simp only [go_sem, hb1, hb2, hel]) | (with_reducible refine CallK.eq (isStartOrder_ok g e (by omega) (by omega) (fun c hc => Nat.le_trans (hgk c hc) (by decide)) hgs hed) ?_ ?_; (focus (simp [RV.flat, D.sc, datI]; done)); try simp only [go_sem, hb1, hb2, hel]) | with_reducible (first | refine pw_seq (x := .seq _ _) ?_ | refine thenA_normal ?_ | refine thenA_exit ?_ | refine thenA_ret ?_ | refine inBlockA_same ?_ | refine inBlockA_ret ?_ | refine inBlockA_normal ?_) | refine inBlockA_other (by decide) ?_ | with_reducible (first | refine pw_seq (pw_block ?_) | refine pw_seq (pw_skip (thenA_normal ?_)) | refine pw_skip ?_ | refine pw_exit ?_ | refine pw_ret ?_ | refine pw_ops G_ok (fun K hK => ?_)) | with_reducible refine pw_block ?_ | (with_reducible refine pK_mk (fun hc => ?_) (fun hc => ?_) <;> (try simp only [go_sem, hb1, hb2, hel]) <;> (try simp at hc) <;> (try (exfalso; omega))) | ((first | refine pw_seq (pw_cond rfl (fun hc => ?_) (fun hc => ?_)) | refine pw_cond rfl (fun hc => ?_) (fun hc => ?_)) <;> (try simp at hc) <;> (try (exfalso; omega))) | with_reducible refine And.intro (by first | omega | (unfold inI; omega) | exact andI_inI _) ?_)
                    all_goals first
                      | (exfalso; omega)
                      | (refine retQ_ret rfl (by simp only [hel, List.length_map, retL, ret1, hget, lk, List.length_map, List.length_nil, List.length_append, List.length_take, if_true, if_false, Nat.reduceEqDiff, Nat.reduceBEq, Bool.false_eq_true, Option.some.injEq]; rfl) (by simp [rowsOf, lk]) ?_; rw [hans]; rfl)
                  · have hb2 := bP_false hf2
                    have hans := hno fun h => hf2 h.2
                    repeat' (first | (with_reducible refine execL_step (fun K' hK' => ?_); (first | with_reducible refine s_none rfl ?_ | refine s_some2 rfl ?_); simp only [go_sem, hb1, hb2, hel]) | (with_reducible refine hK' _ ?_; clear hK' K') | with_reducible refine execL_nil ?_ | (with_reducible refine hK _ ?_; clear hK K; try simp only [go_sem, hb1, hb2, hel]) | with_reducible refine pw_seq_opsK kl17 G_ok (fun K hK => ?_) | (with_reducible refine CallK.eq (isStartOrder_ok g o (by omega) ho (fun c hc => Nat.le_trans (hgk c hc) (by decide)) hgs (ord_ne hO)) ?_ ?_; (focus (simp [RV.flat, D.sc, datI]; done)); try simp only [go_sem, hb1, hb2, hel]) | (with_reducible refine CallK.eq (isStartOrder_ok g e (by omega) (by omega) (fun c hc => Nat.le_trans (hgk c hc) (by decide)) hgs hed) ?_ ?_; (focus (simp [RV.flat, D.sc, datI]; done)); try simp only [go_sem, hb1, hb2, hel]) | with_reducible (first | refine pw_seq (x := .seq _ _) ?_ | refine thenA_normal ?_ | refine thenA_exit ?_ | refine thenA_ret ?_ | refine inBlockA_same ?_ | refine inBlockA_ret ?_ | refine inBlockA_normal ?_) | refine inBlockA_other (by decide) ?_ | with_reducible (first | refine pw_seq (pw_block ?_) | refine pw_seq (pw_skip (thenA_normal ?_)) | refine pw_skip ?_ | refine pw_exit ?_ | refine pw_ret ?_ | refine pw_ops G_ok (fun K hK => ?_)) | with_reducible refine pw_block ?_ | (with_reducible refine pK_mk (fun hc => ?_) (fun hc => ?_) <;> (try simp only [go_sem, hb1, hb2, hel]) <;> (try simp at hc) <;> (try (exfalso; omega))) | ((first | refine pw_seq (pw_cond rfl (fun hc => ?_) (fun hc => ?_)) | refine pw_cond rfl (fun hc => ?_) (fun hc => ?_)) <;> (try simp at hc) <;> (try (exfalso; omega))) | with_reducible refine And.intro (by first | omega | (unfold inI; omega) | exact andI_inI _) ?_)
                    all_goals first
                      | (exfalso; omega)
                      | (refine retQ_ret rfl (by simp only [retL, ret1, hget, lk, List.length_map, List.length_nil, List.length_append, List.length_take, if_true, if_false, Nat.reduceEqDiff, Nat.reduceBEq, Bool.false_eq_true, Option.some.injEq]; rfl) (by simp [rowsOf, lk]) ?_; rw [hans]; rfl)
                · have hb1 := bP_false hf1
                  have hans := hno fun h => hf1 h.1
                  repeat' (first | (with_reducible refine execL_step (fun K' hK' => ?_); (first | with_reducible refine s_none rfl ?_ | refine s_some2 rfl ?_); simp only [go_sem, hb1, hel]) | (with_reducible refine hK' _ ?_; clear hK' K') | with_reducible refine execL_nil ?_ | (with_reducible refine hK _ ?_; clear hK K; try simp only [go_sem, hb1, hel]) | with_reducible refine pw_seq_opsK kl17 G_ok (fun K hK => ?_) | (with_reducible refine CallK.eq (isStartOrder_ok g o (by omega) ho (fun c hc => Nat.le_trans (hgk c hc) (by decide)) hgs (ord_ne hO)) ?_ ?_; (focus (simp [RV.flat, D.sc, datI]; done)); try simp only [go_sem, hb1, hel]) | (with_reducible refine CallK.eq (isStartOrder_ok g e (by omega) (by omega) (fun c hc => Nat.le_trans (hgk c hc) (by decide)) hgs hed) ?_ ?_; (focus (simp [RV.flat, D.sc, datI]; done)); try simp only [go_sem, hb1, hel]) | with_reducible (first | refine pw_seq (x := .seq _ _) ?_ | refine thenA_normal ?_ | refine thenA_exit ?_ | refine thenA_ret ?_ | refine inBlockA_same ?_ | refine inBlockA_ret ?_ | refine inBlockA_normal ?_) | refine inBlockA_other (by decide) ?_ | with_reducible (first | refine pw_seq (pw_block ?_) | refine pw_seq (pw_skip (thenA_normal ?_)) | refine pw_skip ?_ | refine pw_exit ?_ | refine pw_ret ?_ | refine pw_ops G_ok (fun K hK => ?_)) | with_reducible refine pw_block ?_ | (with_reducible refine pK_mk (fun hc => ?_) (fun hc => ?_) <;> (try simp only [go_sem, hb1, hel]) <;> (try simp at hc) <;> (try (exfalso; omega))) | ((first | refine pw_seq (pw_cond rfl (fun hc => ?_) (fun hc => ?_)) | refine pw_cond rfl (fun hc => ?_) (fun hc => ?_)) <;> (try simp at hc) <;> (try (exfalso; omega))) | with_reducible refine And.intro (by first | omega | (unfold inI; omega) | exact andI_inI _) ?_)
                  all_goals first
                    | (exfalso; omega)
                    | (refine retQ_ret rfl (by simp only [retL, ret1, hget, lk, List.length_map, List.length_nil, List.length_append, List.length_take, if_true, if_false, Nat.reduceEqDiff, Nat.reduceBEq, Bool.false_eq_true, Option.some.injEq]; rfl) (by simp [rowsOf, lk]) ?_; rw [hans]; rfl)
        · (first | with_reducible refine s_none rfl ?_ | refine s_some2 rfl ?_)
          simp only [go_sem, Int.toNat_zero, Nat.sub_zero, Nat.zero_add, Int.add_sub_cancel, Int.toNat_natCast, Nat.mul_one, List.length_map, hsj, List.getElem?_map, hxi, hxj, Option.map_some, datI]
          refine hK' _ ?_
          clear hK' K'
          try simp only [go_sem, Int.toNat_zero, Nat.sub_zero, Nat.zero_add, Int.add_sub_cancel, Int.toNat_natCast, Nat.mul_one, List.length_map, hsj, List.getElem?_map, hxi, hxj, Option.map_some, datI]
          refine anyN_step G_ok [10] (by decide +kernel) rfl ⟨⟨_, rfl, fun K' hK' => ?_⟩, trivial⟩
          · (first | with_reducible refine s_none rfl ?_ | refine s_some2 rfl ?_)
            simp only [go_sem, Int.toNat_zero, Nat.sub_zero, Nat.zero_add, Int.add_sub_cancel, Int.toNat_natCast, Nat.mul_one, List.length_map, hsj, List.getElem?_map, hxi, hxj, Option.map_some, datI]
            refine hK' _ ?_
            clear hK' K'
            try simp only [go_sem, Int.toNat_zero, Nat.sub_zero, Nat.zero_add, Int.add_sub_cancel, Int.toNat_natCast, Nat.mul_one, List.length_map, hsj, List.getElem?_map, hxi, hxj, Option.map_some, datI]
            refine anyN_take 16 rfl rfl rfl (by decide +kernel) (by decide +kernel) (by decide +kernel) (pure_index rfl (G_ok _ _ G24) rfl (by omega) (if_pos (by omega))) ?_
            try simp only [go_sem, Int.toNat_zero, Nat.sub_zero, Nat.zero_add, Int.add_sub_cancel, Int.toNat_natCast, Nat.mul_one, List.length_map]
            refine anyN_step G_ok [17] (by decide +kernel) rfl ⟨⟨_, rfl, fun K' hK' => ?_⟩, trivial⟩
            · (first | with_reducible refine s_none rfl ?_ | refine s_some2 rfl ?_)
              simp only [go_sem, Int.toNat_zero, Nat.sub_zero, Nat.zero_add, Int.add_sub_cancel, Int.toNat_natCast, Nat.mul_one, List.length_map, hsj, List.getElem?_map, hxi, hxj, Option.map_some, datI]
              refine hK' _ ?_
              clear hK' K'
              try simp only [go_sem, Int.toNat_zero, Nat.sub_zero, Nat.zero_add, Int.add_sub_cancel, Int.toNat_natCast, Nat.mul_one, List.length_map, hsj, List.getElem?_map, hxi, hxj, Option.map_some, datI]
              refine anyN_take 18 rfl rfl rfl (by decide +kernel) (by decide +kernel) (by decide +kernel) (pure_index rfl (G_ok _ _ G24) rfl (by omega) (if_pos (by omega))) ?_
              try simp only [go_sem, Int.toNat_zero, Nat.sub_zero, Nat.zero_add, Int.add_sub_cancel, Int.toNat_natCast, Nat.mul_one, List.length_map]
              refine anyN_step G_ok [19] (by decide +kernel) rfl ⟨⟨_, rfl, fun K' hK' => ?_⟩, trivial⟩
              · (first | with_reducible refine s_none rfl ?_ | refine s_some2 rfl ?_)
                simp only [go_sem, Int.toNat_zero, Nat.sub_zero, Nat.zero_add, Int.add_sub_cancel, Int.toNat_natCast, Nat.mul_one, List.length_map, hsj, List.getElem?_map, hxi, hxj, Option.map_some, datI]
                refine hK' _ ?_
                clear hK' K'
                try simp only [go_sem, Int.toNat_zero, Nat.sub_zero, Nat.zero_add, Int.add_sub_cancel, Int.toNat_natCast, Nat.mul_one, List.length_map, hsj, List.getElem?_map, hxi, hxj, Option.map_some, datI]
                refine anyN_done (by decide +kernel) ?_
                simp only [go_sem, Int.toNat_zero, Nat.sub_zero, Nat.zero_add, Int.add_sub_cancel, Int.toNat_natCast, Nat.mul_one, List.length_map, hsj, List.getElem?_map, hxi, hxj, Option.map_some, datI, hse]
                by_cases hf1 : FitOk g o
                · have hb1 := bP_true hf1
                  by_cases hf2 : FitOk g e
                  · have hb2 := bP_true hf2
                    have hans := hyes hf1 hf2
                    repeat' (first | (with_reducible refine execL_step (fun K' hK' => ?_); (first | with_reducible refine s_none rfl ?_ | refine s_some2 rfl ?_); simp only [go_sem, hb1, hb2, hel]) | (with_reducible refine hK' _ ?_; clear hK' K') | with_reducible refine execL_nil ?_ | (with_reducible refine hK _ ?_; clear hK K; try simp only [go_sem, hb1, hb2, hel]) | with_reducible refine pw_seq_opsK kl17 G_ok (fun K hK => ?_) | (with_reducible refine CallK.eq (isStartOrder_ok g o (by omega) ho (fun c hc => Nat.le_trans (hgk c hc) (by decide)) hgs (ord_ne hO)) ?_ ?_; (focus (simp [RV.flat, D.sc, datI]; done)); try simp only [go_sem, hb1, hb2, hel]) | (with_reducible refine CallK.eq (isStartOrder_ok g e (by omega) (by omega) (fun c hc => Nat.le_trans (hgk c hc) (by decide)) hgs hed) ?_ ?_; (focus (simp [RV.flat, D.sc, datI]; done)); try simp only [go_sem, hb1, hb2, hel]) | with_reducible (first | refine pw_seq (x := .seq _ _) ?_ | refine thenA_normal ?_ | refine thenA_exit ?_ | refine thenA_ret ?_ | refine inBlockA_same ?_ | refine inBlockA_ret ?_ | refine inBlockA_normal ?_) | refine inBlockA_other (by decide) ?_ | with_reducible (first | refine pw_seq (pw_block ?_) | refine pw_seq (pw_skip (thenA_normal ?_)) | refine pw_skip ?_ | refine pw_exit ?_ | refine pw_ret ?_ | refine pw_ops G_ok (fun K hK => ?_)) | with_reducible refine pw_block ?_ | (with_reducible refine pK_mk (fun hc => ?_) (fun hc => ?_) <;> (try simp only [go_sem, hb1, hb2, hel]) <;> (try simp at hc) <;> (try (exfalso; omega))) | ((first | refine pw_seq (pw_cond rfl (fun hc => ?_) (fun hc => ?_)) | refine pw_cond rfl (fun hc => ?_) (fun hc => ?_)) <;> (try simp at hc) <;> (try (exfalso; omega))) | with_reducible refine And.intro (by first | omega | (unfold inI; omega) | exact andI_inI _) ?_)
                    all_goals first
                      | (exfalso; omega)
                      | (refine retQ_ret rfl (by simp only [hel, List.length_map, retL, ret1, hget, lk, List.length_map, List.length_nil, List.length_append, List.length_take, if_true, if_false, Nat.reduceEqDiff, Nat.reduceBEq, Bool.false_eq_true, Option.some.injEq]; rfl) (by simp [rowsOf, lk]) ?_; rw [hans]; rfl)
                  · have hb2 := bP_false hf2
                    have hans := hno fun h => hf2 h.2
                    repeat' (first | (with_reducible refine execL_step (fun K' hK' => ?_); (first | with_reducible refine s_none rfl ?_ | refine s_some2 rfl ?_); simp only [go_sem, hb1, hb2, hel]) | (with_reducible refine hK' _ ?_; clear hK' K') | with_reducible refine execL_nil ?_ | (with_reducible refine hK _ ?_; clear hK K; try simp only [go_sem, hb1, hb2, hel]) | with_reducible refine pw_seq_opsK kl17 G_ok (fun K hK => ?_) | (with_reducible refine CallK.eq (isStartOrder_ok g o (by omega) ho (fun c hc => Nat.le_trans (hgk c hc) (by decide)) hgs (ord_ne hO)) ?_ ?_; (focus (simp [RV.flat, D.sc, datI]; done)); try simp only [go_sem, hb1, hb2, hel]) | (with_reducible refine CallK.eq (isStartOrder_ok g e (by omega) (by omega) (fun c hc => Nat.le_trans (hgk c hc) (by decide)) hgs hed) ?_ ?_; (focus (simp [RV.flat, D.sc, datI]; done)); try simp only [go_sem, hb1, hb2, hel]) | with_reducible (first | refine pw_seq (x := .seq _ _) ?_ | refine thenA_normal ?_ | refine thenA_exit ?_ | refine thenA_ret ?_ | refine inBlockA_same ?_ | refine inBlockA_ret ?_ | refine inBlockA_normal ?_) | refine inBlockA_other (by decide) ?_ | with_reducible (first | refine pw_seq (pw_block ?_) | refine pw_seq (pw_skip (thenA_normal ?_)) | refine pw_skip ?_ | refine pw_exit ?_ | refine pw_ret ?_ | refine pw_ops G_ok (fun K hK => ?_)) | with_reducible refine pw_block ?_ | (with_reducible refine pK_mk (fun hc => ?_) (fun hc => ?_) <;> (try simp only [go_sem, hb1, hb2, hel]) <;> (try simp at hc) <;> (try (exfalso; omega))) | ((first | refine pw_seq (pw_cond rfl (fun hc => ?_) (fun hc => ?_)) | refine pw_cond rfl (fun hc => ?_) (fun hc => ?_)) <;> (try simp at hc) <;> (try (exfalso; omega))) | with_reducible refine And.intro (by first | omega | (unfold inI; omega) | exact andI_inI _) ?_)
                    all_goals first
                      | (exfalso; omega)
                      | (refine retQ_ret rfl (by simp only [retL, ret1, hget, lk, List.length_map, List.length_nil, List.length_append, List.length_take, if_true, if_false, Nat.reduceEqDiff, Nat.reduceBEq, Bool.false_eq_true, Option.some.injEq]; rfl) (by simp [rowsOf, lk]) ?_; rw [hans]; rfl)
                · have hb1 := bP_false hf1
                  have hans := hno fun h => hf1 h.1
                  repeat' (first | (with_reducible refine execL_step (fun K' hK' => ?_); (first | with_reducible refine s_none rfl ?_ | refine s_some2 rfl ?_); simp only [go_sem, hb1, hel]) | (with_reducible refine hK' _ ?_; clear hK' K') | with_reducible refine execL_nil ?_ | (with_reducible refine hK _ ?_; clear hK K; try simp only [go_sem, hb1, hel]) | with_reducible refine pw_seq_opsK kl17 G_ok (fun K hK => ?_) | (with_reducible refine CallK.eq (isStartOrder_ok g o (by omega) ho (fun c hc => Nat.le_trans (hgk c hc) (by decide)) hgs (ord_ne hO)) ?_ ?_; (focus (simp [RV.flat, D.sc, datI]; done)); try simp only [go_sem, hb1, hel]) | (with_reducible refine CallK.eq (isStartOrder_ok g e (by omega) (by omega) (fun c hc => Nat.le_trans (hgk c hc) (by decide)) hgs hed) ?_ ?_; (focus (simp [RV.flat, D.sc, datI]; done)); try simp only [go_sem, hb1, hel]) | with_reducible (first | refine pw_seq (x := .seq _ _) ?_ | refine thenA_normal ?_ | refine thenA_exit ?_ | refine thenA_ret ?_ | refine inBlockA_same ?_ | refine inBlockA_ret ?_ | refine inBlockA_normal ?_) | refine inBlockA_other (by decide) ?_ | with_reducible (first | refine pw_seq (pw_block ?_) | refine pw_seq (pw_skip (thenA_normal ?_)) | refine pw_skip ?_ | refine pw_exit ?_ | refine pw_ret ?_ | refine pw_ops G_ok (fun K hK => ?_)) | with_reducible refine pw_block ?_ | (with_reducible refine pK_mk (fun hc => ?_) (fun hc => ?_) <;> (try simp only [go_sem, hb1, hel]) <;> (try simp at hc) <;> (try (exfalso; omega))) | ((first | refine pw_seq (pw_cond rfl (fun hc => ?_) (fun hc => ?_)) | refine pw_cond rfl (fun hc => ?_) (fun hc => ?_)) <;> (try simp at hc) <;> (try (exfalso; omega))) | with_reducible refine And.intro (by first | omega | (unfold inI; omega) | exact andI_inI _) ?_)
                  all_goals first
                    | (exfalso; omega)
                    | (refine retQ_ret rfl (by simp only [retL, ret1, hget, lk, List.length_map, List.length_nil, List.length_append, List.length_take, if_true, if_false, Nat.reduceEqDiff, Nat.reduceBEq, Bool.false_eq_true, Option.some.injEq]; rfl) (by simp [rowsOf, lk]) ?_; rw [hans]; rfl)
      · have himpl := impl_RankGroups_no l s hn hv
        by_cases hr : RgOk l s
        · have h1 := bP_true hr
          have h0 : l.length = 0 := by
            have : ¬ 0 < l.length := fun h => hv ⟨hr, h⟩
            omega
          have hans : ansExchangeStarts l s o a b = none := optP_neg fun h' => by
            have h3 := h'.1.2
            rw [gsE_nil h0 hr.2.1] at h3
            exact fit_nil (by omega) h3
          generalize ansExchangeStarts l s o a b = ans at hans
          subst ea eb
          have hxi := List.getElem?_eq_getElem hi
          have hxj := List.getElem?_eq_getElem hj
          generalize o[i] = x at hxi
          generalize o[j] = y at hxj
          have hse : ((o.map datI).set i [.int .i64 y]).set j [.int .i64 x] = (exD o i j).map datI := by unfold exD; simp [List.getD, hxi, hxj, List.map_set, datI]
          obtain ⟨z, hsj⟩ : ∃ z, ((o.map datI).set i [.int .i64 y])[j]? = some [.int .i64 z] := ⟨(o.set i y)[j]'(by simp; omega), by rw [show (o.map datI).set i [.int .i64 y] = (o.set i y).map datI by rw [List.map_set]; rfl, List.getElem?_map, List.getElem?_eq_getElem (by simp; omega)]; rfl⟩
          have hel := exD_len o i j
          generalize exD o i j = e at hse hel
          repeat' (first | (with_reducible refine execL_step (fun K' hK' => ?_); (first | with_reducible refine s_none rfl ?_ | refine s_some2 rfl ?_); simp only [go_sem, h1, h2]) | (with_reducible refine hK' _ ?_; clear hK' K') | with_reducible refine execL_nil ?_ | (with_reducible refine hK _ ?_; clear hK K; try simp only [go_sem, h1, h2]) | with_reducible refine pw_seq_opsK kl17 G_ok (fun K hK => ?_) | (with_reducible refine CallK.eq (himpl) ?_ ?_; (focus (simp [RV.flat, D.sc, datI]; done)); try simp only [go_sem, h1, h2]) | (with_reducible refine CallK.eq (isOrder_ok o ho) ?_ ?_; (focus (simp [RV.flat, D.sc, datI]; done)); try simp only [go_sem, h1, h2]) | (with_reducible refine CallK.eq (within_ok _ _ _) ?_ ?_; (focus (simp [RV.flat, D.sc, datI]; done)); try simp only [go_sem, h1, h2]) | (with_reducible refine CallK.eq (copyInts_ok o ho) ?_ ?_; (focus (simp [RV.flat, D.sc, datI]; done)); try simp only [go_sem, h1, h2]) | with_reducible (first | refine pw_seq (x := .seq _ _) ?_ | refine thenA_normal ?_ | refine thenA_exit ?_ | refine thenA_ret ?_ | refine inBlockA_same ?_ | refine inBlockA_ret ?_ | refine inBlockA_normal ?_) | refine inBlockA_other (by decide) ?_ | with_reducible (first | refine pw_seq (pw_block ?_) | refine pw_seq (pw_skip (thenA_normal ?_)) | refine pw_skip ?_ | refine pw_exit ?_ | refine pw_ret ?_ | refine pw_ops G_ok (fun K hK => ?_)) | with_reducible refine pw_block ?_ | (with_reducible refine pK_mk (fun hc => ?_) (fun hc => ?_) <;> (try simp only [go_sem, h1, h2]) <;> (try simp at hc) <;> (try (exfalso; omega))) | ((first | refine pw_seq (pw_cond rfl (fun hc => ?_) (fun hc => ?_)) | refine pw_cond rfl (fun hc => ?_) (fun hc => ?_)) <;> (try simp at hc) <;> (try (exfalso; omega))) | with_reducible refine And.intro (by first | omega | (unfold inI; omega) | exact andI_inI _) ?_)
          all_goals first
            | (exfalso; omega)
            | skip
          refine pw_seq_anyN kl17 mixed ?_
          refine anyN_take 0 rfl rfl rfl (by decide +kernel) (by decide +kernel) (by decide +kernel) (pure_move (.inl rfl)) ?_
          try simp only [go_sem, Int.toNat_zero, Nat.sub_zero, Nat.zero_add, Int.add_sub_cancel, Int.toNat_natCast, Nat.mul_one, List.length_map]
          refine anyN_take 1 rfl rfl rfl (by decide +kernel) (by decide +kernel) (by decide +kernel) (pure_move (.inl rfl)) ?_
          try simp only [go_sem, Int.toNat_zero, Nat.sub_zero, Nat.zero_add, Int.add_sub_cancel, Int.toNat_natCast, Nat.mul_one, List.length_map]
          refine anyN_take 2 rfl rfl rfl (by decide +kernel) (by decide +kernel) (by decide +kernel) (pure_sub rfl rfl rfl (by unfold inI; omega)) ?_
          try simp only [go_sem, Int.toNat_zero, Nat.sub_zero, Nat.zero_add, Int.add_sub_cancel, Int.toNat_natCast, Nat.mul_one, List.length_map]
          refine anyN_take 3 rfl rfl rfl (by decide +kernel) (by decide +kernel) (by decide +kernel) (pure_move (.inl rfl)) ?_
          try simp only [go_sem, Int.toNat_zero, Nat.sub_zero, Nat.zero_add, Int.add_sub_cancel, Int.toNat_natCast, Nat.mul_one, List.length_map]
          refine anyN_take 4 rfl rfl rfl (by decide +kernel) (by decide +kernel) (by decide +kernel) (pure_move (.inl rfl)) ?_
          try simp only [go_sem, Int.toNat_zero, Nat.sub_zero, Nat.zero_add, Int.add_sub_cancel, Int.toNat_natCast, Nat.mul_one, List.length_map]
          refine anyN_take 5 rfl rfl rfl (by decide +kernel) (by decide +kernel) (by decide +kernel) (pure_sub rfl rfl rfl (by unfold inI; omega)) ?_
          try simp only [go_sem, Int.toNat_zero, Nat.sub_zero, Nat.zero_add, Int.add_sub_cancel, Int.toNat_natCast, Nat.mul_one, List.length_map]
          refine anyN_take 6 rfl rfl rfl (by decide +kernel) (by decide +kernel) (by decide +kernel) (pure_move (.inl rfl)) ?_
          try simp only [go_sem, Int.toNat_zero, Nat.sub_zero, Nat.zero_add, Int.add_sub_cancel, Int.toNat_natCast, Nat.mul_one, List.length_map]
          refine anyN_take 7 rfl rfl rfl (by decide +kernel) (by decide +kernel) (by decide +kernel) (pure_move (.inl rfl)) ?_
          try simp only [go_sem, Int.toNat_zero, Nat.sub_zero, Nat.zero_add, Int.add_sub_cancel, Int.toNat_natCast, Nat.mul_one, List.length_map]
          refine anyN_take 8 rfl rfl rfl (by decide +kernel) (by decide +kernel) (by decide +kernel) (pure_sub rfl rfl rfl (by unfold inI; omega)) ?_
          try simp only [go_sem, Int.toNat_zero, Nat.sub_zero, Nat.zero_add, Int.add_sub_cancel, Int.toNat_natCast, Nat.mul_one, List.length_map]
          refine anyN_take 11 rfl rfl rfl (by decide +kernel) (by decide +kernel) (by decide +kernel) (pure_move (.inl rfl)) ?_
          try simp only [go_sem, Int.toNat_zero, Nat.sub_zero, Nat.zero_add, Int.add_sub_cancel, Int.toNat_natCast, Nat.mul_one, List.length_map]
          refine anyN_take 12 rfl rfl rfl (by decide +kernel) (by decide +kernel) (by decide +kernel) (pure_move (.inl rfl)) ?_
          try simp only [go_sem, Int.toNat_zero, Nat.sub_zero, Nat.zero_add, Int.add_sub_cancel, Int.toNat_natCast, Nat.mul_one, List.length_map]
          refine anyN_take 13 rfl rfl rfl (by decide +kernel) (by decide +kernel) (by decide +kernel) (pure_sub rfl rfl rfl (by unfold inI; omega)) ?_
          try simp only [go_sem, Int.toNat_zero, Nat.sub_zero, Nat.zero_add, Int.add_sub_cancel, Int.toNat_natCast, Nat.mul_one, List.length_map]
          refine anyN_take 9 rfl rfl rfl (by decide +kernel) (by decide +kernel) (by decide +kernel) (pure_index rfl (G_ok _ _ G24) rfl (by omega) (if_pos (by omega))) ?_
          try simp only [go_sem, Int.toNat_zero, Nat.sub_zero, Nat.zero_add, Int.add_sub_cancel, Int.toNat_natCast, Nat.mul_one, List.length_map]
          refine anyN_take 14 rfl rfl rfl (by decide +kernel) (by decide +kernel) (by decide +kernel) (pure_index rfl (G_ok _ _ G24) rfl (by omega) (if_pos (by omega))) ?_
          try simp only [go_sem, Int.toNat_zero, Nat.sub_zero, Nat.zero_add, Int.add_sub_cancel, Int.toNat_natCast, Nat.mul_one, List.length_map]
          refine anyN_step G_ok [10, 15] (by decide +kernel) rfl ⟨⟨_, rfl, fun K' hK' => ?_⟩, ⟨_, rfl, fun K' hK' => ?_⟩, trivial⟩
          · (first | with_reducible refine s_none rfl ?_ | refine s_some2 rfl ?_)
            simp only [go_sem, Int.toNat_zero, Nat.sub_zero, Nat.zero_add, Int.add_sub_cancel, Int.toNat_natCast, Nat.mul_one, List.length_map, hsj, List.getElem?_map, hxi, hxj, Option.map_some, datI]
            refine hK' _ ?_
            clear hK' K'
            try simp only [go_sem, Int.toNat_zero, Nat.sub_zero, Nat.zero_add, Int.add_sub_cancel, Int.toNat_natCast, Nat.mul_one, List.length_map, hsj, List.getElem?_map, hxi, hxj, Option.map_some, datI]
            refine anyN_step G_ok [15] (by decide +kernel) rfl ⟨⟨_, rfl, fun K' hK' => ?_⟩, trivial⟩
            · (first | with_reducible refine s_none rfl ?_ | refine s_some2 rfl ?_)
              simp only [go_sem, Int.toNat_zero, Nat.sub_zero, Nat.zero_add, Int.add_sub_cancel, Int.toNat_natCast, Nat.mul_one, List.length_map, hsj, List.getElem?_map, hxi, hxj, Option.map_some, datI]
              refine hK' _ ?_
              clear hK' K'
              try simp only [go_sem, Int.toNat_zero, Nat.sub_zero, Nat.zero_add, Int.add_sub_cancel, Int.toNat_natCast, Nat.mul_one, List.length_map, hsj, List.getElem?_map, hxi, hxj, Option.map_some, datI]
              refine anyN_take 16 rfl rfl rfl (by decide +kernel) (by decide +kernel) (by decide +kernel) (pure_index rfl (G_ok _ _ G24) rfl (by omega) (if_pos (by omega))) ?_
              try simp only [go_sem, Int.toNat_zero, Nat.sub_zero, Nat.zero_add, Int.add_sub_cancel, Int.toNat_natCast, Nat.mul_one, List.length_map]
              refine anyN_step G_ok [17] (by decide +kernel) rfl ⟨⟨_, rfl, fun K' hK' => ?_⟩, trivial⟩
              · (first | with_reducible refine s_none rfl ?_ | refine s_some2 rfl ?_)
                simp only [go_sem, Int.toNat_zero, Nat.sub_zero, Nat.zero_add, Int.add_sub_cancel, Int.toNat_natCast, Nat.mul_one, List.length_map, hsj, List.getElem?_map, hxi, hxj, Option.map_some, datI]
                refine hK' _ ?_
                clear hK' K'
                try simp only [go_sem, Int.toNat_zero, Nat.sub_zero, Nat.zero_add, Int.add_sub_cancel, Int.toNat_natCast, Nat.mul_one, List.length_map, hsj, List.getElem?_map, hxi, hxj, Option.map_some, datI]
                refine anyN_take 18 rfl rfl rfl (by decide +kernel) (by decide +kernel) (by decide +kernel) (pure_index rfl (G_ok _ _ G24) rfl (by omega) (if_pos (by omega))) ?_
                try simp only [go_sem, Int.toNat_zero, Nat.sub_zero, Nat.zero_add, Int.add_sub_cancel, Int.toNat_natCast, Nat.mul_one, List.length_map]
                refine anyN_step G_ok [19] (by decide +kernel) rfl ⟨⟨_, rfl, fun K' hK' => ?_⟩, trivial⟩
                · (first | with_reducible refine s_none rfl ?_ | refine s_some2 rfl ?_)
                  simp only [go_sem, Int.toNat_zero, Nat.sub_zero, Nat.zero_add, Int.add_sub_cancel, Int.toNat_natCast, Nat.mul_one, List.length_map, hsj, List.getElem?_map, hxi, hxj, Option.map_some, datI]
                  refine hK' _ ?_
                  clear hK' K'
                  try simp only [go_sem, Int.toNat_zero, Nat.sub_zero, Nat.zero_add, Int.add_sub_cancel, Int.toNat_natCast, Nat.mul_one, List.length_map, hsj, List.getElem?_map, hxi, hxj, Option.map_some, datI]
                  refine anyN_done (by decide +kernel) ?_
                  simp only [go_sem, Int.toNat_zero, Nat.sub_zero, Nat.zero_add, Int.add_sub_cancel, Int.toNat_natCast, Nat.mul_one, List.length_map, hsj, List.getElem?_map, hxi, hxj, Option.map_some, datI, hse]
                  have hso := isStartOrder_ok [] o (by simp) ho (by simp) (by simp) (ord_ne hO)
                  simp only [List.map_nil] at hso
                  have hb1 : bP (FitOk [] o) = false := bP_false (fit_nil (by omega))
                  repeat' (first | (with_reducible refine execL_step (fun K' hK' => ?_); (first | with_reducible refine s_none rfl ?_ | refine s_some2 rfl ?_); simp only [go_sem, hb1, hel]) | (with_reducible refine hK' _ ?_; clear hK' K') | with_reducible refine execL_nil ?_ | (with_reducible refine hK _ ?_; clear hK K; try simp only [go_sem, hb1, hel]) | with_reducible refine pw_seq_opsK kl17 G_ok (fun K hK => ?_) | (with_reducible refine CallK.eq (hso) ?_ ?_; (focus (simp [RV.flat, D.sc, datI]; done)); try simp only [go_sem, hb1, hel]) | with_reducible (first | refine pw_seq (x := .seq _ _) ?_ | refine thenA_normal ?_ | refine thenA_exit ?_ | refine thenA_ret ?_ | refine inBlockA_same ?_ | refine inBlockA_ret ?_ | refine inBlockA_normal ?_) | refine inBlockA_other (by decide) ?_ | with_reducible (first | refine pw_seq (pw_block ?_) | refine pw_seq (pw_skip (thenA_normal ?_)) | refine pw_skip ?_ | refine pw_exit ?_ | refine pw_ret ?_ | refine pw_ops G_ok (fun K hK => ?_)) | with_reducible refine pw_block ?_ | (with_reducible refine pK_mk (fun hc => ?_) (fun hc => ?_) <;> (try simp only [go_sem, hb1, hel]) <;> (try simp at hc) <;> (try (exfalso; omega))) | ((first | refine pw_seq (pw_cond rfl (fun hc => ?_) (fun hc => ?_)) | refine pw_cond rfl (fun hc => ?_) (fun hc => ?_)) <;> (try simp at hc) <;> (try (exfalso; omega))) | with_reducible refine And.intro (by first | omega | (unfold inI; omega) | exact andI_inI _) ?_)
                  all_goals first
                    | (exfalso; omega)
                    | (refine retQ_ret rfl (by simp only [retL, ret1, hget, lk, List.length_map, List.length_nil, List.length_append, List.length_take, if_true, if_false, Nat.reduceEqDiff, Nat.reduceBEq, Bool.false_eq_true, Option.some.injEq]; rfl) (by simp [rowsOf, lk]) ?_; rw [hans]; rfl)
          · (first | with_reducible refine s_none rfl ?_ | refine s_some2 rfl ?_)
            simp only [go_sem, Int.toNat_zero, Nat.sub_zero, Nat.zero_add, Int.add_sub_cancel, Int.toNat_natCast, Nat.mul_one, List.length_map, hsj, List.getElem?_map, hxi, hxj, Option.map_some, datI]
            refine hK' _ ?_
            clear hK' K'
            try simp only [go_sem, Int.toNat_zero, Nat.sub_zero, Nat.zero_add, Int.add_sub_cancel, Int.toNat_natCast, Nat.mul_one, List.length_map, hsj, List.getElem?_map, hxi, hxj, Option.map_some, datI]
            refine anyN_step G_ok [10] (by decide +kernel) rfl ⟨⟨_, rfl, fun K' hK' => ?_⟩, trivial⟩
            · (first | with_reducible refine s_none rfl ?_ | refine s_some2 rfl ?_)
              simp only [go_sem, Int.toNat_zero, Nat.sub_zero, Nat.zero_add, Int.add_sub_cancel, Int.toNat_natCast, Nat.mul_one, List.length_map, hsj, List.getElem?_map, hxi, hxj, Option.map_some, datI]
              refine hK' _ ?_
              clear hK' K'
              try simp only [go_sem, Int.toNat_zero, Nat.sub_zero, Nat.zero_add, Int.add_sub_cancel, Int.toNat_natCast, Nat.mul_one, List.length_map, hsj, List.getElem?_map, hxi, hxj, Option.map_some, datI]
              refine anyN_take 16 rfl rfl rfl (by decide +kernel) (by decide +kernel) (by decide +kernel) (pure_index rfl (G_ok _ _ G24) rfl (by omega) (if_pos (by omega))) ?_
              try simp only [go_sem, Int.toNat_zero, Nat.sub_zero, Nat.zero_add, Int.add_sub_cancel, Int.toNat_natCast, Nat.mul_one, List.length_map]
              refine anyN_step G_ok [17] (by decide +kernel) rfl ⟨⟨_, rfl, fun K' hK' => ?_⟩, trivial⟩
              · (first | with_reducible refine s_none rfl ?_ | refine s_some2 rfl ?_)
                simp only [go_sem, Int.toNat_zero, Nat.sub_zero, Nat.zero_add, Int.add_sub_cancel, Int.toNat_natCast, Nat.mul_one, List.length_map, hsj, List.getElem?_map, hxi, hxj, Option.map_some, datI]
                refine hK' _ ?_
                clear hK' K'
                try simp only [go_sem, Int.toNat_zero, Nat.sub_zero, Nat.zero_add, Int.add_sub_cancel, Int.toNat_natCast, Nat.mul_one, List.length_map, hsj, List.getElem?_map, hxi, hxj, Option.map_some, datI]
                refine anyN_take 18 rfl rfl rfl (by decide +kernel) (by decide +kernel) (by decide +kernel) (pure_index rfl (G_ok _ _ G24) rfl (by omega) (if_pos (by omega))) ?_
                try simp only [go_sem, Int.toNat_zero, Nat.sub_zero, Nat.zero_add, Int.add_sub_cancel, Int.toNat_natCast, Nat.mul_one, List.length_map]
                refine anyN_step G_ok [19] (by decide +kernel) rfl ⟨⟨_, rfl, fun K' hK' => ?_⟩, trivial⟩
                · (first | with_reducible refine s_none rfl ?_ | refine s_some2 rfl ?_)
                  simp only [go_sem, Int.toNat_zero, Nat.sub_zero, Nat.zero_add, Int.add_sub_cancel, Int.toNat_natCast, Nat.mul_one, List.length_map, hsj, List.getElem?_map, hxi, hxj, Option.map_some, datI]
                  refine hK' _ ?_
                  clear hK' K'
                  try simp only [go_sem, Int.toNat_zero, Nat.sub_zero, Nat.zero_add, Int.add_sub_cancel, Int.toNat_natCast, Nat.mul_one, List.length_map, hsj, List.getElem?_map, hxi, hxj, Option.map_some, datI]
                  refine anyN_done (by decide +kernel) ?_
                  simp only [go_sem, Int.toNat_zero, Nat.sub_zero, Nat.zero_add, Int.add_sub_cancel, Int.toNat_natCast, Nat.mul_one, List.length_map, hsj, List.getElem?_map, hxi, hxj, Option.map_some, datI, hse]
                  have hso := isStartOrder_ok [] o (by simp) ho (by simp) (by simp) (ord_ne hO)
                  simp only [List.map_nil] at hso
                  have hb1 : bP (FitOk [] o) = false := bP_false (fit_nil (by omega))
                  repeat' (first | (with_reducible refine execL_step (fun K' hK' => ?_); (first | with_reducible refine s_none rfl ?_ | refine s_some2 rfl ?_); simp only [go_sem, hb1, hel]) | (with_reducible refine hK' _ ?_; clear hK' K') | with_reducible refine execL_nil ?_ | (with_reducible refine hK _ ?_; clear hK K; try simp only [go_sem, hb1, hel]) | with_reducible refine pw_seq_opsK kl17 G_ok (fun K hK => ?_) | (with_reducible refine CallK.eq (hso) ?_ ?_; (focus (simp [RV.flat, D.sc, datI]; done)); try simp only [go_sem, hb1, hel]) | with_reducible (first | refine pw_seq (x := .seq _ _) ?_ | refine thenA_normal ?_ | refine thenA_exit ?_ | refine thenA_ret ?_ | refine inBlockA_same ?_ | refine inBlockA_ret ?_ | refine inBlockA_normal ?_) | refine inBlockA_other (by decide) ?_ | with_reducible (first | refine pw_seq (pw_block ?_) | refine pw_seq (pw_skip (thenA_normal ?_)) | refine pw_skip ?_ | refine pw_exit ?_ | refine pw_ret ?_ | refine pw_ops G_ok (fun K hK => ?_)) | with_reducible refine pw_block ?_ | (with_reducible refine pK_mk (fun hc => ?_) (fun hc => ?_) <;> (try simp only [go_sem, hb1, hel]) <;> (try simp at hc) <;> (try (exfalso; omega))) | ((first | refine pw_seq (pw_cond rfl (fun hc => ?_) (fun hc => ?_)) | refine pw_cond rfl (fun hc => ?_) (fun hc => ?_)) <;> (try simp at hc) <;> (try (exfalso; omega))) | with_reducible refine And.intro (by first | omega | (unfold inI; omega) | exact andI_inI _) ?_)
                  all_goals first
                    | (exfalso; omega)
                    | (refine retQ_ret rfl (by simp only [retL, ret1, hget, lk, List.length_map, List.length_nil, List.length_append, List.length_take, if_true, if_false, Nat.reduceEqDiff, Nat.reduceBEq, Bool.false_eq_true, Option.some.injEq]; rfl) (by simp [rowsOf, lk]) ?_; rw [hans]; rfl)
        · have h1 := bP_false hr
          have hans : ansExchangeStarts l s o a b = none := optP_neg fun h' => hr h'.1.1.1
          repeat' (first | (with_reducible refine execL_step (fun K' hK' => ?_); (first | with_reducible refine s_none rfl ?_ | refine s_some2 rfl ?_); simp only [go_sem, h1]) | (with_reducible refine hK' _ ?_; clear hK' K') | with_reducible refine execL_nil ?_ | (with_reducible refine hK _ ?_; clear hK K; try simp only [go_sem, h1]) | with_reducible refine pw_seq_opsK kl17 G_ok (fun K hK => ?_) | (with_reducible refine CallK.eq (himpl) ?_ ?_; (focus (simp [RV.flat, D.sc, datI]; done)); try simp only [go_sem, h1]) | with_reducible (first | refine pw_seq (x := .seq _ _) ?_ | refine thenA_normal ?_ | refine thenA_exit ?_ | refine thenA_ret ?_ | refine inBlockA_same ?_ | refine inBlockA_ret ?_ | refine inBlockA_normal ?_) | refine inBlockA_other (by decide) ?_ | with_reducible (first | refine pw_seq (pw_block ?_) | refine pw_seq (pw_skip (thenA_normal ?_)) | refine pw_skip ?_ | refine pw_exit ?_ | refine pw_ret ?_ | refine pw_ops G_ok (fun K hK => ?_)) | with_reducible refine pw_block ?_ | (with_reducible refine pK_mk (fun hc => ?_) (fun hc => ?_) <;> (try simp only [go_sem, h1]) <;> (try simp at hc) <;> (try (exfalso; omega))) | ((first | refine pw_seq (pw_cond rfl (fun hc => ?_) (fun hc => ?_)) | refine pw_cond rfl (fun hc => ?_) (fun hc => ?_)) <;> (try simp at hc) <;> (try (exfalso; omega))) | with_reducible refine And.intro (by first | omega | (unfold inI; omega) | exact andI_inI _) ?_)
          all_goals first
            | (exfalso; omega)
            | (refine retQ_ret rfl (by simp only [retL, ret1, hget, lk, List.length_map, List.length_nil, List.length_append, List.length_take, if_true, if_false, Nat.reduceEqDiff, Nat.reduceBEq, Bool.false_eq_true, Option.some.injEq]; rfl) (by simp [rowsOf, lk]) ?_; rw [hans]; rfl)
    · have hans : ansExchangeStarts l s o a b = none := optP_neg fun h' => hx h'.2.1
      have hx' : ¬ ((1 ≤ a ∧ a ≤ o.length) ∧ 1 ≤ b ∧ b ≤ o.length) := hx
      by_cases hv : RgOk l s ∧ 0 < l.length
      · have himpl := impl_RankGroups_yes l s hn hv.2 hv.1
        repeat' (first | (with_reducible refine execL_step (fun K' hK' => ?_); (first | with_reducible refine s_none rfl ?_ | refine s_some2 rfl ?_); simp only [go_sem, h2]) | (with_reducible refine hK' _ ?_; clear hK' K') | with_reducible refine execL_nil ?_ | (with_reducible refine hK _ ?_; clear hK K; try simp only [go_sem, h2]) | with_reducible refine pw_seq_opsK kl17 G_ok (fun K hK => ?_) | (with_reducible refine CallK.eq (himpl) ?_ ?_; (focus (simp [RV.flat, D.sc, datI]; done)); try simp only [go_sem, h2]) | (with_reducible refine CallK.eq (isOrder_ok o ho) ?_ ?_; (focus (simp [RV.flat, D.sc, datI]; done)); try simp only [go_sem, h2]) | (with_reducible refine CallK.eq (within_ok _ _ _) ?_ ?_; (focus (simp [RV.flat, D.sc, datI]; done)); try simp only [go_sem, h2]) | with_reducible (first | refine pw_seq (x := .seq _ _) ?_ | refine thenA_normal ?_ | refine thenA_exit ?_ | refine thenA_ret ?_ | refine inBlockA_same ?_ | refine inBlockA_ret ?_ | refine inBlockA_normal ?_) | refine inBlockA_other (by decide) ?_ | with_reducible (first | refine pw_seq (pw_block ?_) | refine pw_seq (pw_skip (thenA_normal ?_)) | refine pw_skip ?_ | refine pw_exit ?_ | refine pw_ret ?_ | refine pw_ops G_ok (fun K hK => ?_)) | with_reducible refine pw_block ?_ | (with_reducible refine pK_mk (fun hc => ?_) (fun hc => ?_) <;> (try simp only [go_sem, h2]) <;> (try simp at hc) <;> (try (exfalso; omega))) | ((first | refine pw_seq (pw_cond rfl (fun hc => ?_) (fun hc => ?_)) | refine pw_cond rfl (fun hc => ?_) (fun hc => ?_)) <;> (try simp at hc) <;> (try (exfalso; omega))) | with_reducible refine And.intro (by first | omega | (unfold inI; omega) | exact andI_inI _) ?_)
        all_goals first
          | (exfalso; omega)
          | (refine retQ_ret rfl (by simp only [retL, ret1, hget, lk, List.length_map, List.length_nil, List.length_append, List.length_take, if_true, if_false, Nat.reduceEqDiff, Nat.reduceBEq, Bool.false_eq_true, Option.some.injEq]; rfl) (by simp [rowsOf, lk]) ?_; rw [hans]; rfl)
      · have himpl := impl_RankGroups_no l s hn hv
        generalize bP (RgOk l s) = c at himpl
        cases c <;>
        · repeat' (first | (with_reducible refine execL_step (fun K' hK' => ?_); (first | with_reducible refine s_none rfl ?_ | refine s_some2 rfl ?_); simp only [go_sem, h2]) | (with_reducible refine hK' _ ?_; clear hK' K') | with_reducible refine execL_nil ?_ | (with_reducible refine hK _ ?_; clear hK K; try simp only [go_sem, h2]) | with_reducible refine pw_seq_opsK kl17 G_ok (fun K hK => ?_) | (with_reducible refine CallK.eq (himpl) ?_ ?_; (focus (simp [RV.flat, D.sc, datI]; done)); try simp only [go_sem, h2]) | (with_reducible refine CallK.eq (isOrder_ok o ho) ?_ ?_; (focus (simp [RV.flat, D.sc, datI]; done)); try simp only [go_sem, h2]) | (with_reducible refine CallK.eq (within_ok _ _ _) ?_ ?_; (focus (simp [RV.flat, D.sc, datI]; done)); try simp only [go_sem, h2]) | with_reducible (first | refine pw_seq (x := .seq _ _) ?_ | refine thenA_normal ?_ | refine thenA_exit ?_ | refine thenA_ret ?_ | refine inBlockA_same ?_ | refine inBlockA_ret ?_ | refine inBlockA_normal ?_) | refine inBlockA_other (by decide) ?_ | with_reducible (first | refine pw_seq (pw_block ?_) | refine pw_seq (pw_skip (thenA_normal ?_)) | refine pw_skip ?_ | refine pw_exit ?_ | refine pw_ret ?_ | refine pw_ops G_ok (fun K hK => ?_)) | with_reducible refine pw_block ?_ | (with_reducible refine pK_mk (fun hc => ?_) (fun hc => ?_) <;> (try simp only [go_sem, h2]) <;> (try simp at hc) <;> (try (exfalso; omega))) | ((first | refine pw_seq (pw_cond rfl (fun hc => ?_) (fun hc => ?_)) | refine pw_cond rfl (fun hc => ?_) (fun hc => ?_)) <;> (try simp at hc) <;> (try (exfalso; omega))) | with_reducible refine And.intro (by first | omega | (unfold inI; omega) | exact andI_inI _) ?_)
          all_goals first
            | (exfalso; omega)
            | (refine retQ_ret rfl (by simp only [retL, ret1, hget, lk, List.length_map, List.length_nil, List.length_append, List.length_take, if_true, if_false, Nat.reduceEqDiff, Nat.reduceBEq, Bool.false_eq_true, Option.some.injEq]; rfl) (by simp [rowsOf, lk]) ?_; rw [hans]; rfl)
  · have h2 := bP_false hO
    have hans : ansExchangeStarts l s o a b = none := optP_neg fun h' => hO h'.1.1.2
    by_cases hv : RgOk l s ∧ 0 < l.length
    · have himpl := impl_RankGroups_yes l s hn hv.2 hv.1
      repeat' (first | (with_reducible refine execL_step (fun K' hK' => ?_); (first | with_reducible refine s_none rfl ?_ | refine s_some2 rfl ?_); simp only [go_sem, h2]) | (with_reducible refine hK' _ ?_; clear hK' K') | with_reducible refine execL_nil ?_ | (with_reducible refine hK _ ?_; clear hK K; try simp only [go_sem, h2]) | with_reducible refine pw_seq_opsK kl17 G_ok (fun K hK => ?_) | (with_reducible refine CallK.eq (himpl) ?_ ?_; (focus (simp [RV.flat, D.sc, datI]; done)); try simp only [go_sem, h2]) | (with_reducible refine CallK.eq (isOrder_ok o ho) ?_ ?_; (focus (simp [RV.flat, D.sc, datI]; done)); try simp only [go_sem, h2]) | with_reducible (first | refine pw_seq (x := .seq _ _) ?_ | refine thenA_normal ?_ | refine thenA_exit ?_ | refine thenA_ret ?_ | refine inBlockA_same ?_ | refine inBlockA_ret ?_ | refine inBlockA_normal ?_) | refine inBlockA_other (by decide) ?_ | with_reducible (first | refine pw_seq (pw_block ?_) | refine pw_seq (pw_skip (thenA_normal ?_)) | refine pw_skip ?_ | refine pw_exit ?_ | refine pw_ret ?_ | refine pw_ops G_ok (fun K hK => ?_)) | with_reducible refine pw_block ?_ | (with_reducible refine pK_mk (fun hc => ?_) (fun hc => ?_) <;> (try simp only [go_sem, h2]) <;> (try simp at hc) <;> (try (exfalso; omega))) | ((first | refine pw_seq (pw_cond rfl (fun hc => ?_) (fun hc => ?_)) | refine pw_cond rfl (fun hc => ?_) (fun hc => ?_)) <;> (try simp at hc) <;> (try (exfalso; omega))) | with_reducible refine And.intro (by first | omega | (unfold inI; omega) | exact andI_inI _) ?_)
      all_goals first
        | (exfalso; omega)
        | (refine retQ_ret rfl (by simp only [retL, ret1, hget, lk, List.length_map, List.length_nil, List.length_append, List.length_take, if_true, if_false, Nat.reduceEqDiff, Nat.reduceBEq, Bool.false_eq_true, Option.some.injEq]; rfl) (by simp [rowsOf, lk]) ?_; rw [hans]; rfl)
    · have himpl := impl_RankGroups_no l s hn hv
      generalize bP (RgOk l s) = c at himpl
      cases c <;>
      · repeat' (first | (with_reducible refine execL_step (fun K' hK' => ?_); (first | with_reducible refine s_none rfl ?_ | refine s_some2 rfl ?_); simp only [go_sem, h2]) | (with_reducible refine hK' _ ?_; clear hK' K') | with_reducible refine execL_nil ?_ | (with_reducible refine hK _ ?_; clear hK K; try simp only [go_sem, h2]) | with_reducible refine pw_seq_opsK kl17 G_ok (fun K hK => ?_) | (with_reducible refine CallK.eq (himpl) ?_ ?_; (focus (simp [RV.flat, D.sc, datI]; done)); try simp only [go_sem, h2]) | (with_reducible refine CallK.eq (isOrder_ok o ho) ?_ ?_; (focus (simp [RV.flat, D.sc, datI]; done)); try simp only [go_sem, h2]) | with_reducible (first | refine pw_seq (x := .seq _ _) ?_ | refine thenA_normal ?_ | refine thenA_exit ?_ | refine thenA_ret ?_ | refine inBlockA_same ?_ | refine inBlockA_ret ?_ | refine inBlockA_normal ?_) | refine inBlockA_other (by decide) ?_ | with_reducible (first | refine pw_seq (pw_block ?_) | refine pw_seq (pw_skip (thenA_normal ?_)) | refine pw_skip ?_ | refine pw_exit ?_ | refine pw_ret ?_ | refine pw_ops G_ok (fun K hK => ?_)) | with_reducible refine pw_block ?_ | (with_reducible refine pK_mk (fun hc => ?_) (fun hc => ?_) <;> (try simp only [go_sem, h2]) <;> (try simp at hc) <;> (try (exfalso; omega))) | ((first | refine pw_seq (pw_cond rfl (fun hc => ?_) (fun hc => ?_)) | refine pw_cond rfl (fun hc => ?_) (fun hc => ?_)) <;> (try simp at hc) <;> (try (exfalso; omega))) | with_reducible refine And.intro (by first | omega | (unfold inI; omega) | exact andI_inI _) ?_)
        all_goals first
          | (exfalso; omega)
          | (refine retQ_ret rfl (by simp only [retL, ret1, hget, lk, List.length_map, List.length_nil, List.length_append, List.length_take, if_true, if_false, Nat.reduceEqDiff, Nat.reduceBEq, Bool.false_eq_true, Option.some.injEq]; rfl) (by simp [rowsOf, lk]) ?_; rw [hans]; rfl)
theorem l1OwnX_ok (l : List Int) (hn : l.length ≤ 1048576) : FnEq Tryz.prog 34 [.d (.lst 1 (l.map datI))] [.row 3 1 (l.map datI)] := by
  refine fn_ok G_ok Tryz.func34 rfl rfl ?_; simp only [Tryz.ntmps34, List.length_cons, List.length_nil, Nat.reduceAdd, Nat.reduceSub, enm]
  repeat' (first | (with_reducible refine execL_step (fun K' hK' => ?_); (first | with_reducible refine s_none rfl ?_ | refine s_some2 rfl ?_); simp only [go_sem, List.length_map]) | (with_reducible refine hK' _ ?_; clear hK' K') | with_reducible refine execL_nil ?_ | (with_reducible refine hK _ ?_; clear hK K; try simp only [go_sem, List.length_map]) | with_reducible refine pw_seq_opsK kl34 G_ok (fun K hK => ?_) | with_reducible (first | refine pw_seq (x := .seq _ _) ?_ | refine thenA_normal ?_ | refine thenA_exit ?_ | refine thenA_ret ?_ | refine inBlockA_same ?_ | refine inBlockA_ret ?_ | refine inBlockA_normal ?_) | refine inBlockA_other (by decide) ?_ | with_reducible (first | refine pw_seq (pw_block ?_) | refine pw_seq (pw_skip (thenA_normal ?_)) | refine pw_skip ?_ | refine pw_exit ?_ | refine pw_ret ?_ | refine pw_ops G_ok (fun K hK => ?_)) | with_reducible refine pw_block ?_ | (with_reducible refine pK_mk (fun hc => ?_) (fun hc => ?_) <;> (try simp only [go_sem, List.length_map]) <;> (try simp at hc) <;> (try (exfalso; omega))) | ((first | refine pw_seq (pw_cond rfl (fun hc => ?_) (fun hc => ?_)) | refine pw_cond rfl (fun hc => ?_) (fun hc => ?_)) <;> (try simp at hc) <;> (try (exfalso; omega))) | with_reducible refine And.intro (by first | omega | (unfold inI; omega) | exact andI_inI _) ?_)
  refine retQ_ret rfl (by simp only [retL, ret1, hget, lk, List.length_map, List.length_nil, List.length_append, List.length_take, if_true, if_false, Nat.reduceEqDiff, Nat.reduceBEq, Bool.false_eq_true, Option.some.injEq]; rfl) (by simp [rowsOf, lk]) ?_; rfl
theorem spec_ExchangeStarts_ok (l : List EntrantD) (s : Int) (o : List Int) (a b : Int) (hn : l.length ≤ 1048576) (ho : o.length ≤ 1048576) : FnEq Tryz.prog 18 [.d (.lst 2 (l.map EntrantD.dat)), .d (.int .i64 s), .d (.lst 1 (o.map datI)), .d (.int .i64 a), .d (.int .i64 b)] [.row 3 1 (((ansExchangeStarts l s o a b).getD []).map datI), .d (.bool (ansExchangeStarts l s o a b).isSome)] := by
  refine fn_ok G_ok Tryz.func18 rfl rfl ?_; simp only [Tryz.ntmps18, List.length_cons, List.length_nil, Nat.reduceAdd, Nat.reduceSub, enm]
  have hI := spec_IsStartOrder_ok l s o hn ho
  by_cases hS : IsFit l s o
  · have h3 := bP_true hS
    have h4 := bP_true hS.1
    by_cases hx : ExAt o a b
    · obtain ⟨i, j, ea, eb, hi, hj, ei, ej⟩ := exat hx
      have hr := hS.1.1
      have h0 : 0 < l.length := by
        rcases Nat.eq_zero_or_pos l.length with h0 | h0
        · have h5 := hS.2
          rw [gsE_nil h0 hr.2.1] at h5
          exact absurd h5 (fit_nil (by omega))
        · exact h0
      obtain ⟨k, ek, hk1, hk8, hme, hm⟩ := hr.nat
      have hgg := soGroups_ok l k h0 hr.1 hk1 hk8 hm
      have hgk := grpE_bd hr.1 (many l k)
      have hgl := grpE_len l (many l k)
      have hge : gsE l s = grpE l (many l k) := by unfold gsE; rw [hme]
      have hyes : FitOk (gsE l s) (exD o i j) → ansExchangeStarts l s o a b = some (exD o i j) := fun h4 => by
        have e : ansExchangeStarts l s o a b = some (exD o (a - 1).toNat (b - 1).toNat) := optP_pos ⟨hS, hx, by rw [ei, ej]; exact h4⟩
        rw [e, ei, ej]
      have hno : ¬ FitOk (gsE l s) (exD o i j) → ansExchangeStarts l s o a b = none := fun h => optP_neg fun h' => h (by rw [← ei, ← ej]; exact h'.2.2)
      rw [hge] at hyes hno
      generalize ansExchangeStarts l s o a b = ans at hyes hno
      generalize grpE l (many l k) = g at hgg hgk hgl hyes hno
      generalize bP (IsFit l s o) = b1 at hI h3
      generalize bP (IsOk l s o) = b2 at hI h4
      subst b1 b2
      subst ea eb ek
      have hxi := List.getElem?_eq_getElem hi
      have hxj := List.getElem?_eq_getElem hj
      generalize o[i] = x at hxi
      generalize o[j] = y at hxj
      have hse : ((o.map datI).set i [.int .i64 y]).set j [.int .i64 x] = (exD o i j).map datI := by unfold exD; simp [List.getD, hxi, hxj, List.map_set, datI]
      obtain ⟨z, hsj⟩ : ∃ z, ((o.map datI).set i [.int .i64 y])[j]? = some [.int .i64 z] := ⟨(o.set i y)[j]'(by simp; omega), by rw [show (o.map datI).set i [.int .i64 y] = (o.set i y).map datI by rw [List.map_set]; rfl, List.getElem?_map, List.getElem?_eq_getElem (by simp; omega)]; rfl⟩
      have hel := exD_len o i j
      generalize exD o i j = e at hyes hno hse hel
      have hgl8 : g.length ≤ 8 := by omega
      by_cases hf2 : FitOk g e
      · have hb2 := bP_true hf2
        have hans := hyes hf2
        repeat' (first | (with_reducible refine execL_step (fun K' hK' => ?_); (first | with_reducible refine s_none rfl ?_ | refine s_some2 rfl ?_); simp only [go_sem, Int.add_sub_cancel, Int.toNat_natCast, hsj, List.getElem?_map, hxi, hxj, Option.map_some, datI, List.length_map, hi, hj, hse, hb2, hel]) | (with_reducible refine hK' _ ?_; clear hK' K') | with_reducible refine execL_nil ?_ | (with_reducible refine hK _ ?_; clear hK K; try simp only [go_sem, Int.add_sub_cancel, Int.toNat_natCast, hsj, List.getElem?_map, hxi, hxj, Option.map_some, datI, List.length_map, hi, hj, hse, hb2, hel]) | with_reducible refine pw_seq_opsK kl18 G_ok (fun K hK => ?_) | (with_reducible refine CallK.eq (hI) ?_ ?_; (focus (simp [RV.flat, D.sc, datI]; done)); try simp only [go_sem, Int.add_sub_cancel, Int.toNat_natCast, hsj, List.getElem?_map, hxi, hxj, Option.map_some, datI, List.length_map, hi, hj, hse, hb2, hel]) | (with_reducible refine CallK.eq (l1In_ok _ _ _) ?_ ?_; (focus (simp [RV.flat, D.sc, datI]; done)); try simp only [go_sem, Int.add_sub_cancel, Int.toNat_natCast, hsj, List.getElem?_map, hxi, hxj, Option.map_some, datI, List.length_map, hi, hj, hse, hb2, hel]) | (with_reducible refine CallK.eq (l1OwnX_ok o ho) ?_ ?_; (focus (simp [RV.flat, D.sc, datI]; done)); try simp only [go_sem, Int.add_sub_cancel, Int.toNat_natCast, hsj, List.getElem?_map, hxi, hxj, Option.map_some, datI, List.length_map, hi, hj, hse, hb2, hel]) | (with_reducible refine CallK.eq (hgg) ?_ ?_; (focus (simp [RV.flat, D.sc, datI]; done)); try simp only [go_sem, Int.add_sub_cancel, Int.toNat_natCast, hsj, List.getElem?_map, hxi, hxj, Option.map_some, datI, List.length_map, hi, hj, hse, hb2, hel]) | (with_reducible refine CallK.eq (soFits_ok g e (by omega) (by omega) (fun c hc => Nat.le_trans (hgk c hc) (by decide))) ?_ ?_; (focus (simp [RV.flat, D.sc, datI]; done)); try simp only [go_sem, Int.add_sub_cancel, Int.toNat_natCast, hsj, List.getElem?_map, hxi, hxj, Option.map_some, datI, List.length_map, hi, hj, hse, hb2, hel]) | with_reducible (first | refine pw_seq (x := .seq _ _) ?_ | refine thenA_normal ?_ | refine thenA_exit ?_ | refine thenA_ret ?_ | refine inBlockA_same ?_ | refine inBlockA_ret ?_ | refine inBlockA_normal ?_) | refine inBlockA_other (by decide) ?_ | with_reducible (first | refine pw_seq (pw_block ?_) | refine pw_seq (pw_skip (thenA_normal ?_)) | refine pw_skip ?_ | refine pw_exit ?_ | refine pw_ret ?_ | refine pw_ops G_ok (fun K hK => ?_)) | with_reducible refine pw_block ?_ | (with_reducible refine pK_mk (fun hc => ?_) (fun hc => ?_) <;> (try simp only [go_sem, Int.add_sub_cancel, Int.toNat_natCast, hsj, List.getElem?_map, hxi, hxj, Option.map_some, datI, List.length_map, hi, hj, hse, hb2, hel]) <;> (try simp at hc) <;> (try (exfalso; omega))) | ((first | refine pw_seq (pw_cond rfl (fun hc => ?_) (fun hc => ?_)) | refine pw_cond rfl (fun hc => ?_) (fun hc => ?_)) <;> (try simp at hc) <;> (try (exfalso; omega))) | with_reducible refine And.intro (by first | omega | (unfold inI; omega) | exact andI_inI _) ?_)
        all_goals first
          | (exfalso; omega)
          | (refine retQ_ret rfl (by simp only [hel, List.length_map, retL, ret1, hget, lk, List.length_map, List.length_nil, List.length_append, List.length_take, if_true, if_false, Nat.reduceEqDiff, Nat.reduceBEq, Bool.false_eq_true, Option.some.injEq]; rfl) (by simp [rowsOf, lk]) ?_; rw [hans]; rfl)
      · have hb2 := bP_false hf2
        have hans := hno hf2
        repeat' (first | (with_reducible refine execL_step (fun K' hK' => ?_); (first | with_reducible refine s_none rfl ?_ | refine s_some2 rfl ?_); simp only [go_sem, Int.add_sub_cancel, Int.toNat_natCast, hsj, List.getElem?_map, hxi, hxj, Option.map_some, datI, List.length_map, hi, hj, hse, hb2, hel]) | (with_reducible refine hK' _ ?_; clear hK' K') | with_reducible refine execL_nil ?_ | (with_reducible refine hK _ ?_; clear hK K; try simp only [go_sem, Int.add_sub_cancel, Int.toNat_natCast, hsj, List.getElem?_map, hxi, hxj, Option.map_some, datI, List.length_map, hi, hj, hse, hb2, hel]) | with_reducible refine pw_seq_opsK kl18 G_ok (fun K hK => ?_) | (with_reducible refine CallK.eq (hI) ?_ ?_; (focus (simp [RV.flat, D.sc, datI]; done)); try simp only [go_sem, Int.add_sub_cancel, Int.toNat_natCast, hsj, List.getElem?_map, hxi, hxj, Option.map_some, datI, List.length_map, hi, hj, hse, hb2, hel]) | (with_reducible refine CallK.eq (l1In_ok _ _ _) ?_ ?_; (focus (simp [RV.flat, D.sc, datI]; done)); try simp only [go_sem, Int.add_sub_cancel, Int.toNat_natCast, hsj, List.getElem?_map, hxi, hxj, Option.map_some, datI, List.length_map, hi, hj, hse, hb2, hel]) | (with_reducible refine CallK.eq (l1OwnX_ok o ho) ?_ ?_; (focus (simp [RV.flat, D.sc, datI]; done)); try simp only [go_sem, Int.add_sub_cancel, Int.toNat_natCast, hsj, List.getElem?_map, hxi, hxj, Option.map_some, datI, List.length_map, hi, hj, hse, hb2, hel]) | (with_reducible refine CallK.eq (hgg) ?_ ?_; (focus (simp [RV.flat, D.sc, datI]; done)); try simp only [go_sem, Int.add_sub_cancel, Int.toNat_natCast, hsj, List.getElem?_map, hxi, hxj, Option.map_some, datI, List.length_map, hi, hj, hse, hb2, hel]) | (with_reducible refine CallK.eq (soFits_ok g e (by omega) (by omega) (fun c hc => Nat.le_trans (hgk c hc) (by decide))) ?_ ?_; (focus (simp [RV.flat, D.sc, datI]; done)); try simp only [go_sem, Int.add_sub_cancel, Int.toNat_natCast, hsj, List.getElem?_map, hxi, hxj, Option.map_some, datI, List.length_map, hi, hj, hse, hb2, hel]) | with_reducible (first | refine pw_seq (x := .seq _ _) ?_ | refine thenA_normal ?_ | refine thenA_exit ?_ | refine thenA_ret ?_ | refine inBlockA_same ?_ | refine inBlockA_ret ?_ | refine inBlockA_normal ?_) | refine inBlockA_other (by decide) ?_ | with_reducible (first | refine pw_seq (pw_block ?_) | refine pw_seq (pw_skip (thenA_normal ?_)) | refine pw_skip ?_ | refine pw_exit ?_ | refine pw_ret ?_ | refine pw_ops G_ok (fun K hK => ?_)) | with_reducible refine pw_block ?_ | (with_reducible refine pK_mk (fun hc => ?_) (fun hc => ?_) <;> (try simp only [go_sem, Int.add_sub_cancel, Int.toNat_natCast, hsj, List.getElem?_map, hxi, hxj, Option.map_some, datI, List.length_map, hi, hj, hse, hb2, hel]) <;> (try simp at hc) <;> (try (exfalso; omega))) | ((first | refine pw_seq (pw_cond rfl (fun hc => ?_) (fun hc => ?_)) | refine pw_cond rfl (fun hc => ?_) (fun hc => ?_)) <;> (try simp at hc) <;> (try (exfalso; omega))) | with_reducible refine And.intro (by first | omega | (unfold inI; omega) | exact andI_inI _) ?_)
        all_goals first
          | (exfalso; omega)
          | (refine retQ_ret rfl (by simp only [retL, ret1, hget, lk, List.length_map, List.length_nil, List.length_append, List.length_take, if_true, if_false, Nat.reduceEqDiff, Nat.reduceBEq, Bool.false_eq_true, Option.some.injEq]; rfl) (by simp [rowsOf, lk]) ?_; rw [hans]; rfl)
    · have hans : ansExchangeStarts l s o a b = none := optP_neg fun h' => hx h'.2.1
      have hx' : ¬ ((1 ≤ a ∧ a ≤ o.length) ∧ 1 ≤ b ∧ b ≤ o.length) := hx
      repeat' (first | (with_reducible refine execL_step (fun K' hK' => ?_); (first | with_reducible refine s_none rfl ?_ | refine s_some2 rfl ?_); simp only [go_sem, h3, h4]) | (with_reducible refine hK' _ ?_; clear hK' K') | with_reducible refine execL_nil ?_ | (with_reducible refine hK _ ?_; clear hK K; try simp only [go_sem, h3, h4]) | with_reducible refine pw_seq_opsK kl18 G_ok (fun K hK => ?_) | (with_reducible refine CallK.eq (hI) ?_ ?_; (focus (simp [RV.flat, D.sc, datI]; done)); try simp only [go_sem, h3, h4]) | (with_reducible refine CallK.eq (l1In_ok _ _ _) ?_ ?_; (focus (simp [RV.flat, D.sc, datI]; done)); try simp only [go_sem, h3, h4]) | with_reducible (first | refine pw_seq (x := .seq _ _) ?_ | refine thenA_normal ?_ | refine thenA_exit ?_ | refine thenA_ret ?_ | refine inBlockA_same ?_ | refine inBlockA_ret ?_ | refine inBlockA_normal ?_) | refine inBlockA_other (by decide) ?_ | with_reducible (first | refine pw_seq (pw_block ?_) | refine pw_seq (pw_skip (thenA_normal ?_)) | refine pw_skip ?_ | refine pw_exit ?_ | refine pw_ret ?_ | refine pw_ops G_ok (fun K hK => ?_)) | with_reducible refine pw_block ?_ | (with_reducible refine pK_mk (fun hc => ?_) (fun hc => ?_) <;> (try simp only [go_sem, h3, h4]) <;> (try simp at hc) <;> (try (exfalso; omega))) | ((first | refine pw_seq (pw_cond rfl (fun hc => ?_) (fun hc => ?_)) | refine pw_cond rfl (fun hc => ?_) (fun hc => ?_)) <;> (try simp at hc) <;> (try (exfalso; omega))) | with_reducible refine And.intro (by first | omega | (unfold inI; omega) | exact andI_inI _) ?_)
      all_goals first
        | (exfalso; omega)
        | (refine retQ_ret rfl (by simp only [retL, ret1, hget, lk, List.length_map, List.length_nil, List.length_append, List.length_take, if_true, if_false, Nat.reduceEqDiff, Nat.reduceBEq, Bool.false_eq_true, Option.some.injEq]; rfl) (by simp [rowsOf, lk]) ?_; rw [hans]; rfl)
  · have h3 := bP_false hS
    have hans : ansExchangeStarts l s o a b = none := optP_neg fun h' => hS h'.1
    generalize bP (IsOk l s o) = c at hI
    cases c <;>
    · repeat' (first | (with_reducible refine execL_step (fun K' hK' => ?_); (first | with_reducible refine s_none rfl ?_ | refine s_some2 rfl ?_); simp only [go_sem, h3]) | (with_reducible refine hK' _ ?_; clear hK' K') | with_reducible refine execL_nil ?_ | (with_reducible refine hK _ ?_; clear hK K; try simp only [go_sem, h3]) | with_reducible refine pw_seq_opsK kl18 G_ok (fun K hK => ?_) | (with_reducible refine CallK.eq (hI) ?_ ?_; (focus (simp [RV.flat, D.sc, datI]; done)); try simp only [go_sem, h3]) | with_reducible (first | refine pw_seq (x := .seq _ _) ?_ | refine thenA_normal ?_ | refine thenA_exit ?_ | refine thenA_ret ?_ | refine inBlockA_same ?_ | refine inBlockA_ret ?_ | refine inBlockA_normal ?_) | refine inBlockA_other (by decide) ?_ | with_reducible (first | refine pw_seq (pw_block ?_) | refine pw_seq (pw_skip (thenA_normal ?_)) | refine pw_skip ?_ | refine pw_exit ?_ | refine pw_ret ?_ | refine pw_ops G_ok (fun K hK => ?_)) | with_reducible refine pw_block ?_ | (with_reducible refine pK_mk (fun hc => ?_) (fun hc => ?_) <;> (try simp only [go_sem, h3]) <;> (try simp at hc) <;> (try (exfalso; omega))) | ((first | refine pw_seq (pw_cond rfl (fun hc => ?_) (fun hc => ?_)) | refine pw_cond rfl (fun hc => ?_) (fun hc => ?_)) <;> (try simp at hc) <;> (try (exfalso; omega))) | with_reducible refine And.intro (by first | omega | (unfold inI; omega) | exact andI_inI _) ?_)
      all_goals first
        | (exfalso; omega)
        | (refine retQ_ret rfl (by simp only [retL, ret1, hget, lk, List.length_map, List.length_nil, List.length_append, List.length_take, if_true, if_false, Nat.reduceEqDiff, Nat.reduceBEq, Bool.false_eq_true, Option.some.injEq]; rfl) (by simp [rowsOf, lk]) ?_; rw [hans]; rfl)
end Go.Proofs.YtkncdoodlggbcaaGreat
