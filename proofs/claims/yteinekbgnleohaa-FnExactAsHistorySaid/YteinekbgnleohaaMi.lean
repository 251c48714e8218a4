/-
  Items marked and held by the laws' helpers, in the abstract machine.
-/
import Derived.Test.YteinekbgnleohaaIs
import Derived.Test.YteinekbgnleohaaMt
import Derived.Test.YteinekbgnleohaaGm
set_option linter.unusedSimpArgs false
set_option linter.unusedVariables false
set_option maxHeartbeats 2000000
set_option maxRecDepth 100000
namespace Go.Proofs.Yteinekbgnleohaa
open Go.ChangeShapes Go.WideShapes Go.ChangeAt Go.RowKit Go.Deep

def mkIt (q : Int) (x : ItemD) : ItemD := ⟨mkS q x.names.length, mkI (q + (x.names.length : Int)) x.marks.length, decide ((q + (x.names.length : Int) + (x.marks.length : Int)).tmod 3 = 0)⟩
def szM (x : ItemD) : Nat := x.names.length + x.marks.length + 1
theorem markItemS_ok (l : List ItemD) (q : Int) (hk : 0 ≤ q) (hb : q + (gC szM l : Int) ≤ 1099511627776) : FnM Try.prog 16 3 (l.map ItemD.dat) [.int .i64 q] ((gMk mkIt szM q l).map ItemD.dat) [.int .i64 (q + (gC szM l : Int))] := by
  have hlb := gC_ge (c := szM) (fun x => by unfold szM; omega) l
  refine fn_okM G_ok Try.func16 rfl rfl (by simp [D.sc]) (by simp [D.sc]) fun ty => ?_; simp only [Try.ntmps16, List.length_cons, List.length_nil, Nat.reduceAdd, Nat.reduceSub, List.map_cons, List.map_nil, List.length_map, enm]
  repeat' (first | ((with_reducible first | refine execL_step (fun K' hK' => ?_)); (first | with_reducible refine s_none rfl ?_ | refine s_some2 rfl ?_); simp only [go_sem]) | (with_reducible refine hK' _ ?_; clear hK' K') | (with_reducible refine hK _ ?_; clear hK K; try simp only [go_sem]) | with_reducible (first | refine stp ?_ | refine pw_seq_opsK kl16 G_ok (fun K hK => ?_) | refine pw_ops G_ok (fun K hK => ?_)) | refine inBlockA_other (by decide) ?_ | (with_reducible refine pK_mk (fun hc => ?_) (fun hc => ?_) <;> (try simp only [go_sem]) <;> (try simp at hc) <;> (try (exfalso; omega))) | ((first | refine pw_seq (pw_cond rfl (fun hc => ?_) (fun hc => ?_)) | refine pw_cond rfl (fun hc => ?_) (fun hc => ?_)) <;> (try simp at hc) <;> (try (exfalso; omega))) | with_reducible refine And.intro (by first | omega | (unfold inI; omega) | exact andI_inI _) ?_)
  refine pw_loop_over [1, 4, 5, 6, 7, 8, 9, 10, 11, 12, 13, 14, 15, 16, 17, 18, 19, 20, 21, 22, 23, 24, 25, 26, 27, 28, 29, 30, 31, 32, 33, 34] (fun k : Nat => [(5, .d (.int .i64 (k : Int))), (1, .d (.int .i64 (gAt szM q l k)))]) (fun k : Nat => [(0, .deep 1 ty 3 ((gTo mkIt szM q l k).map ItemD.dat))]) 1 (fun k : Nat => k ≤ l.length) (fun k : Nat => l.length - k) 0 (Nat.zero_le _) (fits_mk [] (by simp [renL_d, bdL_d, sg, over, wipe, wl, memN, ins, rm, lk, fitFr, fit1, ren, renL, bd, bdL, app, fitHp, hget, renB, bdB, gTo_zero, gAt_zero] <;> omega)) ?_
  intro k hk
  have hL := gTo_len (f := mkIt) (c := szM) (q := q) hk
  have hct := gC_take (c := szM) l k
  have hat : gAt szM q l k = q + (gC szM (l.take k) : Int) := rfl
  simp only [over, wipe, wl, memN, ins, rm, if_true, if_false, Nat.reduceEqDiff, Bool.false_eq_true, reduceCtorEq]
  by_cases hlt : k < l.length
  · have hx0 := List.getElem?_eq_getElem hlt
    generalize l[k] = x at hx0
    have hct1 := gC_take (c := szM) l (k + 1)
    have hcs := gC_succ (c := szM) hx0
    have hsz : szM x = x.names.length + x.marks.length + 1 := rfl
    have hx := gTo_get (f := mkIt) (c := szM) (q := q) hx0
    have hsu := gAt_succ (c := szM) (q := q) hx0
    rw [hsz] at hsu
    have hend := gH_end (f := mkIt) (c := szM) (q := q) hx0
    generalize hq : gAt szM q l k = r at hat hsu hend
    have hg1 := gH_get (f := mkIt) (c := szM) (q := q) (y := ⟨mkS r x.names.length, x.marks, x.late⟩) hlt
    have hg2 := gH_get (f := mkIt) (c := szM) (q := q) (y := ⟨mkS r x.names.length, mkI (r + (x.names.length : Int)) x.marks.length, x.late⟩) hlt
    have hl1 := gH_len (f := mkIt) (c := szM) (q := q) (y := ⟨mkS r x.names.length, x.marks, x.late⟩) hlt
    have hl2 := gH_len (f := mkIt) (c := szM) (q := q) (y := ⟨mkS r x.names.length, mkI (r + (x.names.length : Int)) x.marks.length, x.late⟩) hlt
    have hs1 : ((gTo mkIt szM q l k).map ItemD.dat).set k [.lst 1 ((mkS r x.names.length).map datS), .lst 1 (x.marks.map datI), .bool x.late] = (gH mkIt szM q l k ⟨mkS r x.names.length, x.marks, x.late⟩).map ItemD.dat := by rw [← gTo_set hlt, List.map_set]; rfl
    have hs2 : ((gH mkIt szM q l k ⟨mkS r x.names.length, x.marks, x.late⟩).map ItemD.dat).set k [.lst 1 ((mkS r x.names.length).map datS), .lst 1 ((mkI (r + (x.names.length : Int)) x.marks.length).map datI), .bool x.late] = (gH mkIt szM q l k ⟨mkS r x.names.length, mkI (r + (x.names.length : Int)) x.marks.length, x.late⟩).map ItemD.dat := by have h := congrArg (List.map ItemD.dat) (gH_set (f := mkIt) (c := szM) (q := q) (y := ⟨mkS r x.names.length, x.marks, x.late⟩) (z := ⟨mkS r x.names.length, mkI (r + (x.names.length : Int)) x.marks.length, x.late⟩) hlt); rw [List.map_set] at h; exact h
    have hs3 : ((gH mkIt szM q l k ⟨mkS r x.names.length, mkI (r + (x.names.length : Int)) x.marks.length, x.late⟩).map ItemD.dat).set k [.lst 1 ((mkS r x.names.length).map datS), .lst 1 ((mkI (r + (x.names.length : Int)) x.marks.length).map datI), .bool (decide ((r + (x.names.length : Int) + (x.marks.length : Int)).tmod 3 = 0))] = (gTo mkIt szM q l (k + 1)).map ItemD.dat := by have h := congrArg (List.map ItemD.dat) (gH_set (f := mkIt) (c := szM) (q := q) (y := ⟨mkS r x.names.length, mkI (r + (x.names.length : Int)) x.marks.length, x.late⟩) (z := mkIt r x) hlt); rw [List.map_set, hend] at h; exact h
    repeat' (first | ((with_reducible first | refine execL_step (fun K' hK' => ?_)); (first | with_reducible refine s_none rfl ?_ | refine s_some2 rfl ?_); simp only [go_sem, hL, hlt, List.getElem?_map, hx, Option.map_some, ItemD.dat, hq]) | (with_reducible refine hK' _ ?_; clear hK' K') | (with_reducible refine hK _ ?_; clear hK K; try simp only [go_sem, hL, hlt, List.getElem?_map, hx, Option.map_some, ItemD.dat, hq]) | with_reducible (first | refine stp ?_ | refine pw_seq_opsK kl16 G_ok (fun K hK => ?_) | refine pw_ops G_ok (fun K hK => ?_)) | refine inBlockA_other (by decide) ?_ | (with_reducible refine pK_mk (fun hc => ?_) (fun hc => ?_) <;> (try simp only [go_sem, hL, hlt, List.getElem?_map, hx, Option.map_some, ItemD.dat, hq]) <;> (try simp at hc) <;> (try (exfalso; omega))) | ((first | refine pw_seq (pw_cond rfl (fun hc => ?_) (fun hc => ?_)) | refine pw_cond rfl (fun hc => ?_) (fun hc => ?_)) <;> (try simp at hc) <;> (try (exfalso; omega))) | with_reducible refine And.intro (by first | omega | (unfold inI; omega) | exact andI_inI _) ?_)
    refine CallK.po (po_callMa (ei := x.names.map datS) rfl rfl rfl rfl rfl (by simp [D.sc]) (by simp [D.sc]) rfl rfl (by simp [alC, hx, ItemD.dat]) (by simp) (by simp [mkS_len]) (markStringS_ok x.names r (by omega) (by omega)) ?_)
    repeat' (first | ((with_reducible first | refine execL_step (fun K' hK' => ?_)); (first | with_reducible refine s_none rfl ?_ | refine s_some2 rfl ?_); simp only [go_sem, setC, List.getElem?_map, hx, Option.map_some, ItemD.dat, List.set_cons_succ, List.set_cons_zero, hs1, hL, hl1, hlt, hg1, List.length_map]) | (with_reducible refine hK' _ ?_; clear hK' K') | (with_reducible refine hK _ ?_; clear hK K; try simp only [go_sem, setC, List.getElem?_map, hx, Option.map_some, ItemD.dat, List.set_cons_succ, List.set_cons_zero, hs1, hL, hl1, hlt, hg1, List.length_map]) | with_reducible (first | refine stp ?_ | refine pw_seq_opsK kl16 G_ok (fun K hK => ?_) | refine pw_ops G_ok (fun K hK => ?_)) | refine inBlockA_other (by decide) ?_ | (with_reducible refine pK_mk (fun hc => ?_) (fun hc => ?_) <;> (try simp only [go_sem, setC, List.getElem?_map, hx, Option.map_some, ItemD.dat, List.set_cons_succ, List.set_cons_zero, hs1, hL, hl1, hlt, hg1, List.length_map]) <;> (try simp at hc) <;> (try (exfalso; omega))) | ((first | refine pw_seq (pw_cond rfl (fun hc => ?_) (fun hc => ?_)) | refine pw_cond rfl (fun hc => ?_) (fun hc => ?_)) <;> (try simp at hc) <;> (try (exfalso; omega))) | with_reducible refine And.intro (by first | omega | (unfold inI; omega) | exact andI_inI _) ?_)
    refine CallK.po (po_callMa (ei := x.marks.map datI) rfl rfl rfl rfl rfl (by simp [D.sc]) (by simp [D.sc]) rfl rfl (by simp [alC, hg1, ItemD.dat]) (by simp) (by simp [mkI_len]) (markIntS_ok x.marks (r + (x.names.length : Int)) (by omega) (by omega)) ?_)
    repeat' (first | ((with_reducible first | refine execL_step (fun K' hK' => ?_)); (first | with_reducible refine s_none rfl ?_ | refine s_some2 rfl ?_); simp only [go_sem, setC, List.getElem?_map, hg1, Option.map_some, ItemD.dat, List.set_cons_succ, List.set_cons_zero, hs2, hl2, hlt, hg2, List.length_map]) | (with_reducible refine hK' _ ?_; clear hK' K') | (with_reducible refine hK _ ?_; clear hK K; try simp only [go_sem, setC, List.getElem?_map, hg1, Option.map_some, ItemD.dat, List.set_cons_succ, List.set_cons_zero, hs2, hl2, hlt, hg2, List.length_map]) | with_reducible (first | refine stp ?_ | refine pw_seq_opsK kl16 G_ok (fun K hK => ?_) | refine pw_ops G_ok (fun K hK => ?_)) | refine inBlockA_other (by decide) ?_ | (with_reducible refine pK_mk (fun hc => ?_) (fun hc => ?_) <;> (try simp only [go_sem, setC, List.getElem?_map, hg1, Option.map_some, ItemD.dat, List.set_cons_succ, List.set_cons_zero, hs2, hl2, hlt, hg2, List.length_map]) <;> (try simp at hc) <;> (try (exfalso; omega))) | ((first | refine pw_seq (pw_cond rfl (fun hc => ?_) (fun hc => ?_)) | refine pw_cond rfl (fun hc => ?_) (fun hc => ?_)) <;> (try simp at hc) <;> (try (exfalso; omega))) | with_reducible refine And.intro (by first | omega | (unfold inI; omega) | exact andI_inI _) ?_)
    refine po_store_deep (e := ItemD.dat ⟨mkS r x.names.length, mkI (r + (x.names.length : Int)) x.marks.length, x.late⟩) (ds := [.bool (decide ((r + (x.names.length : Int) + (x.marks.length : Int)).tmod 3 = 0))]) rfl (G_ok _ _ G4) rfl rfl (by rw [List.getElem?_map, hg2]; rfl) rfl rfl rfl rfl (by simp [ItemD.dat]; decide) ?_
    repeat' (first | ((with_reducible first | refine execL_step (fun K' hK' => ?_)); (first | with_reducible refine s_none rfl ?_ | refine s_some2 rfl ?_); simp only [go_sem, ItemD.dat, spl]) | (with_reducible refine hK' _ ?_; clear hK' K') | (with_reducible refine hK _ ?_; clear hK K; try simp only [go_sem, ItemD.dat, spl]) | with_reducible (first | refine stp ?_ | refine pw_seq_opsK kl16 G_ok (fun K hK => ?_) | refine pw_ops G_ok (fun K hK => ?_)) | refine inBlockA_other (by decide) ?_ | (with_reducible refine pK_mk (fun hc => ?_) (fun hc => ?_) <;> (try simp only [go_sem, ItemD.dat, spl]) <;> (try simp at hc) <;> (try (exfalso; omega))) | ((first | refine pw_seq (pw_cond rfl (fun hc => ?_) (fun hc => ?_)) | refine pw_cond rfl (fun hc => ?_) (fun hc => ?_)) <;> (try simp at hc) <;> (try (exfalso; omega))) | with_reducible refine And.intro (by first | omega | (unfold inI; omega) | exact andI_inI _) ?_)
    all_goals first
      | omega
      | skip
    exact ⟨k + 1, by omega, by omega, (fits_mk [] (by simp [renL_d, bdL_d, sg, over, wipe, wl, memN, ins, rm, lk, fitFr, fit1, ren, renL, bd, bdL, app, fitHp, hget, renB, bdB, hsu, hs3, hsz] <;> omega))⟩
  · obtain rfl : k = l.length := by omega
    repeat' (first | ((with_reducible first | refine execL_step (fun K' hK' => ?_)); (first | with_reducible refine s_none rfl ?_ | refine s_some2 rfl ?_); simp only [go_sem, hL]) | (with_reducible refine hK' _ ?_; clear hK' K') | (with_reducible refine hK _ ?_; clear hK K; try simp only [go_sem, hL]) | with_reducible (first | refine stp ?_ | refine pw_seq_opsK kl16 G_ok (fun K hK => ?_) | refine pw_ops G_ok (fun K hK => ?_)) | refine inBlockA_other (by decide) ?_ | (with_reducible refine pK_mk (fun hc => ?_) (fun hc => ?_) <;> (try simp only [go_sem, hL]) <;> (try simp at hc) <;> (try (exfalso; omega))) | ((first | refine pw_seq (pw_cond rfl (fun hc => ?_) (fun hc => ?_)) | refine pw_cond rfl (fun hc => ?_) (fun hc => ?_)) <;> (try simp at hc) <;> (try (exfalso; omega))) | with_reducible refine And.intro (by first | omega | (unfold inI; omega) | exact andI_inI _) ?_)
    rw [gTo_end, gAt_end]
    exact ⟨rfl, 0, rfl⟩
theorem heldItemS_ok (l : List ItemD) (q : Int) (hk : 0 ≤ q) (hb : q + (gC szM l : Int) ≤ 1099511627776) : FnEq Try.prog 18 [.d (.lst 3 ((gMk mkIt szM q l).map ItemD.dat)), .d (.int .i64 q)] [.d (.int .i64 (q + (gC szM l : Int)))] := by
  have hlb := gC_ge (c := szM) (fun x => by unfold szM; omega) l
  have hl := gMk_len (f := mkIt) (c := szM) q l
  have hbd : (gMk mkIt szM q l).length ≤ 1099511627776 := by omega
  refine fn_ok G_ok Try.func18 rfl rfl ?_; simp only [Try.ntmps18, List.length_cons, List.length_nil, Nat.reduceAdd, Nat.reduceSub, enm]
  repeat' (first | ((with_reducible first | refine execL_step (fun K' hK' => ?_)); (first | with_reducible refine s_none rfl ?_ | refine s_some2 rfl ?_); simp only [go_sem]) | (with_reducible refine hK' _ ?_; clear hK' K') | (with_reducible refine hK _ ?_; clear hK K; try simp only [go_sem]) | with_reducible (first | refine stp ?_ | refine pw_seq_opsK kl18 G_ok (fun K hK => ?_) | refine pw_ops G_ok (fun K hK => ?_)) | refine inBlockA_other (by decide) ?_ | (with_reducible refine pK_mk (fun hc => ?_) (fun hc => ?_) <;> (try simp only [go_sem]) <;> (try simp at hc) <;> (try (exfalso; omega))) | ((first | refine pw_seq (pw_cond rfl (fun hc => ?_) (fun hc => ?_)) | refine pw_cond rfl (fun hc => ?_) (fun hc => ?_)) <;> (try simp at hc) <;> (try (exfalso; omega))) | with_reducible refine And.intro (by first | omega | (unfold inI; omega) | exact andI_inI _) ?_)
  refine pw_loop_over [1, 4, 5, 6, 7, 8, 9, 10, 11, 12, 13, 14, 15, 16, 17, 18, 19, 20, 21, 22, 23, 24, 25, 26, 27, 28, 29, 30, 31, 32, 33, 34, 35, 36, 37, 38, 39, 40] (fun k : Nat => [(5, .d (.int .i64 (k : Int))), (1, .d (.int .i64 (gAt szM q l k)))]) (fun k : Nat => []) 0 (fun k : Nat => k ≤ l.length) (fun k : Nat => l.length - k) 0 (Nat.zero_le _) (fits_mk [] (by simp [renL_d, bdL_d, sg, over, wipe, wl, memN, ins, rm, lk, fitFr, fit1, ren, renL, bd, bdL, app, fitHp, hget, renB, bdB, gAt_zero] <;> omega)) ?_
  intro k hk
  have hct := gC_take (c := szM) l k
  have hat : gAt szM q l k = q + (gC szM (l.take k) : Int) := rfl
  simp only [over, wipe, wl, memN, ins, rm, if_true, if_false, Nat.reduceEqDiff, Bool.false_eq_true, reduceCtorEq]
  by_cases hlt : k < l.length
  · have hx0 := List.getElem?_eq_getElem hlt
    generalize l[k] = x at hx0
    have hct1 := gC_take (c := szM) l (k + 1)
    have hcs := gC_succ (c := szM) hx0
    have hsz : szM x = x.names.length + x.marks.length + 1 := rfl
    have hx := gMk_get (f := mkIt) (c := szM) (q := q) hx0
    have hsu := gAt_succ (c := szM) (q := q) hx0
    rw [hsz] at hsu
    generalize hq : gAt szM q l k = r at hat hsu hx
    have h1 := heldStringS_ok r x.names.length (by omega) (by omega)
    have h2 := heldIntS_ok (r + (x.names.length : Int)) x.marks.length (by omega) (by omega)
    have hde : ∀ z : Int, decide (z.tmod 3 = 0) = (z.tmod 3 == 0) := fun _ => rfl
    repeat' (first | ((with_reducible first | refine execL_step (fun K' hK' => ?_)); (first | with_reducible refine s_none rfl ?_ | refine s_some2 rfl ?_); simp only [go_sem, hl, hlt, List.getElem?_map, hx, Option.map_some, ItemD.dat, mkIt, hq, hde, beq_self_eq_true]) | (with_reducible refine hK' _ ?_; clear hK' K') | (with_reducible refine hK _ ?_; clear hK K; try simp only [go_sem, hl, hlt, List.getElem?_map, hx, Option.map_some, ItemD.dat, mkIt, hq, hde, beq_self_eq_true]) | with_reducible (first | refine stp ?_ | refine pw_seq_opsK kl18 G_ok (fun K hK => ?_) | refine pw_ops G_ok (fun K hK => ?_)) | ((with_reducible first | apply CallK.eq); (focus (with_reducible first | exact h1 | exact h2)); (focus (first | exact rfl | (simp [RV.flat, D.sc, datI]; done))); try simp only [go_sem, hl, hlt, List.getElem?_map, hx, Option.map_some, ItemD.dat, mkIt, hq, hde, beq_self_eq_true]) | refine inBlockA_other (by decide) ?_ | (with_reducible refine pK_mk (fun hc => ?_) (fun hc => ?_) <;> (try simp only [go_sem, hl, hlt, List.getElem?_map, hx, Option.map_some, ItemD.dat, mkIt, hq, hde, beq_self_eq_true]) <;> (try simp at hc) <;> (try (exfalso; omega))) | ((first | refine pw_seq (pw_cond rfl (fun hc => ?_) (fun hc => ?_)) | refine pw_cond rfl (fun hc => ?_) (fun hc => ?_)) <;> (try simp at hc) <;> (try (exfalso; omega))) | with_reducible refine And.intro (by first | omega | (unfold inI; omega) | exact andI_inI _) ?_)
    all_goals first
      | (exfalso; omega)
      | exact ⟨k + 1, by omega, by omega, (fits_mk [] (by simp [renL_d, bdL_d, sg, over, wipe, wl, memN, ins, rm, lk, fitFr, fit1, ren, renL, bd, bdL, app, fitHp, hget, renB, bdB, hsu, hsz] <;> omega))⟩
  · repeat' (first | ((with_reducible first | refine execL_step (fun K' hK' => ?_)); (first | with_reducible refine s_none rfl ?_ | refine s_some2 rfl ?_); simp only [go_sem, hl]) | (with_reducible refine hK' _ ?_; clear hK' K') | (with_reducible refine hK _ ?_; clear hK K; try simp only [go_sem, hl]) | with_reducible (first | refine stp ?_ | refine pw_seq_opsK kl18 G_ok (fun K hK => ?_) | refine pw_ops G_ok (fun K hK => ?_)) | refine inBlockA_other (by decide) ?_ | (with_reducible refine pK_mk (fun hc => ?_) (fun hc => ?_) <;> (try simp only [go_sem, hl]) <;> (try simp at hc) <;> (try (exfalso; omega))) | ((first | refine pw_seq (pw_cond rfl (fun hc => ?_) (fun hc => ?_)) | refine pw_cond rfl (fun hc => ?_) (fun hc => ?_)) <;> (try simp at hc) <;> (try (exfalso; omega))) | with_reducible refine And.intro (by first | omega | (unfold inI; omega) | exact andI_inI _) ?_)
    refine retQ_ret rfl rfl (by simp [rowsOf, lk]) ?_; rw [show k = l.length by omega, gAt_end]
end Go.Proofs.Yteinekbgnleohaa
