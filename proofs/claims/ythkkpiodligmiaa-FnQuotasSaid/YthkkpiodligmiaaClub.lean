/-
  Clubs: when they are valid, how many of a field each has; the program's functions and the reference's, in the abstract machine.
-/
import Derived.Test.YthkkpiodligmiaaFld
import Derived.Test.YthkkpiodligmiaaCl
set_option linter.unusedSimpArgs false
set_option linter.unusedVariables false
set_option maxHeartbeats 2000000
set_option maxRecDepth 100000
namespace Go.Proofs.Ythkkpiodligmiaa
open Go.RowKit

theorem find_at2 {α : Type} {p : α → Bool} : ∀ {l : List α} {k : Nat} {x : α}, l[k]? = some x → p x = true → (∀ y ∈ l.take k, p y = false) → l.find? p = some x
  | [], k, x, h, _, _ => by simp at h
  | y :: r, 0, x, h, hp, _ => by simp at h; subst h; simp [hp]
  | y :: r, k + 1, x, h, hp, hn => by
    have h1 : p y = false := hn y (by simp)
    rw [List.find?_cons, h1]
    exact find_at2 (l := r) (by simpa using h) hp fun z hz => hn z (by rw [List.take_succ_cons]; exact List.mem_cons_of_mem _ hz)
/-- valid clubs, from the reference's two tests -/
theorem clubs_two {l : List ClubD} : ClubsOk l ↔ (∀ (k : Nat) (x : ClubD), l[k]? = some x → 1 ≤ x.club ∧ x.club ≤ 20) ∧ OrdOk (l.map ClubD.skater) := by
  constructor
  · intro h
    refine ⟨fun k x hx => ⟨(h.2 k x hx).2.2.1, (h.2 k x hx).2.2.2.1⟩, by rw [List.length_map]; exact h.1, fun j y hj hy => ?_⟩
    rw [List.getElem?_map] at hy
    cases hx : l[j]? with
    | none => rw [hx] at hy; cases hy
    | some x =>
      rw [hx] at hy
      cases hy
      have q := h.2 j x hx
      exact ⟨q.1, q.2.1, by rw [← List.map_take]; exact q.2.2.2.2⟩
  · rintro ⟨h1, h2, h3⟩
    rw [List.length_map] at h2 h3
    refine ⟨h2, fun k x hx => ?_⟩
    have q := h3 k x.skater (List.getElem?_eq_some_iff.1 hx).1 (by rw [List.getElem?_map, hx]; rfl)
    exact ⟨q.1, q.2.1, (h1 k x hx).1, (h1 k x hx).2, by rw [List.map_take]; exact q.2.2⟩
/-- the club of a skater -/
def clubOf (l : List ClubD) (n : Int) : Int := ((l.find? fun x => x.skater == n).getD ⟨0, 0⟩).club
/-- how often each of 1 .. 20 stands in a list -/
def cnt20 (vs : List Int) : List Int := (List.range 20).map fun c : Nat => ((vs.count ((c : Int) + 1) : Nat) : Int)
theorem cnt20_len (vs : List Int) : (cnt20 vs).length = 20 := by simp [cnt20]
theorem cnt20_get (vs : List Int) {v : Int} (h1 : 1 ≤ v) (h2 : v ≤ 20) : (cnt20 vs)[(v - 1).toNat]? = some ((vs.count v : Nat) : Int) := by
  unfold cnt20
  rw [List.getElem?_map, List.getElem?_range (by omega)]
  simp only [Option.map_some]
  rw [show (((v - 1).toNat : Nat) : Int) + 1 = v by omega]
theorem cnt20_snoc (vs : List Int) {v : Int} (h1 : 1 ≤ v) (h2 : v ≤ 20) : (cnt20 vs).set (v - 1).toNat (((vs.count v : Nat) : Int) + 1) = cnt20 (vs ++ [v]) := by
  apply List.ext_getElem?
  intro i
  rw [List.getElem?_set]
  by_cases hi : i < 20
  · have e : ∀ ws : List Int, (cnt20 ws)[i]? = some ((ws.count ((i : Int) + 1) : Nat) : Int) := fun ws => by unfold cnt20; rw [List.getElem?_map, List.getElem?_range hi]; rfl
    rw [e, e]
    by_cases hv : (v - 1).toNat = i
    · subst hv
      rw [if_pos rfl, if_pos (by rw [cnt20_len]; exact hi), show (((v - 1).toNat : Nat) : Int) + 1 = v by omega, List.count_append]
      simp
    · rw [if_neg hv, List.count_append, List.count_singleton]
      rw [if_neg (by simp; omega)]
      simp
  · rw [List.getElem?_eq_none (by rw [cnt20_len]; omega), List.getElem?_eq_none (by rw [cnt20_len]; omega)]
    split
    · rw [if_neg (by rw [cnt20_len]; omega)]
    · rfl
theorem cnt20_zero : (cnt20 []).map datI = List.replicate 20 [.int .i64 0] := rfl
theorem cnt20_perm {vs ws : List Int} (h : vs.Perm ws) : cnt20 vs = cnt20 ws := by
  unfold cnt20; simp only [h.count_eq]
noncomputable abbrev ansClubCounts (l : List ClubD) (s : List Int) : Option (List Int) := optP (ClubsOk l ∧ OrdOk s ∧ ∀ n ∈ s, skB2 l n = true) (cnt20 (s.map (clubOf l)))
theorem OrdOk.nodup {l : List Int} (h : OrdOk l) : l.Nodup := by
  unfold List.Nodup
  rw [List.pairwise_iff_getElem]
  intro i j hi hj hij e
  have q := (h.2 j l[j] hj (List.getElem?_eq_getElem hj)).2.2
  exact q (by rw [← e]; exact List.mem_of_getElem? (i := i) (by rw [List.getElem?_take_of_lt hij]; exact List.getElem?_eq_getElem hi))
/-- the clubs' skaters that stand in a list -/
noncomputable def inS (s : List Int) (x : ClubD) : Bool := bP (x.skater ∈ s)
theorem club_perm {l : List ClubD} {s : List Int} (hl : ClubsOk l) (hs : OrdOk s) : (fm (inS s) ClubD.skater l).Perm (s.filter (skB2 l)) := by
  have hn := (clubs_two.1 hl).2.nodup
  have h1 : (fm (inS s) ClubD.skater l).Nodup := List.Pairwise.sublist ((List.filter_sublist (p := inS s) (l := l)).map ClubD.skater) hn
  have h2 : (s.filter (skB2 l)).Nodup := List.Pairwise.filter _ hs.nodup
  rw [List.perm_ext_iff_of_nodup h1 h2]
  intro n
  rw [fm_mem, List.mem_filter, skB2_iff, List.mem_map]
  constructor
  · rintro ⟨x, hx, hp, rfl⟩; exact ⟨bP_iff.1 hp, x, hx, rfl⟩
  · rintro ⟨hn, x, hx, rfl⟩; exact ⟨x, hx, bP_true hn, rfl⟩
theorem clubOf_at {l : List ClubD} {k : Nat} {x : ClubD} (hl : ClubsOk l) (hx : l[k]? = some x) : clubOf l x.skater = x.club := by
  unfold clubOf
  rw [find_at2 hx (by simp) fun y hy => ?_]
  · rfl
  · have q := (hl.2 k x hx).2.2.2.2
    simp only [beq_eq_false_iff_ne, ne_eq]
    exact fun e => q (by rw [← e]; exact List.mem_map.2 ⟨y, hy, rfl⟩)
theorem club_cnt {l : List ClubD} {s : List Int} (hl : ClubsOk l) (hs : OrdOk s) (ha : ∀ n ∈ s, skB2 l n = true) : cnt20 (fm (inS s) ClubD.club l) = cnt20 (s.map (clubOf l)) := by
  have h1 : fm (inS s) ClubD.club l = (fm (inS s) ClubD.skater l).map (clubOf l) := by
    unfold fm
    rw [List.map_map]
    refine List.map_congr_left fun x hx => ?_
    obtain ⟨k, hk⟩ := List.getElem?_of_mem (List.mem_filter.1 hx).1
    exact (clubOf_at hl hk).symm
  rw [h1]
  have h2 : s.filter (skB2 l) = s := List.filter_eq_self.2 ha
  have h3 := (club_perm hl hs).map (clubOf l)
  rw [h2] at h3
  exact cnt20_perm h3
theorem club_found {l : List ClubD} {s : List Int} (hl : ClubsOk l) (hs : OrdOk s) : s.length ≤ (fm (inS s) ClubD.club l).length ↔ ∀ n ∈ s, skB2 l n = true := by
  have h1 : (fm (inS s) ClubD.club l).length = (fm (inS s) ClubD.skater l).length := by unfold fm; simp
  rw [h1, (club_perm hl hs).length_eq]
  constructor
  · intro h n hn
    by_cases e : skB2 l n = true
    · exact e
    · have := List.length_filter_lt_length_iff_exists.2 ⟨n, hn, e⟩
      omega
  · intro h
    rw [List.filter_eq_self.2 h]
    exact Nat.le_refl _

theorem indexClub_ok (xs : List ClubD) (fid : Nat) (caps : List PV) (p : ClubD → Bool) (hn : xs.length ≤ 16777216) (hcap : CapOK caps) (hf : ∀ x : ClubD, FnEq Try.prog fid (.agg [.d (.int .i64 x.skater), .d (.int .i64 x.club)] :: caps) [.d (.bool (p x))]) :
    FnEq Try.prog 118 [.d (.lst 2 (xs.map ClubD.dat)), .fn fid caps] [.d (.int .i64 (fIx p xs 0))] := by
  refine fn_ok G_ok Try.func118 rfl rfl ?_; simp only [Try.ntmps118, List.length_cons, List.length_nil, Nat.reduceAdd, Nat.reduceSub, enm]
  repeat' (first | ((with_reducible first | refine execL_step (fun K' hK' => ?_)); (first | with_reducible refine s_none rfl ?_ | refine s_some2 rfl ?_); simp only [go_sem]) | (with_reducible refine hK' _ ?_; clear hK' K') | (with_reducible refine hK _ ?_; clear hK K; try simp only [go_sem]) | with_reducible (first | refine stp ?_ | refine pw_seq_opsK kl118 G_ok (fun K hK => ?_) | refine pw_ops G_ok (fun K hK => ?_)) | refine inBlockA_other (by decide) ?_ | (with_reducible refine pK_mk (fun hc => ?_) (fun hc => ?_) <;> (try simp only [go_sem]) <;> (try simp at hc) <;> (try (exfalso; omega))) | ((first | refine pw_seq (pw_cond rfl (fun hc => ?_) (fun hc => ?_)) | refine pw_cond rfl (fun hc => ?_) (fun hc => ?_)) <;> (try simp at hc) <;> (try (exfalso; omega))) | with_reducible refine And.intro (by first | omega | (unfold inI; omega) | exact andI_inI _) ?_)
  refine pw_loop_over [4, 5, 8, 9, 10, 11, 12, 13, 14, 15, 16, 17, 18] (fun k : Nat => [(8, .d (.int .i64 (k : Int)))]) (fun k : Nat => []) 0 (fun k : Nat => k ≤ xs.length ∧ ∀ y ∈ xs.take k, p y = false) (fun k : Nat => xs.length - k) 0 ⟨Nat.zero_le _, by simp⟩ (fits_mk [] (by simp [renL_d, bdL_d, sg, over, wipe, wl, memN, ins, rm, lk, fitFr, fit1, ren, renL, bd, bdL, app, fitHp, hget, renB, bdB, hcap.ren, hcap.bd] <;> omega)) ?_
  rintro k ⟨hk, hJ⟩
  simp only [over, wipe, wl, memN, ins, rm, if_true, if_false, Nat.reduceEqDiff, Bool.false_eq_true, reduceCtorEq]
  by_cases hlt : k < xs.length
  · have hx := List.getElem?_eq_getElem hlt
    generalize xs[k] = x at hx
    repeat' (first | ((with_reducible first | refine execL_step (fun K' hK' => ?_)); (first | with_reducible refine s_none rfl ?_ | refine s_some2 rfl ?_); simp only [go_sem, List.getElem?_map, hx, Option.map_some, ClubD.dat, hcap.t2]) | (with_reducible refine hK' _ ?_; clear hK' K') | (with_reducible refine hK _ ?_; clear hK K; try simp only [go_sem, List.getElem?_map, hx, Option.map_some, ClubD.dat, hcap.t2]) | with_reducible (first | refine stp ?_ | refine pw_seq_opsK kl118 G_ok (fun K hK => ?_) | refine pw_ops G_ok (fun K hK => ?_)) | ((with_reducible first | apply CallK.eq); (focus (with_reducible first | exact hf x)); (focus (first | exact rfl | (simp [RV.flat, D.sc, datI]; done))); try simp only [go_sem, List.getElem?_map, hx, Option.map_some, ClubD.dat, hcap.t2]) | refine inBlockA_other (by decide) ?_ | (with_reducible refine pK_mk (fun hc => ?_) (fun hc => ?_) <;> (try simp only [go_sem, List.getElem?_map, hx, Option.map_some, ClubD.dat, hcap.t2]) <;> (try simp at hc) <;> (try (exfalso; omega))) | ((first | refine pw_seq (pw_cond rfl (fun hc => ?_) (fun hc => ?_)) | refine pw_cond rfl (fun hc => ?_) (fun hc => ?_)) <;> (try simp at hc) <;> (try (exfalso; omega))) | with_reducible refine And.intro (by first | omega | (unfold inI; omega) | exact andI_inI _) ?_)
    · refine retQ_ret rfl rfl (by simp [rowsOf, lk]) ?_; rw [fIx_at (i := 0) hx hc hJ]; simp
    · exact ⟨k + 1, ⟨by omega, none_snoc hJ hx hc⟩, by omega, (fits_mk [] (by simp [renL_d, bdL_d, sg, over, wipe, wl, memN, ins, rm, lk, fitFr, fit1, ren, renL, bd, bdL, app, fitHp, hget, renB, bdB, hcap.ren, hcap.bd] <;> omega))⟩
  · repeat' (first | ((with_reducible first | refine execL_step (fun K' hK' => ?_)); (first | with_reducible refine s_none rfl ?_ | refine s_some2 rfl ?_); simp only [go_sem]) | (with_reducible refine hK' _ ?_; clear hK' K') | (with_reducible refine hK _ ?_; clear hK K; try simp only [go_sem]) | with_reducible (first | refine stp ?_ | refine pw_seq_opsK kl118 G_ok (fun K hK => ?_) | refine pw_ops G_ok (fun K hK => ?_)) | refine inBlockA_other (by decide) ?_ | (with_reducible refine pK_mk (fun hc => ?_) (fun hc => ?_) <;> (try simp only [go_sem]) <;> (try simp at hc) <;> (try (exfalso; omega))) | ((first | refine pw_seq (pw_cond rfl (fun hc => ?_) (fun hc => ?_)) | refine pw_cond rfl (fun hc => ?_) (fun hc => ?_)) <;> (try simp at hc) <;> (try (exfalso; omega))) | with_reducible refine And.intro (by first | omega | (unfold inI; omega) | exact andI_inI _) ?_)
    refine retQ_ret rfl rfl (by simp [rowsOf, lk]) ?_; rw [fIx_none (none_all hJ (by omega))]
theorem ClubCounts1_ok (x : ClubD) (n : Int) : FnEq Try.prog 119 [.agg [.d (.int .i64 x.skater), .d (.int .i64 x.club)], .eptr [.int .i64 n]] [.d (.bool (isSk n x))] := by
  refine fn_ok G_ok Try.func119 rfl rfl ?_; simp only [Try.ntmps119, List.length_cons, List.length_nil, Nat.reduceAdd, Nat.reduceSub, enm]
  repeat' (first | ((with_reducible first | refine execL_step (fun K' hK' => ?_)); (first | with_reducible refine s_none rfl ?_ | refine s_some2 rfl ?_); simp only [go_sem]) | (with_reducible refine hK' _ ?_; clear hK' K') | (with_reducible refine hK _ ?_; clear hK K; try simp only [go_sem]) | with_reducible (first | refine stp ?_ | refine pw_seq_opsK kl119 G_ok (fun K hK => ?_) | refine pw_ops G_ok (fun K hK => ?_)) | refine inBlockA_other (by decide) ?_ | (with_reducible refine pK_mk (fun hc => ?_) (fun hc => ?_) <;> (try simp only [go_sem]) <;> (try simp at hc) <;> (try (exfalso; omega))) | ((first | refine pw_seq (pw_cond rfl (fun hc => ?_) (fun hc => ?_)) | refine pw_cond rfl (fun hc => ?_) (fun hc => ?_)) <;> (try simp at hc) <;> (try (exfalso; omega))) | with_reducible refine And.intro (by first | omega | (unfold inI; omega) | exact andI_inI _) ?_)
  refine retQ_ret rfl rfl (by simp [rowsOf, lk]) ?_; rfl
theorem quAllClubs_ok (l : List ClubD) (hn : l.length ≤ 1048576) : FnEq Try.prog 120 [.d (.lst 2 (l.map ClubD.dat))] [.d (.bool (bP (ClubsOk l)))] := by
  refine fn_ok G_ok Try.func120 rfl rfl ?_; simp only [Try.ntmps120, List.length_cons, List.length_nil, Nat.reduceAdd, Nat.reduceSub, enm]
  repeat' (first | ((with_reducible first | refine execL_step (fun K' hK' => ?_)); (first | with_reducible refine s_none rfl ?_ | refine s_some2 rfl ?_); simp only [go_sem]) | (with_reducible refine hK' _ ?_; clear hK' K') | (with_reducible refine hK _ ?_; clear hK K; try simp only [go_sem]) | with_reducible (first | refine stp ?_ | refine pw_seq_opsK kl120 G_ok (fun K hK => ?_) | refine pw_ops G_ok (fun K hK => ?_)) | refine inBlockA_other (by decide) ?_ | (with_reducible refine pK_mk (fun hc => ?_) (fun hc => ?_) <;> (try simp only [go_sem]) <;> (try simp at hc) <;> (try (exfalso; omega))) | ((first | refine pw_seq (pw_cond rfl (fun hc => ?_) (fun hc => ?_)) | refine pw_cond rfl (fun hc => ?_) (fun hc => ?_)) <;> (try simp at hc) <;> (try (exfalso; omega))) | with_reducible refine And.intro (by first | omega | (unfold inI; omega) | exact andI_inI _) ?_)
  refine pw_loop_over [2, 3, 5, 8, 9, 10, 11, 12, 13, 14, 15, 16, 17, 18, 19, 20, 21] (fun k : Nat => [(8, .d (.int .i64 (k : Int))), (3, .row 0 (l.take k).length)]) (fun k : Nat => [(0, .row 3 1 (((l.take k).map ClubD.skater).map datI))]) 1 (fun k : Nat => k ≤ l.length ∧ ∀ j x, j < k → l[j]? = some x → 1 ≤ x.club ∧ x.club ≤ 20) (fun k : Nat => l.length - k) 0 ⟨Nat.zero_le _, fun j x h => absurd h (by omega)⟩ (fits_mk [] (by simp [renL_d, bdL_d, sg, over, wipe, wl, memN, ins, rm, lk, fitFr, fit1, ren, renL, bd, bdL, app, fitHp, hget, renB, bdB] <;> omega)) ?_
  rintro k ⟨hk, hJ⟩
  have hT : (l.take k).length ≤ k := List.length_take_le _ _
  simp only [over, wipe, wl, memN, ins, rm, if_true, if_false, Nat.reduceEqDiff, Bool.false_eq_true, reduceCtorEq]
  by_cases hlt : k < l.length
  · have hx := List.getElem?_eq_getElem hlt
    generalize l[k] = x at hx
    repeat' (first | ((with_reducible first | refine execL_step (fun K' hK' => ?_)); (first | with_reducible refine s_none rfl ?_ | refine s_some2 rfl ?_); simp only [go_sem, List.getElem?_map, hx, Option.map_some, ClubD.dat]) | (with_reducible refine hK' _ ?_; clear hK' K') | (with_reducible refine hK _ ?_; clear hK K; try simp only [go_sem, List.getElem?_map, hx, Option.map_some, ClubD.dat]) | with_reducible (first | refine stp ?_ | refine pw_seq_opsK kl120 G_ok (fun K hK => ?_) | refine pw_ops G_ok (fun K hK => ?_)) | ((with_reducible first | apply CallK.eq); (focus (with_reducible first | exact l1In_ok _ _ _)); (focus (first | exact rfl | (simp [RV.flat, D.sc, datI]; done))); try simp only [go_sem, List.getElem?_map, hx, Option.map_some, ClubD.dat]) | refine inBlockA_other (by decide) ?_ | (with_reducible refine pK_mk (fun hc => ?_) (fun hc => ?_) <;> (try simp only [go_sem, List.getElem?_map, hx, Option.map_some, ClubD.dat]) <;> (try simp at hc) <;> (try (exfalso; omega))) | ((first | refine pw_seq (pw_cond rfl (fun hc => ?_) (fun hc => ?_)) | refine pw_cond rfl (fun hc => ?_) (fun hc => ?_)) <;> (try simp at hc) <;> (try (exfalso; omega))) | with_reducible refine And.intro (by first | omega | (unfold inI; omega) | exact andI_inI _) ?_)
    · refine retQ_ret rfl rfl (by simp [rowsOf, lk]) ?_; rw [bP_false fun h => by have := (clubs_two.1 h).1 k x hx; omega]
    · exact ⟨k + 1, ⟨by omega, fun j y hj hy => by
        by_cases e : j = k
        · subst e; rw [hx] at hy; cases hy; omega
        · exact hJ j y (by omega) hy⟩, by omega, (fits_mk [] (by simp [renL_d, bdL_d, sg, over, wipe, wl, memN, ins, rm, lk, fitFr, fit1, ren, renL, bd, bdL, app, fitHp, hget, renB, bdB, map_snoc hx, datI] <;> omega))⟩
  · have e : l.take k = l := List.take_of_length_le (by omega)
    repeat' (first | ((with_reducible first | refine execL_step (fun K' hK' => ?_)); (first | with_reducible refine s_none rfl ?_ | refine s_some2 rfl ?_); simp only [go_sem, e]) | (with_reducible refine hK' _ ?_; clear hK' K') | (with_reducible refine hK _ ?_; clear hK K; try simp only [go_sem, e]) | with_reducible (first | refine stp ?_ | refine pw_seq_opsK kl120 G_ok (fun K hK => ?_) | refine pw_ops G_ok (fun K hK => ?_)) | ((with_reducible first | apply CallK.eq); (focus (with_reducible first | exact quList_ok (l.map ClubD.skater) (by simp; omega))); (focus (first | exact rfl | (simp [RV.flat, D.sc, datI]; done))); try simp only [go_sem, e]) | refine inBlockA_other (by decide) ?_ | (with_reducible refine pK_mk (fun hc => ?_) (fun hc => ?_) <;> (try simp only [go_sem, e]) <;> (try simp at hc) <;> (try (exfalso; omega))) | ((first | refine pw_seq (pw_cond rfl (fun hc => ?_) (fun hc => ?_)) | refine pw_cond rfl (fun hc => ?_) (fun hc => ?_)) <;> (try simp at hc) <;> (try (exfalso; omega))) | with_reducible refine And.intro (by first | omega | (unfold inI; omega) | exact andI_inI _) ?_)
    refine retQ_ret rfl rfl (by simp [rowsOf, lk]) ?_
    rw [show bP (OrdOk (l.map ClubD.skater)) = bP (ClubsOk l) from bP_congr ⟨fun h => clubs_two.2 ⟨fun j y hy => hJ j y (by have := (List.getElem?_eq_some_iff.1 hy).1; omega) hy, h⟩, fun h => (clubs_two.1 h).2⟩]
theorem impl_ClubCounts_ok (xs0 : List ClubD) (xs1 : List Int) (hn0 : xs0.length ≤ 1048576) (hn1 : xs1.length ≤ 1048576) : FnEq Try.prog 56 [.d (.lst 2 (xs0.map ClubD.dat)), .d (.lst 1 (xs1.map datI))] [.row 3 1 (((ansClubCounts xs0 xs1).getD []).map datI), .d (.bool (ansClubCounts xs0 xs1).isSome)] := by
  refine fn_ok G_ok Try.func56 rfl rfl ?_; simp only [Try.ntmps56, List.length_cons, List.length_nil, Nat.reduceAdd, Nat.reduceSub, enm]
  repeat' (first | ((with_reducible first | refine execL_step (fun K' hK' => ?_)); (first | with_reducible refine s_none rfl ?_ | refine s_some2 rfl ?_); simp only [go_sem]) | (with_reducible refine hK' _ ?_; clear hK' K') | (with_reducible refine hK _ ?_; clear hK K; try simp only [go_sem]) | with_reducible (first | refine stp ?_ | refine pw_seq_opsK kl56 G_ok (fun K hK => ?_) | refine pw_ops G_ok (fun K hK => ?_)) | ((with_reducible first | apply CallK.eq); (focus (with_reducible first | exact isClubList_ok xs0 (by omega) | exact isOrder_ok xs1 (by omega))); (focus (first | exact rfl | (simp [RV.flat, D.sc, datI]; done))); try simp only [go_sem]) | refine inBlockA_other (by decide) ?_ | (with_reducible refine pK_mk (fun hc => ?_) (fun hc => ?_) <;> (try simp only [go_sem]) <;> (try simp at hc) <;> (try (exfalso; omega))) | ((first | refine pw_seq (pw_cond rfl (fun hc => ?_) (fun hc => ?_)) | refine pw_cond rfl (fun hc => ?_) (fun hc => ?_)) <;> (try simp at hc) <;> (try (exfalso; omega))) | with_reducible refine And.intro (by first | omega | (unfold inI; omega) | exact andI_inI _) ?_)
  · refine retQ_ret rfl (by simp only [retL, ret1, hget, lk, List.length_map, List.length_nil, List.length_append, List.length_take, if_true, if_false, Nat.reduceEqDiff, Nat.reduceBEq, Bool.false_eq_true, Option.some.injEq]; rfl) (by simp [rowsOf, lk]) ?_; simp only [ansClubCounts]; rw [optP_neg (fun h => not_bP (by assumption) h.2.1)]; rfl
  · have hl : ClubsOk xs0 := of_bP (by assumption)
    have hs : OrdOk xs1 := of_bP (by assumption)
    have hs40 := hs.1
    refine pw_loop_over [4, 5, 8, 9, 21, 22, 23, 24, 25, 26, 27, 28, 29, 30, 31, 32, 33, 34, 35, 36, 37, 38, 39, 40, 41] (fun k : Nat => [(21, .d (.int .i64 (k : Int))), (6, .row 0 20)]) (fun k : Nat => [(0, .row 3 1 ((cnt20 ((xs1.take k).map (clubOf xs0))).map datI))]) 1 (fun k : Nat => k ≤ xs1.length ∧ ∀ n ∈ xs1.take k, skB2 xs0 n = true) (fun k : Nat => xs1.length - k) 0 ⟨Nat.zero_le _, by simp⟩ (fits_mk [] (by simp [renL_d, bdL_d, sg, over, wipe, wl, memN, ins, rm, lk, fitFr, fit1, ren, renL, bd, bdL, app, fitHp, hget, renB, bdB, cnt20_zero] <;> omega)) ?_
    rintro k ⟨hk, hJ⟩
    simp only [over, wipe, wl, memN, ins, rm, if_true, if_false, Nat.reduceEqDiff, Bool.false_eq_true, reduceCtorEq]
    by_cases hlt : k < xs1.length
    · have hx := List.getElem?_eq_getElem hlt
      generalize xs1[k] = x at hx
      rcases fIx_inv (p := isSk x) xs0 0 with ⟨e1, e2⟩ | ⟨j, y, e1, e2, e3, _⟩
      · repeat' (first | ((with_reducible first | refine execL_step (fun K' hK' => ?_)); (first | with_reducible refine s_none rfl ?_ | refine s_some2 rfl ?_); simp only [go_sem, List.getElem?_map, hx, Option.map_some, datI, e1]) | (with_reducible refine hK' _ ?_; clear hK' K') | (with_reducible refine hK _ ?_; clear hK K; try simp only [go_sem, List.getElem?_map, hx, Option.map_some, datI, e1]) | with_reducible (first | refine stp ?_ | refine pw_seq_opsK kl56 G_ok (fun K hK => ?_) | refine pw_ops G_ok (fun K hK => ?_)) | ((with_reducible first | apply CallK.eq); (focus (with_reducible first | exact indexClub_ok xs0 _ _ (isSk x) (by omega) (eptrCap _) (fun y => ClubCounts1_ok y x))); (focus (first | exact rfl | (simp [RV.flat, D.sc, datI]; done))); try simp only [go_sem, List.getElem?_map, hx, Option.map_some, datI, e1]) | refine inBlockA_other (by decide) ?_ | (with_reducible refine pK_mk (fun hc => ?_) (fun hc => ?_) <;> (try simp only [go_sem, List.getElem?_map, hx, Option.map_some, datI, e1]) <;> (try simp at hc) <;> (try (exfalso; omega))) | ((first | refine pw_seq (pw_cond rfl (fun hc => ?_) (fun hc => ?_)) | refine pw_cond rfl (fun hc => ?_) (fun hc => ?_)) <;> (try simp at hc) <;> (try (exfalso; omega))) | with_reducible refine And.intro (by first | omega | (unfold inI; omega) | exact andI_inI _) ?_)
        refine retQ_ret rfl (by simp only [retL, ret1, hget, lk, List.length_map, List.length_nil, List.length_append, List.length_take, if_true, if_false, Nat.reduceEqDiff, Nat.reduceBEq, Bool.false_eq_true, Option.some.injEq]; rfl) (by simp [rowsOf, lk]) ?_; simp only [ansClubCounts]; rw [optP_neg (fun h => by
          have h2 := h.2.2 x (List.mem_of_getElem? hx)
          unfold skB2 at h2
          obtain ⟨y, hy, hp⟩ := List.any_eq_true.1 h2
          rw [e2 y hy] at hp; cases hp)]; rfl
      · have ey : y.skater = x := by simpa [isSk] using e3
        have hcl := hl.2 j y e2
        have hco : clubOf xs0 x = y.club := by rw [← ey]; exact clubOf_at hl e2
        have hb1 := hcl.2.2.1
        have hb2 := hcl.2.2.2.1
        have hi : (y.club - 1).toNat < 20 := by omega
        have hg := cnt20_get ((xs1.take k).map (clubOf xs0)) hb1 hb2
        have hcn : List.count y.club ((xs1.take k).map (clubOf xs0)) ≤ k := Nat.le_trans List.count_le_length (by simp; omega)
        have hset := cnt20_snoc ((xs1.take k).map (clubOf xs0)) hb1 hb2
        rw [← hco, ← map_snoc hx, hco] at hset
        generalize List.count y.club ((xs1.take k).map (clubOf xs0)) = c at hg hcn hset
        generalize cnt20 ((xs1.take k).map (clubOf xs0)) = cs at hg hset
        repeat' (first | ((with_reducible first | refine execL_step (fun K' hK' => ?_)); (first | with_reducible refine s_none rfl ?_ | refine s_some2 rfl ?_); simp only [go_sem, List.getElem?_map, hx, Option.map_some, datI, e1, e2, ClubD.dat, hi, hg]) | (with_reducible refine hK' _ ?_; clear hK' K') | (with_reducible refine hK _ ?_; clear hK K; try simp only [go_sem, List.getElem?_map, hx, Option.map_some, datI, e1, e2, ClubD.dat, hi, hg]) | with_reducible (first | refine stp ?_ | refine pw_seq_opsK kl56 G_ok (fun K hK => ?_) | refine pw_ops G_ok (fun K hK => ?_)) | ((with_reducible first | apply CallK.eq); (focus (with_reducible first | exact indexClub_ok xs0 _ _ (isSk x) (by omega) (eptrCap _) (fun y => ClubCounts1_ok y x))); (focus (first | exact rfl | (simp [RV.flat, D.sc, datI]; done))); try simp only [go_sem, List.getElem?_map, hx, Option.map_some, datI, e1, e2, ClubD.dat, hi, hg]) | refine inBlockA_other (by decide) ?_ | (with_reducible refine pK_mk (fun hc => ?_) (fun hc => ?_) <;> (try simp only [go_sem, List.getElem?_map, hx, Option.map_some, datI, e1, e2, ClubD.dat, hi, hg]) <;> (try simp at hc) <;> (try (exfalso; omega))) | ((first | refine pw_seq (pw_cond rfl (fun hc => ?_) (fun hc => ?_)) | refine pw_cond rfl (fun hc => ?_) (fun hc => ?_)) <;> (try simp at hc) <;> (try (exfalso; omega))) | with_reducible refine And.intro (by first | omega | (unfold inI; omega) | exact andI_inI _) ?_)
        have hset2 : List.set (cs.map datI) (y.club.toNat - 1) [D.int .i64 ((c : Int) + 1)] = (cnt20 (List.take (k + 1) (List.map (clubOf xs0) xs1))).map datI := by rw [show y.club.toNat - 1 = (y.club - 1).toNat by omega, ← List.map_take, ← hset, List.map_set]; rfl
        exact ⟨k + 1, ⟨by omega, fun n hn => by
          rw [take_snoc hx] at hn
          rcases List.mem_append.1 hn with hn | hn
          · exact hJ n hn
          · rw [List.mem_singleton] at hn
            subst hn
            exact List.any_eq_true.2 ⟨y, List.mem_of_getElem? e2, e3⟩⟩, by omega, (fits_mk [] (by simp [renL_d, bdL_d, sg, over, wipe, wl, memN, ins, rm, lk, fitFr, fit1, ren, renL, bd, bdL, app, fitHp, hget, renB, bdB, hset2] <;> omega))⟩
    · have e : xs1.take k = xs1 := List.take_of_length_le (by omega)
      rw [e] at hJ
      repeat' (first | ((with_reducible first | refine execL_step (fun K' hK' => ?_)); (first | with_reducible refine s_none rfl ?_ | refine s_some2 rfl ?_); simp only [go_sem, e]) | (with_reducible refine hK' _ ?_; clear hK' K') | (with_reducible refine hK _ ?_; clear hK K; try simp only [go_sem, e]) | with_reducible (first | refine stp ?_ | refine pw_seq_opsK kl56 G_ok (fun K hK => ?_) | refine pw_ops G_ok (fun K hK => ?_)) | refine inBlockA_other (by decide) ?_ | (with_reducible refine pK_mk (fun hc => ?_) (fun hc => ?_) <;> (try simp only [go_sem, e]) <;> (try simp at hc) <;> (try (exfalso; omega))) | ((first | refine pw_seq (pw_cond rfl (fun hc => ?_) (fun hc => ?_)) | refine pw_cond rfl (fun hc => ?_) (fun hc => ?_)) <;> (try simp at hc) <;> (try (exfalso; omega))) | with_reducible refine And.intro (by first | omega | (unfold inI; omega) | exact andI_inI _) ?_)
      refine retQ_ret rfl (by simp only [cnt20_len, retL, ret1, hget, lk, List.length_map, List.length_nil, List.length_append, List.length_take, if_true, if_false, Nat.reduceEqDiff, Nat.reduceBEq, Bool.false_eq_true, Option.some.injEq]; rfl) (by simp [rowsOf, lk]) ?_; simp only [ansClubCounts]; rw [optP_pos ⟨hl, hs, hJ⟩]; rfl
  · refine retQ_ret rfl (by simp only [retL, ret1, hget, lk, List.length_map, List.length_nil, List.length_append, List.length_take, if_true, if_false, Nat.reduceEqDiff, Nat.reduceBEq, Bool.false_eq_true, Option.some.injEq]; rfl) (by simp [rowsOf, lk]) ?_; simp only [ansClubCounts]; rw [optP_neg (fun h => not_bP (by assumption) h.1)]; rfl
theorem l1HasS_ok (s : List Int) (x : ClubD) (hn : s.length ≤ 16777216) : FnEq Try.prog 122 [.d (.lst 1 (s.map datI)), .d (.int .i64 x.skater)] [.d (.bool (inS s x))] := l1Has_ok s x.skater hn
theorem spec_ClubCounts_ok (xs0 : List ClubD) (xs1 : List Int) (hn0 : xs0.length ≤ 1048576) (hn1 : xs1.length ≤ 1048576) : FnEq Try.prog 57 [.d (.lst 2 (xs0.map ClubD.dat)), .d (.lst 1 (xs1.map datI))] [.row 3 1 (((ansClubCounts xs0 xs1).getD []).map datI), .d (.bool (ansClubCounts xs0 xs1).isSome)] := by
  refine fn_ok G_ok Try.func57 rfl rfl ?_; simp only [Try.ntmps57, List.length_cons, List.length_nil, Nat.reduceAdd, Nat.reduceSub, enm]
  repeat' (first | ((with_reducible first | refine execL_step (fun K' hK' => ?_)); (first | with_reducible refine s_none rfl ?_ | refine s_some2 rfl ?_); simp only [go_sem]) | (with_reducible refine hK' _ ?_; clear hK' K') | (with_reducible refine hK _ ?_; clear hK K; try simp only [go_sem]) | with_reducible (first | refine stp ?_ | refine pw_seq_opsK kl57 G_ok (fun K hK => ?_) | refine pw_ops G_ok (fun K hK => ?_)) | ((with_reducible first | apply CallK.eq); (focus (with_reducible first | exact quAllClubs_ok xs0 (by omega) | exact quList_ok xs1 (by omega))); (focus (first | exact rfl | (simp [RV.flat, D.sc, datI]; done))); try simp only [go_sem]) | refine inBlockA_other (by decide) ?_ | (with_reducible refine pK_mk (fun hc => ?_) (fun hc => ?_) <;> (try simp only [go_sem]) <;> (try simp at hc) <;> (try (exfalso; omega))) | ((first | refine pw_seq (pw_cond rfl (fun hc => ?_) (fun hc => ?_)) | refine pw_cond rfl (fun hc => ?_) (fun hc => ?_)) <;> (try simp at hc) <;> (try (exfalso; omega))) | with_reducible refine And.intro (by first | omega | (unfold inI; omega) | exact andI_inI _) ?_)
  · refine retQ_ret rfl (by simp only [retL, ret1, hget, lk, List.length_map, List.length_nil, List.length_append, List.length_take, if_true, if_false, Nat.reduceEqDiff, Nat.reduceBEq, Bool.false_eq_true, Option.some.injEq]; rfl) (by simp [rowsOf, lk]) ?_; simp only [ansClubCounts]; rw [optP_neg (fun h => not_bP (by assumption) h.2.1)]; rfl
  · have hl : ClubsOk xs0 := of_bP (by assumption)
    have hs : OrdOk xs1 := of_bP (by assumption)
    have hl40 := hl.1
    have hs40 := hs.1
    refine pw_loop_over [4, 5, 7, 9, 21, 22, 23, 24, 25, 26, 27, 28, 29, 30, 31, 32, 33, 34, 35, 36, 37, 38, 39] (fun k : Nat => [(21, .d (.int .i64 (k : Int))), (6, .row 0 20), (7, .d (.int .i64 ((fm (inS xs1) ClubD.club (xs0.take k)).length : Int)))]) (fun k : Nat => [(0, .row 3 1 ((cnt20 (fm (inS xs1) ClubD.club (xs0.take k))).map datI))]) 1 (fun k : Nat => k ≤ xs0.length) (fun k : Nat => xs0.length - k) 0 (Nat.zero_le _) (fits_mk [] (by simp [renL_d, bdL_d, sg, over, wipe, wl, memN, ins, rm, lk, fitFr, fit1, ren, renL, bd, bdL, app, fitHp, hget, renB, bdB, cnt20_zero, fm_nil] <;> omega)) ?_
    intro k hk
    have hL := fm_take_len (inS xs1) ClubD.club xs0 k
    simp only [over, wipe, wl, memN, ins, rm, if_true, if_false, Nat.reduceEqDiff, Bool.false_eq_true, reduceCtorEq]
    by_cases hlt : k < xs0.length
    · have hx := List.getElem?_eq_getElem hlt
      generalize xs0[k] = x at hx
      have hcl := hl.2 k x hx
      have hb1 := hcl.2.2.1
      have hb2 := hcl.2.2.2.1
      have hi : (x.club - 1).toNat < 20 := by omega
      have hg := cnt20_get (fm (inS xs1) ClubD.club (xs0.take k)) hb1 hb2
      have hcn : List.count x.club (fm (inS xs1) ClubD.club (xs0.take k)) ≤ k := Nat.le_trans List.count_le_length hL
      have hset := cnt20_snoc (fm (inS xs1) ClubD.club (xs0.take k)) hb1 hb2
      cases hin : inS xs1 x
      · have hno := fm_no (f := ClubD.club) hx hin
        repeat' (first | ((with_reducible first | refine execL_step (fun K' hK' => ?_)); (first | with_reducible refine s_none rfl ?_ | refine s_some2 rfl ?_); simp only [go_sem, List.getElem?_map, hx, Option.map_some, ClubD.dat, hin]) | (with_reducible refine hK' _ ?_; clear hK' K') | (with_reducible refine hK _ ?_; clear hK K; try simp only [go_sem, List.getElem?_map, hx, Option.map_some, ClubD.dat, hin]) | with_reducible (first | refine stp ?_ | refine pw_seq_opsK kl57 G_ok (fun K hK => ?_) | refine pw_ops G_ok (fun K hK => ?_)) | ((with_reducible first | apply CallK.eq); (focus (with_reducible first | exact l1HasS_ok xs1 x (by omega))); (focus (first | exact rfl | (simp [RV.flat, D.sc, datI]; done))); try simp only [go_sem, List.getElem?_map, hx, Option.map_some, ClubD.dat, hin]) | refine inBlockA_other (by decide) ?_ | (with_reducible refine pK_mk (fun hc => ?_) (fun hc => ?_) <;> (try simp only [go_sem, List.getElem?_map, hx, Option.map_some, ClubD.dat, hin]) <;> (try simp at hc) <;> (try (exfalso; omega))) | ((first | refine pw_seq (pw_cond rfl (fun hc => ?_) (fun hc => ?_)) | refine pw_cond rfl (fun hc => ?_) (fun hc => ?_)) <;> (try simp at hc) <;> (try (exfalso; omega))) | with_reducible refine And.intro (by first | omega | (unfold inI; omega) | exact andI_inI _) ?_)
        exact ⟨k + 1, by omega, by omega, (fits_mk [] (by simp [renL_d, bdL_d, sg, over, wipe, wl, memN, ins, rm, lk, fitFr, fit1, ren, renL, bd, bdL, app, fitHp, hget, renB, bdB, hno] <;> omega))⟩
      · have hyes := fm_yes (f := ClubD.club) hx hin
        rw [← hyes] at hset
        generalize List.count x.club (fm (inS xs1) ClubD.club (xs0.take k)) = c at hg hcn hset
        generalize cnt20 (fm (inS xs1) ClubD.club (xs0.take k)) = cs at hg hset
        repeat' (first | ((with_reducible first | refine execL_step (fun K' hK' => ?_)); (first | with_reducible refine s_none rfl ?_ | refine s_some2 rfl ?_); simp only [go_sem, List.getElem?_map, hx, Option.map_some, ClubD.dat, datI, hin, hi, hg]) | (with_reducible refine hK' _ ?_; clear hK' K') | (with_reducible refine hK _ ?_; clear hK K; try simp only [go_sem, List.getElem?_map, hx, Option.map_some, ClubD.dat, datI, hin, hi, hg]) | with_reducible (first | refine stp ?_ | refine pw_seq_opsK kl57 G_ok (fun K hK => ?_) | refine pw_ops G_ok (fun K hK => ?_)) | ((with_reducible first | apply CallK.eq); (focus (with_reducible first | exact l1HasS_ok xs1 x (by omega))); (focus (first | exact rfl | (simp [RV.flat, D.sc, datI]; done))); try simp only [go_sem, List.getElem?_map, hx, Option.map_some, ClubD.dat, datI, hin, hi, hg]) | refine inBlockA_other (by decide) ?_ | (with_reducible refine pK_mk (fun hc => ?_) (fun hc => ?_) <;> (try simp only [go_sem, List.getElem?_map, hx, Option.map_some, ClubD.dat, datI, hin, hi, hg]) <;> (try simp at hc) <;> (try (exfalso; omega))) | ((first | refine pw_seq (pw_cond rfl (fun hc => ?_) (fun hc => ?_)) | refine pw_cond rfl (fun hc => ?_) (fun hc => ?_)) <;> (try simp at hc) <;> (try (exfalso; omega))) | with_reducible refine And.intro (by first | omega | (unfold inI; omega) | exact andI_inI _) ?_)
        have hset2 : List.set (cs.map datI) (x.club.toNat - 1) [D.int .i64 ((c : Int) + 1)] = (cnt20 (fm (inS xs1) ClubD.club (xs0.take (k + 1)))).map datI := by rw [show x.club.toNat - 1 = (x.club - 1).toNat by omega, ← hset, List.map_set]; rfl
        have hlen : (fm (inS xs1) ClubD.club (xs0.take (k + 1))).length = (fm (inS xs1) ClubD.club (xs0.take k)).length + 1 := by rw [hyes]; simp
        exact ⟨k + 1, by omega, by omega, (fits_mk [] (by simp [renL_d, bdL_d, sg, over, wipe, wl, memN, ins, rm, lk, fitFr, fit1, ren, renL, bd, bdL, app, fitHp, hget, renB, bdB, hset2, hlen] <;> omega))⟩
    · have e : xs0.take k = xs0 := List.take_of_length_le (by omega)
      rw [e] at hL
      have hf := club_found hl hs
      repeat' (first | ((with_reducible first | refine execL_step (fun K' hK' => ?_)); (first | with_reducible refine s_none rfl ?_ | refine s_some2 rfl ?_); simp only [go_sem, e]) | (with_reducible refine hK' _ ?_; clear hK' K') | (with_reducible refine hK _ ?_; clear hK K; try simp only [go_sem, e]) | with_reducible (first | refine stp ?_ | refine pw_seq_opsK kl57 G_ok (fun K hK => ?_) | refine pw_ops G_ok (fun K hK => ?_)) | refine inBlockA_other (by decide) ?_ | (with_reducible refine pK_mk (fun hc => ?_) (fun hc => ?_) <;> (try simp only [go_sem, e]) <;> (try simp at hc) <;> (try (exfalso; omega))) | ((first | refine pw_seq (pw_cond rfl (fun hc => ?_) (fun hc => ?_)) | refine pw_cond rfl (fun hc => ?_) (fun hc => ?_)) <;> (try simp at hc) <;> (try (exfalso; omega))) | with_reducible refine And.intro (by first | omega | (unfold inI; omega) | exact andI_inI _) ?_)
      · refine retQ_ret rfl (by simp only [retL, ret1, hget, lk, List.length_map, List.length_nil, List.length_append, List.length_take, if_true, if_false, Nat.reduceEqDiff, Nat.reduceBEq, Bool.false_eq_true, Option.some.injEq]; rfl) (by simp [rowsOf, lk]) ?_; simp only [ansClubCounts]; rw [optP_neg (fun h => by have := hf.2 h.2.2; omega)]; rfl
      · have ha := hf.1 (by omega)
        refine retQ_ret rfl (by simp only [cnt20_len, retL, ret1, hget, lk, List.length_map, List.length_nil, List.length_append, List.length_take, if_true, if_false, Nat.reduceEqDiff, Nat.reduceBEq, Bool.false_eq_true, Option.some.injEq]; rfl) (by simp [rowsOf, lk]) ?_; simp only [ansClubCounts]; rw [optP_pos ⟨hl, hs, ha⟩, club_cnt hl hs ha]; rfl
  · refine retQ_ret rfl (by simp only [retL, ret1, hget, lk, List.length_map, List.length_nil, List.length_append, List.length_take, if_true, if_false, Nat.reduceEqDiff, Nat.reduceBEq, Bool.false_eq_true, Option.some.injEq]; rfl) (by simp [rowsOf, lk]) ?_; simp only [ansClubCounts]; rw [optP_neg (fun h => not_bP (by assumption) h.1)]; rfl
end Go.Proofs.Ythkkpiodligmiaa
