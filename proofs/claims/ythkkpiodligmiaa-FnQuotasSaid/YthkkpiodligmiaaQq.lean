/-
  Who is taken with a quota, and who is left; the program's functions and the reference's, in the abstract machine.
-/
import Derived.Test.YthkkpiodligmiaaQf
import Derived.Test.YthkkpiodligmiaaAc
set_option linter.unusedSimpArgs false
set_option linter.unusedVariables false
set_option maxHeartbeats 2000000
set_option maxRecDepth 100000
namespace Go.Proofs.Ythkkpiodligmiaa
open Go.RowKit

def clZ (c : List ClubD) (i : Int) : Int := (c.getD i.toNat ⟨0, 0⟩).club
def qS (cl : Int → Int) (n q : Int) (s : List Int × List Int) (i : Int) : List Int × List Int := if (s.1.length : Int) < n ∧ (((s.1.map cl).count (cl i) : Nat) : Int) < q then (s.1 ++ [i], s.2) else (s.1, s.2 ++ [i])
def qF (cl : Int → Int) (n q : Int) (xs : List Int) : List Int × List Int := xs.foldl (qS cl n q) ([], [])
theorem qF_nil (cl : Int → Int) (n q : Int) : qF cl n q [] = ([], []) := rfl
theorem qF_snoc {cl : Int → Int} {n q : Int} {xs : List Int} {k : Nat} {x : Int} (hx : xs[k]? = some x) : qF cl n q (xs.take (k + 1)) = qS cl n q (qF cl n q (xs.take k)) x := by
  unfold qF
  rw [take_snoc hx, List.foldl_append]
  rfl
theorem qF_aux (cl : Int → Int) (n q : Int) : ∀ (xs : List Int) (s : List Int × List Int), (xs.foldl (qS cl n q) s).1.length + (xs.foldl (qS cl n q) s).2.length = s.1.length + s.2.length + xs.length ∧ ∀ y, (y ∈ (xs.foldl (qS cl n q) s).1 ∨ y ∈ (xs.foldl (qS cl n q) s).2) → y ∈ s.1 ∨ y ∈ s.2 ∨ y ∈ xs
  | [], s => ⟨by simp, fun y h => by rcases h with h | h; exact .inl h; exact .inr (.inl h)⟩
  | x :: xs, s => by
    obtain ⟨h1, h2⟩ := qF_aux cl n q xs (qS cl n q s x)
    have h3 : (qS cl n q s x).1.length + (qS cl n q s x).2.length = s.1.length + s.2.length + 1 := by unfold qS; split <;> simp <;> omega
    have h4 : ∀ y, (y ∈ (qS cl n q s x).1 ∨ y ∈ (qS cl n q s x).2) → y ∈ s.1 ∨ y ∈ s.2 ∨ y = x := by
      intro y h
      unfold qS at h
      split at h
      · rcases h with h | h
        · rcases List.mem_append.1 h with h | h
          · exact .inl h
          · exact .inr (.inr (List.mem_singleton.1 h))
        · exact .inr (.inl h)
      · rcases h with h | h
        · exact .inl h
        · rcases List.mem_append.1 h with h | h
          · exact .inr (.inl h)
          · exact .inr (.inr (List.mem_singleton.1 h))
    refine ⟨by rw [List.foldl_cons, h1, h3, List.length_cons]; omega, fun y h => ?_⟩
    rw [List.foldl_cons] at h
    rcases h2 y h with h | h | h
    · rcases h4 y (.inl h) with h | h | h
      · exact .inl h
      · exact .inr (.inl h)
      · exact .inr (.inr (h ▸ List.mem_cons_self))
    · rcases h4 y (.inr h) with h | h | h
      · exact .inl h
      · exact .inr (.inl h)
      · exact .inr (.inr (h ▸ List.mem_cons_self))
    · exact .inr (.inr (List.mem_cons_of_mem _ h))
theorem qF_len (cl : Int → Int) (n q : Int) (xs : List Int) : (qF cl n q xs).1.length + (qF cl n q xs).2.length = xs.length := by have := (qF_aux cl n q xs ([], [])).1; simpa [qF] using this
theorem qF_mem {cl : Int → Int} {n q : Int} {xs : List Int} {y : Int} (h : y ∈ (qF cl n q xs).1 ∨ y ∈ (qF cl n q xs).2) : y ∈ xs := by
  have := (qF_aux cl n q xs ([], [])).2 y h
  simpa using this
/-- how often each of 0 .. 20 stands in a list -/
def cn21 (vs : List Int) : List Int := (List.range 21).map fun c : Nat => ((vs.count (c : Int) : Nat) : Int)
theorem cn21_len (vs : List Int) : (cn21 vs).length = 21 := by simp [cn21]
theorem cn21_get (vs : List Int) {v : Int} (h1 : 1 ≤ v) (h2 : v ≤ 20) : (cn21 vs)[v.toNat]? = some ((vs.count v : Nat) : Int) := by
  unfold cn21
  rw [List.getElem?_map, List.getElem?_range (by omega)]
  simp only [Option.map_some]
  rw [show ((v.toNat : Nat) : Int) = v by omega]
theorem cn21_snoc (vs : List Int) {v : Int} (h1 : 1 ≤ v) (h2 : v ≤ 20) : (cn21 vs).set v.toNat (((vs.count v : Nat) : Int) + 1) = cn21 (vs ++ [v]) := by
  apply List.ext_getElem?
  intro i
  rw [List.getElem?_set]
  by_cases hi : i < 21
  · have e : ∀ ws : List Int, (cn21 ws)[i]? = some ((ws.count (i : Int) : Nat) : Int) := fun ws => by unfold cn21; rw [List.getElem?_map, List.getElem?_range hi]; rfl
    rw [e, e]
    by_cases hv : v.toNat = i
    · subst hv
      rw [if_pos rfl, if_pos (by rw [cn21_len]; exact hi), show ((v.toNat : Nat) : Int) = v by omega, List.count_append]
      simp
    · rw [if_neg hv, List.count_append, List.count_singleton]
      rw [if_neg (by simp; omega)]
      simp
  · rw [List.getElem?_eq_none (by rw [cn21_len]; omega), List.getElem?_eq_none (by rw [cn21_len]; omega)]
    split
    · rw [if_neg (by rw [cn21_len]; omega)]
    · rfl
theorem cn21_zero : (cn21 []).map datI = List.replicate 21 [.int .i64 0] := rfl
theorem cn21_bd (vs : List Int) (v : Int) : 0 ≤ ((vs.count v : Nat) : Int) ∧ ((vs.count v : Nat) : Int) ≤ (vs.length : Int) := ⟨by omega, by have := List.count_le_length (a := v) (l := vs); omega⟩
/-- the cells of the program's counts -/
def pvI (n : Int) : PV := .d (.int .i64 n)
def cnP (vs : List Int) : List PV := (cn21 vs).map pvI
theorem cnP_len (vs : List Int) : (cnP vs).length = 21 := by simp [cnP, cn21_len]
theorem cnP_drop (vs : List Int) {v : Int} (h1 : 1 ≤ v) (h2 : v ≤ 20) : (List.drop v.toNat (cnP vs))[0]? = some (pvI ((vs.count v : Nat) : Int)) := by
  rw [List.getElem?_drop, Nat.add_zero]
  unfold cnP
  rw [List.getElem?_map, cn21_get vs h1 h2]
  rfl
theorem cnP_spl (vs : List Int) {v : Int} (h1 : 1 ≤ v) (h2 : v ≤ 20) : spl (cnP vs) v.toNat [pvI (((vs.count v : Nat) : Int) + 1)] = cnP (vs ++ [v]) := by
  have hlt : v.toNat < (cnP vs).length := by rw [cnP_len]; omega
  have e : spl (cnP vs) v.toNat [pvI (((vs.count v : Nat) : Int) + 1)] = (cnP vs).set v.toNat (pvI (((vs.count v : Nat) : Int) + 1)) := by
    unfold spl
    rw [List.set_eq_take_append_cons_drop, if_pos hlt, List.append_assoc]
    rfl
  rw [e]
  unfold cnP
  rw [← cn21_snoc vs h1 h2, List.map_set]
theorem cnP_ren (σ : List (Nat × Nat)) (vs : List Int) : renL σ (cnP vs) = cnP vs := by
  unfold cnP
  induction cn21 vs with
  | nil => rfl
  | cons x xs ih => rw [List.map_cons, renL, ih]; rfl
theorem cnP_bdL (nx : Nat) (vs : List Int) : bdL nx (cnP vs) = true := by
  unfold cnP
  induction cn21 vs with
  | nil => rfl
  | cons x xs ih => rw [List.map_cons, bdL, ih]; rfl
theorem cnP_zero : cnP [] = List.replicate 21 (.d (.int .i64 0)) := rfl
theorem cnP_cut (vs : List Int) {v : Int} (h1 : 1 ≤ v) (h2 : v ≤ 20) : List.take v.toNat (cnP vs) ++ PV.d (.int .i64 (((vs.count v : Nat) : Int) + 1)) :: List.drop (v.toNat + 1) (cnP vs) = cnP (vs ++ [v]) := by
  rw [← cnP_spl vs h1 h2]
  unfold spl
  rw [List.append_assoc]
  rfl
theorem clZ_of {l : List ResultD} {c : List ClubD} (hc : ClubsFor l c) {y : Int} (hy : inL l y) : ∃ x, c[y.toNat]? = some x ∧ clZ c y = x.club ∧ 1 ≤ x.club ∧ x.club ≤ 20 := by
  have h1 : y.toNat < c.length := by have := hc.1; have := hy.1; have := hy.2; omega
  have hx := List.getElem?_eq_getElem h1
  generalize c[y.toNat] = x at hx
  have h2 := hc.2.1.2 _ x hx
  exact ⟨x, hx, by unfold clZ; rw [List.getD_eq_getElem?_getD, hx]; rfl, h2.2.2.1, h2.2.2.2.1⟩
def tkZ (l : List ResultD) (c : List ClubD) (n q : Int) : List Int × List Int := qF (clZ c) n q (stR l)
theorem tkZ_len (l : List ResultD) (c : List ClubD) (n q : Int) : (tkZ l c n q).1.length + (tkZ l c n q).2.length ≤ l.length := by have := qF_len (clZ c) n q (stR l); have := stR_len l; unfold tkZ; omega
theorem tkZ_in (l : List ResultD) (c : List ClubD) (n q : Int) : (∀ y ∈ (tkZ l c n q).1, inL l y) ∧ ∀ y ∈ (tkZ l c n q).2, inL l y := ⟨fun y h => stR_in l y (qF_mem (.inl h)), fun y h => stR_in l y (qF_mem (.inr h))⟩
def QuOk (l : List ResultD) (c : List ClubD) (n q : Int) : Prop := ResultsOk l ∧ ClubsFor l c ∧ FldOk n ∧ 1 ≤ q ∧ q ≤ 10

theorem canQuota_ok (l : List ResultD) (c : List ClubD) (n q : Int) (hn : l.length ≤ 1048576) (hs : ∀ r ∈ l, r.scores.length ≤ 1048576) (hc : c.length ≤ 1048576) : FnEq Try.prog 112 [.d (.lst 2 (l.map ResultD.dat)), .d (.lst 2 (c.map ClubD.dat)), .d (.int .i64 n), .d (.int .i64 q)] [.d (.bool (bP (QuOk l c n q)))] := by
  refine fn_ok G_ok Try.func112 rfl rfl ?_; simp only [Try.ntmps112, List.length_cons, List.length_nil, Nat.reduceAdd, Nat.reduceSub, enm]
  by_cases hv : ResultsOk l
  · have hb := bP_true hv
    by_cases hf : ClubsFor l c
    · have hb2 := bP_true hf
      have e : bP (QuOk l c n q) = decide (1 ≤ n ∧ n ≤ 40 ∧ 1 ≤ q ∧ q ≤ 10) := by
        rw [Bool.eq_iff_iff, bP_iff, decide_eq_true_eq]; unfold QuOk FldOk; exact ⟨fun h => ⟨h.2.2.1.1, h.2.2.1.2, h.2.2.2.1, h.2.2.2.2⟩, fun h => ⟨hv, hf, ⟨h.1, h.2.1⟩, h.2.2.1, h.2.2.2⟩⟩
      repeat' (first | ((with_reducible first | refine execL_step (fun K' hK' => ?_)); (first | with_reducible refine s_none rfl ?_ | refine s_some2 rfl ?_); simp only [go_sem, hb, hb2]) | (with_reducible refine hK' _ ?_; clear hK' K') | (with_reducible refine hK _ ?_; clear hK K; try simp only [go_sem, hb, hb2]) | with_reducible (first | refine stp ?_ | refine pw_seq_opsK kl112 G_ok (fun K hK => ?_) | refine pw_ops G_ok (fun K hK => ?_)) | ((with_reducible first | apply CallK.eq); (focus (with_reducible first | exact AreResults_ok l hn hs | exact clubsFit_ok l c hv hc | exact isField2_ok _ | exact within_ok _ _ _)); (focus (first | exact rfl | (simp [RV.flat, D.sc, datI]; done))); try simp only [go_sem, hb, hb2]) | refine inBlockA_other (by decide) ?_ | (with_reducible refine pK_mk (fun hc => ?_) (fun hc => ?_) <;> (try simp only [go_sem, hb, hb2]) <;> (try simp at hc) <;> (try (exfalso; omega))) | ((first | refine pw_seq (pw_cond rfl (fun hc => ?_) (fun hc => ?_)) | refine pw_cond rfl (fun hc => ?_) (fun hc => ?_)) <;> (try simp at hc) <;> (try (exfalso; omega))) | with_reducible refine And.intro (by first | omega | (unfold inI; omega) | exact andI_inI _) ?_)
      all_goals (refine retQ_ret rfl rfl (by simp [rowsOf, lk]) ?_; rw [e]; congr 2; simp only [D.bool.injEq]; first | (rw [decide_eq_decide.2]; omega) | (simp; omega) | (rw [Bool.eq_iff_iff]; simp; omega))
    · have hb2 := bP_false hf
      have e : bP (QuOk l c n q) = false := bP_false fun h => hf h.2.1
      repeat' (first | ((with_reducible first | refine execL_step (fun K' hK' => ?_)); (first | with_reducible refine s_none rfl ?_ | refine s_some2 rfl ?_); simp only [go_sem, hb, hb2]) | (with_reducible refine hK' _ ?_; clear hK' K') | (with_reducible refine hK _ ?_; clear hK K; try simp only [go_sem, hb, hb2]) | with_reducible (first | refine stp ?_ | refine pw_seq_opsK kl112 G_ok (fun K hK => ?_) | refine pw_ops G_ok (fun K hK => ?_)) | ((with_reducible first | apply CallK.eq); (focus (with_reducible first | exact AreResults_ok l hn hs | exact clubsFit_ok l c hv hc)); (focus (first | exact rfl | (simp [RV.flat, D.sc, datI]; done))); try simp only [go_sem, hb, hb2]) | refine inBlockA_other (by decide) ?_ | (with_reducible refine pK_mk (fun hc => ?_) (fun hc => ?_) <;> (try simp only [go_sem, hb, hb2]) <;> (try simp at hc) <;> (try (exfalso; omega))) | ((first | refine pw_seq (pw_cond rfl (fun hc => ?_) (fun hc => ?_)) | refine pw_cond rfl (fun hc => ?_) (fun hc => ?_)) <;> (try simp at hc) <;> (try (exfalso; omega))) | with_reducible refine And.intro (by first | omega | (unfold inI; omega) | exact andI_inI _) ?_)
      all_goals (refine retQ_ret rfl rfl (by simp [rowsOf, lk]) ?_; rw [e])
  · have hb := bP_false hv
    have e : bP (QuOk l c n q) = false := bP_false fun h => hv h.1
    repeat' (first | ((with_reducible first | refine execL_step (fun K' hK' => ?_)); (first | with_reducible refine s_none rfl ?_ | refine s_some2 rfl ?_); simp only [go_sem, hb]) | (with_reducible refine hK' _ ?_; clear hK' K') | (with_reducible refine hK _ ?_; clear hK K; try simp only [go_sem, hb]) | with_reducible (first | refine stp ?_ | refine pw_seq_opsK kl112 G_ok (fun K hK => ?_) | refine pw_ops G_ok (fun K hK => ?_)) | ((with_reducible first | apply CallK.eq); (focus (with_reducible first | exact AreResults_ok l hn hs)); (focus (first | exact rfl | (simp [RV.flat, D.sc, datI]; done))); try simp only [go_sem, hb]) | refine inBlockA_other (by decide) ?_ | (with_reducible refine pK_mk (fun hc => ?_) (fun hc => ?_) <;> (try simp only [go_sem, hb]) <;> (try simp at hc) <;> (try (exfalso; omega))) | ((first | refine pw_seq (pw_cond rfl (fun hc => ?_) (fun hc => ?_)) | refine pw_cond rfl (fun hc => ?_) (fun hc => ?_)) <;> (try simp at hc) <;> (try (exfalso; omega))) | with_reducible refine And.intro (by first | omega | (unfold inI; omega) | exact andI_inI _) ?_)
    all_goals (refine retQ_ret rfl rfl (by simp [rowsOf, lk]) ?_; rw [e])
theorem quAsked_ok (l : List ResultD) (c : List ClubD) (n q : Int) (hn : l.length ≤ 1048576) (hs : ∀ r ∈ l, r.scores.length ≤ 1048576) (hc : c.length ≤ 1048576) : FnEq Try.prog 114 [.d (.lst 2 (l.map ResultD.dat)), .d (.lst 2 (c.map ClubD.dat)), .d (.int .i64 n), .d (.int .i64 q)] [.d (.bool (bP (QuOk l c n q)))] := by
  refine fn_ok G_ok Try.func114 rfl rfl ?_; simp only [Try.ntmps114, List.length_cons, List.length_nil, Nat.reduceAdd, Nat.reduceSub, enm]
  by_cases hv : ResultsOk l
  · have hb := bP_true hv
    by_cases hf : ClubsFor l c
    · have hb2 := bP_true hf
      have e : bP (QuOk l c n q) = decide (1 ≤ n ∧ n ≤ 40 ∧ 1 ≤ q ∧ q ≤ 10) := by
        rw [Bool.eq_iff_iff, bP_iff, decide_eq_true_eq]; unfold QuOk FldOk; exact ⟨fun h => ⟨h.2.2.1.1, h.2.2.1.2, h.2.2.2.1, h.2.2.2.2⟩, fun h => ⟨hv, hf, ⟨h.1, h.2.1⟩, h.2.2.1, h.2.2.2⟩⟩
      repeat' (first | ((with_reducible first | refine execL_step (fun K' hK' => ?_)); (first | with_reducible refine s_none rfl ?_ | refine s_some2 rfl ?_); simp only [go_sem, hb, hb2]) | (with_reducible refine hK' _ ?_; clear hK' K') | (with_reducible refine hK _ ?_; clear hK K; try simp only [go_sem, hb, hb2]) | with_reducible (first | refine stp ?_ | refine pw_seq_opsK kl114 G_ok (fun K hK => ?_) | refine pw_ops G_ok (fun K hK => ?_)) | ((with_reducible first | apply CallK.eq); (focus (with_reducible first | exact rkGood_ok l hn hs | exact quClubs_ok l c hv hc | exact quNumber_ok _ | exact l1In_ok _ _ _)); (focus (first | exact rfl | (simp [RV.flat, D.sc, datI]; done))); try simp only [go_sem, hb, hb2]) | refine inBlockA_other (by decide) ?_ | (with_reducible refine pK_mk (fun hc => ?_) (fun hc => ?_) <;> (try simp only [go_sem, hb, hb2]) <;> (try simp at hc) <;> (try (exfalso; omega))) | ((first | refine pw_seq (pw_cond rfl (fun hc => ?_) (fun hc => ?_)) | refine pw_cond rfl (fun hc => ?_) (fun hc => ?_)) <;> (try simp at hc) <;> (try (exfalso; omega))) | with_reducible refine And.intro (by first | omega | (unfold inI; omega) | exact andI_inI _) ?_)
      all_goals (refine retQ_ret rfl rfl (by simp [rowsOf, lk]) ?_; rw [e]; congr 2; simp only [D.bool.injEq]; first | (rw [decide_eq_decide.2]; omega) | (simp; omega) | (rw [Bool.eq_iff_iff]; simp; omega))
    · have hb2 := bP_false hf
      have e : bP (QuOk l c n q) = false := bP_false fun h => hf h.2.1
      repeat' (first | ((with_reducible first | refine execL_step (fun K' hK' => ?_)); (first | with_reducible refine s_none rfl ?_ | refine s_some2 rfl ?_); simp only [go_sem, hb, hb2]) | (with_reducible refine hK' _ ?_; clear hK' K') | (with_reducible refine hK _ ?_; clear hK K; try simp only [go_sem, hb, hb2]) | with_reducible (first | refine stp ?_ | refine pw_seq_opsK kl114 G_ok (fun K hK => ?_) | refine pw_ops G_ok (fun K hK => ?_)) | ((with_reducible first | apply CallK.eq); (focus (with_reducible first | exact rkGood_ok l hn hs | exact quClubs_ok l c hv hc)); (focus (first | exact rfl | (simp [RV.flat, D.sc, datI]; done))); try simp only [go_sem, hb, hb2]) | refine inBlockA_other (by decide) ?_ | (with_reducible refine pK_mk (fun hc => ?_) (fun hc => ?_) <;> (try simp only [go_sem, hb, hb2]) <;> (try simp at hc) <;> (try (exfalso; omega))) | ((first | refine pw_seq (pw_cond rfl (fun hc => ?_) (fun hc => ?_)) | refine pw_cond rfl (fun hc => ?_) (fun hc => ?_)) <;> (try simp at hc) <;> (try (exfalso; omega))) | with_reducible refine And.intro (by first | omega | (unfold inI; omega) | exact andI_inI _) ?_)
      all_goals (refine retQ_ret rfl rfl (by simp [rowsOf, lk]) ?_; rw [e])
  · have hb := bP_false hv
    have e : bP (QuOk l c n q) = false := bP_false fun h => hv h.1
    repeat' (first | ((with_reducible first | refine execL_step (fun K' hK' => ?_)); (first | with_reducible refine s_none rfl ?_ | refine s_some2 rfl ?_); simp only [go_sem, hb]) | (with_reducible refine hK' _ ?_; clear hK' K') | (with_reducible refine hK _ ?_; clear hK K; try simp only [go_sem, hb]) | with_reducible (first | refine stp ?_ | refine pw_seq_opsK kl114 G_ok (fun K hK => ?_) | refine pw_ops G_ok (fun K hK => ?_)) | ((with_reducible first | apply CallK.eq); (focus (with_reducible first | exact rkGood_ok l hn hs)); (focus (first | exact rfl | (simp [RV.flat, D.sc, datI]; done))); try simp only [go_sem, hb]) | refine inBlockA_other (by decide) ?_ | (with_reducible refine pK_mk (fun hc => ?_) (fun hc => ?_) <;> (try simp only [go_sem, hb]) <;> (try simp at hc) <;> (try (exfalso; omega))) | ((first | refine pw_seq (pw_cond rfl (fun hc => ?_) (fun hc => ?_)) | refine pw_cond rfl (fun hc => ?_) (fun hc => ?_)) <;> (try simp at hc) <;> (try (exfalso; omega))) | with_reducible refine And.intro (by first | omega | (unfold inI; omega) | exact andI_inI _) ?_)
    all_goals (refine retQ_ret rfl rfl (by simp [rowsOf, lk]) ?_; rw [e])
theorem takenAndLeft_ok (l : List ResultD) (c : List ClubD) (n q : Int) (hv : ResultsOk l) (hcf : ClubsFor l c) : FnEq Try.prog 113 [.d (.lst 2 (l.map ResultD.dat)), .d (.lst 2 (c.map ClubD.dat)), .d (.int .i64 n), .d (.int .i64 q)] [.row 3 1 ((tkZ l c n q).1.map datI), .row 3 1 ((tkZ l c n q).2.map datI)] := by
  refine fn_ok G_ok Try.func113 rfl rfl ?_; simp only [Try.ntmps113, List.length_cons, List.length_nil, Nat.reduceAdd, Nat.reduceSub, enm]
  have h40 := hv.1
  have hoc := startersOf_ok l hv
  have hol := stR_len l
  have hin := stR_in l
  have hst : tkZ l c n q = qF (clZ c) n q (stR l) := rfl
  rw [hst]
  generalize stR l = os at hoc hol hin
  have hz := cnP_zero
  have hz2 := cn21_zero
  repeat' (first | ((with_reducible first | refine execL_step (fun K' hK' => ?_)); (first | with_reducible refine s_none rfl ?_ | refine s_some2 rfl ?_); simp only [go_sem, List.length_map]) | (with_reducible refine hK' _ ?_; clear hK' K') | (with_reducible refine hK _ ?_; clear hK K; try simp only [go_sem, List.length_map]) | with_reducible (first | refine stp ?_ | refine pw_seq_opsK kl113 G_ok (fun K hK => ?_) | refine pw_ops G_ok (fun K hK => ?_)) | ((with_reducible first | apply CallK.eq); (focus (with_reducible first | exact hoc)); (focus (first | exact rfl | (simp [RV.flat, D.sc, datI]; done))); try simp only [go_sem, List.length_map]) | refine inBlockA_other (by decide) ?_ | (with_reducible refine pK_mk (fun hc => ?_) (fun hc => ?_) <;> (try simp only [go_sem, List.length_map]) <;> (try simp at hc) <;> (try (exfalso; omega))) | ((first | refine pw_seq (pw_cond rfl (fun hc => ?_) (fun hc => ?_)) | refine pw_cond rfl (fun hc => ?_) (fun hc => ?_)) <;> (try simp at hc) <;> (try (exfalso; omega))) | with_reducible refine And.intro (by first | omega | (unfold inI; omega) | exact andI_inI _) ?_)
  refine pw_loop_over [8, 9, 10, 11, 14, 15, 22, 23, 24, 25, 26, 27, 28, 29, 30, 31, 32, 33, 34, 35, 36, 37, 38, 39, 40, 41, 42, 43, 44, 45, 46, 47, 48, 49, 50, 51, 52, 53, 54, 55] (fun k : Nat => [(22, .d (.int .i64 (k : Int))), (10, .row 0 (qF (clZ c) n q (os.take k)).1.length), (11, .row 1 (qF (clZ c) n q (os.take k)).2.length), (12, .bptr 2 0), (20, .row 3 os.length)]) (fun k : Nat => [(0, .row 3 1 ((qF (clZ c) n q (os.take k)).1.map datI)), (1, .row 3 1 ((qF (clZ c) n q (os.take k)).2.map datI)), (2, .box 112 (cnP ((qF (clZ c) n q (os.take k)).1.map (clZ c)))), (3, .row 3 1 (os.map datI))]) 4 (fun k : Nat => k ≤ os.length) (fun k : Nat => os.length - k) 0 (Nat.zero_le _) (fits_mk [] (by simp [renL_d, bdL_d, sg, over, wipe, wl, memN, ins, rm, lk, fitFr, fit1, ren, renL, bd, bdL, app, fitHp, hget, renB, bdB, qF_nil, List.map_nil, hz, hz2, cnP_ren, cnP_bdL] <;> omega)) ?_
  intro k hk
  have hL := qF_len (clZ c) n q (os.take k)
  have hT : (os.take k).length = k := by simp; omega
  simp only [over, wipe, wl, memN, ins, rm, if_true, if_false, Nat.reduceEqDiff, Bool.false_eq_true, reduceCtorEq]
  by_cases hlt : k < os.length
  · have hx := List.getElem?_eq_getElem hlt
    generalize os[k] = y at hx
    have hsn := qF_snoc (cl := clZ c) (n := n) (q := q) hx
    unfold qS at hsn
    generalize qF (clZ c) n q (os.take k) = s at hL hsn
    obtain ⟨tk, lf⟩ := s
    simp only at hL hsn
    have hy := hin y (List.mem_of_getElem? hx)
    have hy0 := hy.1
    have hy1 := hy.2
    obtain ⟨x, hcx, hcl, hc1, hc2⟩ := clZ_of hcf hy
    have hyn : y.toNat < c.length := by have := hcf.1; omega
    rw [hcl] at hsn
    have hbd := cn21_bd (tk.map (clZ c)) x.club
    rw [List.length_map] at hbd
    have hxn : x.club.toNat < 21 := by omega
    have hxn2 : x.club.toNat < (cn21 (tk.map (clZ c))).length := by rw [cn21_len]; omega
    have hg := cn21_get (tk.map (clZ c)) hc1 hc2
    have hgd := cnP_drop (tk.map (clZ c)) hc1 hc2
    have hgs := cnP_cut (tk.map (clZ c)) hc1 hc2
    have hst1 : ((cn21 (tk.map (clZ c))).map datI).set x.club.toNat [.int .i64 ((((tk.map (clZ c)).count x.club : Nat) : Int) + 1)] = (cn21 (tk.map (clZ c) ++ [x.club])).map datI := by rw [← cn21_snoc _ hc1 hc2, List.map_set]; rfl
    have hmp : (tk ++ [y]).map (clZ c) = tk.map (clZ c) ++ [x.club] := by rw [List.map_append, List.map_cons, List.map_nil, hcl]
    have hcl21 := cn21_len (tk.map (clZ c))
    have hpl21 := cnP_len (tk.map (clZ c))
    generalize (((tk.map (clZ c)).count x.club : Nat) : Int) = cv at hsn hbd hg hgd hgs hst1
    repeat' (first | ((with_reducible first | refine execL_step (fun K' hK' => ?_)); (first | with_reducible refine s_none rfl ?_ | refine s_some2 rfl ?_); simp only [go_sem, hlt, List.getElem?_map, hx, hcx, hyn, hxn, hxn2, hg, hgd, hst1, hcl21, hpl21, pvI, Option.map_some, datI, ClubD.dat, Nat.mul_one]) | (with_reducible refine hK' _ ?_; clear hK' K') | (with_reducible refine hK _ ?_; clear hK K; try simp only [go_sem, hlt, List.getElem?_map, hx, hcx, hyn, hxn, hxn2, hg, hgd, hst1, hcl21, hpl21, pvI, Option.map_some, datI, ClubD.dat, Nat.mul_one]) | with_reducible (first | refine stp ?_ | refine pw_seq_opsK kl113 G_ok (fun K hK => ?_) | refine pw_ops G_ok (fun K hK => ?_)) | refine inBlockA_other (by decide) ?_ | (with_reducible refine pK_mk (fun hc => ?_) (fun hc => ?_) <;> (try simp only [go_sem, hlt, List.getElem?_map, hx, hcx, hyn, hxn, hxn2, hg, hgd, hst1, hcl21, hpl21, pvI, Option.map_some, datI, ClubD.dat, Nat.mul_one]) <;> (try simp at hc) <;> (try (exfalso; omega))) | ((first | refine pw_seq (pw_cond rfl (fun hc => ?_) (fun hc => ?_)) | refine pw_cond rfl (fun hc => ?_) (fun hc => ?_)) <;> (try simp at hc) <;> (try (exfalso; omega))) | with_reducible refine And.intro (by first | omega | (unfold inI; omega) | exact andI_inI _) ?_)
    all_goals first
      | (have hsn' : qF (clZ c) n q (os.take (k + 1)) = (tk ++ [y], lf) := by rw [hsn, if_pos (by omega)]
         exact ⟨k + 1, by omega, by omega, (fits_mk [] (by simp [renL_d, bdL_d, sg, over, wipe, wl, memN, ins, rm, lk, fitFr, fit1, ren, renL, bd, bdL, app, fitHp, hget, renB, bdB, hsn', hmp, hgs, hst1, cnP_ren, cnP_bdL, datI] <;> omega))⟩)
      | (have hsn' : qF (clZ c) n q (os.take (k + 1)) = (tk, lf ++ [y]) := by rw [hsn, if_neg (by omega)]
         exact ⟨k + 1, by omega, by omega, (fits_mk [] (by simp [renL_d, bdL_d, sg, over, wipe, wl, memN, ins, rm, lk, fitFr, fit1, ren, renL, bd, bdL, app, fitHp, hget, renB, bdB, hsn', cnP_ren, cnP_bdL, datI] <;> omega))⟩)
      | skip
  · have e : os.take k = os := List.take_of_length_le (by omega)
    repeat' (first | ((with_reducible first | refine execL_step (fun K' hK' => ?_)); (first | with_reducible refine s_none rfl ?_ | refine s_some2 rfl ?_); simp only [go_sem, e]) | (with_reducible refine hK' _ ?_; clear hK' K') | (with_reducible refine hK _ ?_; clear hK K; try simp only [go_sem, e]) | with_reducible (first | refine stp ?_ | refine pw_seq_opsK kl113 G_ok (fun K hK => ?_) | refine pw_ops G_ok (fun K hK => ?_)) | refine inBlockA_other (by decide) ?_ | (with_reducible refine pK_mk (fun hc => ?_) (fun hc => ?_) <;> (try simp only [go_sem, e]) <;> (try simp at hc) <;> (try (exfalso; omega))) | ((first | refine pw_seq (pw_cond rfl (fun hc => ?_) (fun hc => ?_)) | refine pw_cond rfl (fun hc => ?_) (fun hc => ?_)) <;> (try simp at hc) <;> (try (exfalso; omega))) | with_reducible refine And.intro (by first | omega | (unfold inI; omega) | exact andI_inI _) ?_)
    refine retQ_ret rfl (by simp only [e, retL, ret1, hget, lk, List.length_map, List.length_nil, List.length_append, List.length_take, if_true, if_false, Nat.reduceEqDiff, Nat.reduceBEq, Bool.false_eq_true, Option.some.injEq]; rfl) (by simp [rowsOf, lk]) ?_; rfl
theorem quTaken_ok (l : List ResultD) (c : List ClubD) (n q : Int) (hv : ResultsOk l) (hcf : ClubsFor l c) : FnEq Try.prog 115 [.d (.lst 2 (l.map ResultD.dat)), .d (.lst 2 (c.map ClubD.dat)), .d (.int .i64 n), .d (.int .i64 q)] [.row 3 1 ((tkZ l c n q).1.map datI), .row 3 1 ((tkZ l c n q).2.map datI)] := by
  refine fn_ok G_ok Try.func115 rfl rfl ?_; simp only [Try.ntmps115, List.length_cons, List.length_nil, Nat.reduceAdd, Nat.reduceSub, enm]
  have h40 := hv.1
  have hoc := quOrder_ok l hv
  have hol := stR_len l
  have hin := stR_in l
  have hst : tkZ l c n q = qF (clZ c) n q (stR l) := rfl
  rw [hst]
  generalize stR l = os at hoc hol hin
  have hz := cnP_zero
  have hz2 := cn21_zero
  repeat' (first | ((with_reducible first | refine execL_step (fun K' hK' => ?_)); (first | with_reducible refine s_none rfl ?_ | refine s_some2 rfl ?_); simp only [go_sem, List.length_map]) | (with_reducible refine hK' _ ?_; clear hK' K') | (with_reducible refine hK _ ?_; clear hK K; try simp only [go_sem, List.length_map]) | with_reducible (first | refine stp ?_ | refine pw_seq_opsK kl115 G_ok (fun K hK => ?_) | refine pw_ops G_ok (fun K hK => ?_)) | ((with_reducible first | apply CallK.eq); (focus (with_reducible first | exact hoc)); (focus (first | exact rfl | (simp [RV.flat, D.sc, datI]; done))); try simp only [go_sem, List.length_map]) | refine inBlockA_other (by decide) ?_ | (with_reducible refine pK_mk (fun hc => ?_) (fun hc => ?_) <;> (try simp only [go_sem, List.length_map]) <;> (try simp at hc) <;> (try (exfalso; omega))) | ((first | refine pw_seq (pw_cond rfl (fun hc => ?_) (fun hc => ?_)) | refine pw_cond rfl (fun hc => ?_) (fun hc => ?_)) <;> (try simp at hc) <;> (try (exfalso; omega))) | with_reducible refine And.intro (by first | omega | (unfold inI; omega) | exact andI_inI _) ?_)
  refine pw_loop_over [8, 9, 11, 12, 14, 15, 20, 21, 22, 23, 24, 25, 26, 27, 28, 29, 30, 31, 32, 33, 34, 35, 36, 37, 38, 39, 40, 41, 42, 43, 44, 45, 46, 47, 48, 49, 50, 51, 52, 53, 54, 55] (fun k : Nat => [(20, .d (.int .i64 (k : Int))), (11, .row 1 (qF (clZ c) n q (os.take k)).1.length), (12, .row 2 (qF (clZ c) n q (os.take k)).2.length), (10, .row 0 21), (18, .row 3 os.length)]) (fun k : Nat => [(0, .row 3 1 ((cn21 ((qF (clZ c) n q (os.take k)).1.map (clZ c))).map datI)), (1, .row 3 1 ((qF (clZ c) n q (os.take k)).1.map datI)), (2, .row 3 1 ((qF (clZ c) n q (os.take k)).2.map datI)), (3, .row 3 1 (os.map datI))]) 4 (fun k : Nat => k ≤ os.length) (fun k : Nat => os.length - k) 0 (Nat.zero_le _) (fits_mk [] (by simp [renL_d, bdL_d, sg, over, wipe, wl, memN, ins, rm, lk, fitFr, fit1, ren, renL, bd, bdL, app, fitHp, hget, renB, bdB, qF_nil, List.map_nil, hz, hz2, cnP_ren, cnP_bdL] <;> omega)) ?_
  intro k hk
  have hL := qF_len (clZ c) n q (os.take k)
  have hT : (os.take k).length = k := by simp; omega
  simp only [over, wipe, wl, memN, ins, rm, if_true, if_false, Nat.reduceEqDiff, Bool.false_eq_true, reduceCtorEq]
  by_cases hlt : k < os.length
  · have hx := List.getElem?_eq_getElem hlt
    generalize os[k] = y at hx
    have hsn := qF_snoc (cl := clZ c) (n := n) (q := q) hx
    unfold qS at hsn
    generalize qF (clZ c) n q (os.take k) = s at hL hsn
    obtain ⟨tk, lf⟩ := s
    simp only at hL hsn
    have hy := hin y (List.mem_of_getElem? hx)
    have hy0 := hy.1
    have hy1 := hy.2
    obtain ⟨x, hcx, hcl, hc1, hc2⟩ := clZ_of hcf hy
    have hyn : y.toNat < c.length := by have := hcf.1; omega
    rw [hcl] at hsn
    have hbd := cn21_bd (tk.map (clZ c)) x.club
    rw [List.length_map] at hbd
    have hxn : x.club.toNat < 21 := by omega
    have hxn2 : x.club.toNat < (cn21 (tk.map (clZ c))).length := by rw [cn21_len]; omega
    have hg := cn21_get (tk.map (clZ c)) hc1 hc2
    have hgd := cnP_drop (tk.map (clZ c)) hc1 hc2
    have hgs := cnP_cut (tk.map (clZ c)) hc1 hc2
    have hst1 : ((cn21 (tk.map (clZ c))).map datI).set x.club.toNat [.int .i64 ((((tk.map (clZ c)).count x.club : Nat) : Int) + 1)] = (cn21 (tk.map (clZ c) ++ [x.club])).map datI := by rw [← cn21_snoc _ hc1 hc2, List.map_set]; rfl
    have hmp : (tk ++ [y]).map (clZ c) = tk.map (clZ c) ++ [x.club] := by rw [List.map_append, List.map_cons, List.map_nil, hcl]
    have hcl21 := cn21_len (tk.map (clZ c))
    have hpl21 := cnP_len (tk.map (clZ c))
    generalize (((tk.map (clZ c)).count x.club : Nat) : Int) = cv at hsn hbd hg hgd hgs hst1
    repeat' (first | ((with_reducible first | refine execL_step (fun K' hK' => ?_)); (first | with_reducible refine s_none rfl ?_ | refine s_some2 rfl ?_); simp only [go_sem, hlt, List.getElem?_map, hx, hcx, hyn, hxn, hxn2, hg, hgd, hst1, hcl21, hpl21, pvI, Option.map_some, datI, ClubD.dat, Nat.mul_one]) | (with_reducible refine hK' _ ?_; clear hK' K') | (with_reducible refine hK _ ?_; clear hK K; try simp only [go_sem, hlt, List.getElem?_map, hx, hcx, hyn, hxn, hxn2, hg, hgd, hst1, hcl21, hpl21, pvI, Option.map_some, datI, ClubD.dat, Nat.mul_one]) | with_reducible (first | refine stp ?_ | refine pw_seq_opsK kl115 G_ok (fun K hK => ?_) | refine pw_ops G_ok (fun K hK => ?_)) | refine inBlockA_other (by decide) ?_ | (with_reducible refine pK_mk (fun hc => ?_) (fun hc => ?_) <;> (try simp only [go_sem, hlt, List.getElem?_map, hx, hcx, hyn, hxn, hxn2, hg, hgd, hst1, hcl21, hpl21, pvI, Option.map_some, datI, ClubD.dat, Nat.mul_one]) <;> (try simp at hc) <;> (try (exfalso; omega))) | ((first | refine pw_seq (pw_cond rfl (fun hc => ?_) (fun hc => ?_)) | refine pw_cond rfl (fun hc => ?_) (fun hc => ?_)) <;> (try simp at hc) <;> (try (exfalso; omega))) | with_reducible refine And.intro (by first | omega | (unfold inI; omega) | exact andI_inI _) ?_)
    all_goals first
      | (have hsn' : qF (clZ c) n q (os.take (k + 1)) = (tk ++ [y], lf) := by rw [hsn, if_pos (by omega)]
         exact ⟨k + 1, by omega, by omega, (fits_mk [] (by simp [renL_d, bdL_d, sg, over, wipe, wl, memN, ins, rm, lk, fitFr, fit1, ren, renL, bd, bdL, app, fitHp, hget, renB, bdB, hsn', hmp, hgs, hst1, cnP_ren, cnP_bdL, datI] <;> omega))⟩)
      | (have hsn' : qF (clZ c) n q (os.take (k + 1)) = (tk, lf ++ [y]) := by rw [hsn, if_neg (by omega)]
         exact ⟨k + 1, by omega, by omega, (fits_mk [] (by simp [renL_d, bdL_d, sg, over, wipe, wl, memN, ins, rm, lk, fitFr, fit1, ren, renL, bd, bdL, app, fitHp, hget, renB, bdB, hsn', cnP_ren, cnP_bdL, datI] <;> omega))⟩)
      | skip
  · have e : os.take k = os := List.take_of_length_le (by omega)
    repeat' (first | ((with_reducible first | refine execL_step (fun K' hK' => ?_)); (first | with_reducible refine s_none rfl ?_ | refine s_some2 rfl ?_); simp only [go_sem, e]) | (with_reducible refine hK' _ ?_; clear hK' K') | (with_reducible refine hK _ ?_; clear hK K; try simp only [go_sem, e]) | with_reducible (first | refine stp ?_ | refine pw_seq_opsK kl115 G_ok (fun K hK => ?_) | refine pw_ops G_ok (fun K hK => ?_)) | refine inBlockA_other (by decide) ?_ | (with_reducible refine pK_mk (fun hc => ?_) (fun hc => ?_) <;> (try simp only [go_sem, e]) <;> (try simp at hc) <;> (try (exfalso; omega))) | ((first | refine pw_seq (pw_cond rfl (fun hc => ?_) (fun hc => ?_)) | refine pw_cond rfl (fun hc => ?_) (fun hc => ?_)) <;> (try simp at hc) <;> (try (exfalso; omega))) | with_reducible refine And.intro (by first | omega | (unfold inI; omega) | exact andI_inI _) ?_)
    refine retQ_ret rfl (by simp only [e, retL, ret1, hget, lk, List.length_map, List.length_nil, List.length_append, List.length_take, if_true, if_false, Nat.reduceEqDiff, Nat.reduceBEq, Bool.false_eq_true, Option.some.injEq]; rfl) (by simp [rowsOf, lk]) ?_; rfl
end Go.Proofs.Ythkkpiodligmiaa
