/-
  The best inquiry: the program's function and the reference's, in the abstract machine.
-/
import Derived.Test.YtphakidbddamfaaGreatZSq
import Derived.Test.YtphakidbddamfaaGreatZJb
import Derived.Test.YtphakidbddamfaaGreatZJd
import Derived.Test.YtphakidbddamfaaGreatZMf
set_option linter.unusedSimpArgs false
set_option linter.unusedVariables false
set_option maxHeartbeats 2000000
set_option maxRecDepth 100000
namespace Go.Proofs.YtphakidbddamfaaGreat
open Go.RowKit

end Go.Proofs.YtphakidbddamfaaGreat

/-
  The abstract machine: a part of a row that owns its parts is taken out of it. No program is named here.
-/
namespace Go.Proofs.YtphakidbddamfaaGreat
open Go.RowKit

/-- no other name for that part -/
def soleAl (id par k j : Nat) : List (Nat × Blk) → Prop
  | [] => True
  | (i, .al p k' j') :: r => (i = id ∨ ¬ (p = par ∧ k' = k ∧ j' = j)) ∧ soleAl id par k j r
  | _ :: r => soleAl id par k j r
theorem soleAl_get {id par k j : Nat} : ∀ {hp : List (Nat × Blk)}, soleAl id par k j hp → ∀ id', hget hp id' = some (.al par k j) → id' = id
  | [], _, id', h => by cases h
  | (i, b) :: r, hs, id', h => by
    simp only [hget] at h
    split at h
    · rename_i e
      cases h
      rcases hs.1 with h1 | h1
      · omega
      · exact (h1 ⟨rfl, rfl, rfl⟩).elim
    · refine soleAl_get (hp := r) ?_ id' h
      cases b <;> first | exact hs.2 | exact hs
section
variable {X0 : Nat → Prop} {w0 : Base} {m : Mp} {s : AS} {a : Act} {w : World}
theorem Sim.takePart (hs : Sim X0 w0 m s a w) {id par k j q sz szp : Nat} {ty : TypeId} {es ei : List (List D)} (hg : hget s.hp id = some (.al par k j)) (hgp : hget s.hp par = some (.deep q ty szp es)) (hal : alC es k j = some (sz, ei)) (hsole : soleAl id par k j s.hp) :
    ∃ ty2 m', Sim X0 w0 m' ⟨s.fr, hset (hset s.hp par (.deep q ty szp (setC es k j .hole))) id (.deep 0 ty2 sz ei), s.nx⟩ a w := by
  obtain ⟨e, k1, k2⟩ := alC_inv hal
  obtain ⟨q0, ty0, sz0, es0, e0, sz2, es2, b, c, arr, a1, a2, a3, a4, a5, a6⟩ := hs.al id par k j hg
  rw [hgp] at a1
  cases a1
  rw [k1] at a2
  cases a2
  rw [k2] at a3
  cases a3
  have hdp := hs.dp par q ty szp es hgp
  rw [a4] at hdp
  obtain ⟨g1, arr_, hh, hsz, hec, hcm, hes, Fpp, f1, f2, f3⟩ := hdp
  rw [a5] at hh
  cases hh
  obtain ⟨l, v, hl, hv, hvl⟩ : ∃ l v, m.loc id = some l ∧ arr[k * szp + j]? = some v ∧ ((l = .nil ∧ v = .slice none 0 0) ∨ ∃ b' c', l = .blk b' c' ∧ v = .slice (some ⟨b', 0, none⟩) ei.length c') := by
    rcases a6 with ⟨h1, h2⟩ | ⟨b', c', h1, h2⟩
    · exact ⟨_, _, h1, h2, .inl ⟨rfl, rfl⟩⟩
    · exact ⟨_, _, h1, h2, .inr ⟨b', c', rfl, rfl⟩⟩
  have htr := f3 k e j _ _ k1 k2 hv
  have hone := htr.one
  have hcells := htr.any.cells
  let F : Nat → Prop := fun x => l ≠ .nil ∧ Fpp k j x ∧ ¬ l.at x
  have hroot : ∃ ty2, DpOk w F ty2 sz ei (some l) ∧ ∀ x, l.at x → Fpp k j x := by
    rcases hvl with ⟨rfl, rfl⟩ | ⟨b', c', rfl, rfl⟩
    · exact ⟨0, ⟨htr.nil_inv, fun x h => h.1 rfl⟩, fun x ⟨c, h⟩ => by cases h⟩
    · generalize hD : D.lst sz ei = D0 at htr
      generalize hV : Value.slice (some ⟨b', 0, none⟩) ei.length c' = V0 at htr
      cases htr with
      | int => cases hD
      | bool => cases hD
      | str => cases hD
      | hole => cases hD
      | nil => cases hV
      | lst _ sz_ es_ b_ c_ arr2 ty2 Fp2 q1 q2 q3 q4 q5 q6 q7 q8 q9 =>
        cases hD
        cases hV
        refine ⟨ty2, ⟨fun h => h.2.2 ⟨c', rfl⟩, arr2, q2, q3, q4, q5, q6, Fp2, fun k' j' x hx => ⟨(by simp), (q7 k' j' x hx).1, fun ⟨cc, hc⟩ => (q7 k' j' x hx).2 (by cases hc; rfl)⟩, q8, q9⟩, ?_⟩
        rintro x ⟨cc, hc⟩
        cases hc
        exact q1
  obtain ⟨ty2, hdp2, hatF⟩ := hroot
  have hFpp : ∀ x, F x ∨ l.at x → Fpp k j x := fun x h => h.elim (fun h => h.2.1) (hatF x)
  have hft : ∀ x, F x ∨ l.at x → m.ft par x := fun x h => f1 _ _ _ (hFpp x h)
  have hne : id ≠ par := fun e => by subst e; rw [hg] at hgp; cases hgp
  let np : Blk := .deep q ty szp (setC es k j .hole)
  let ni : Blk := .deep 0 ty2 sz ei
  let hp' := hset (hset s.hp par np) id ni
  have e_id : hget hp' id = some ni := by rw [hget_hset, if_pos rfl, hget_hset, if_neg hne, hg]; rfl
  have e_par : hget hp' par = some np := by rw [hget_hset, if_neg (Ne.symm hne), hget_hset, if_pos rfl, hgp]; rfl
  have e_oth : ∀ i, i ≠ id → i ≠ par → hget hp' i = hget s.hp i := fun i h1 h2 => by rw [hget_hset, if_neg h1, hget_hset, if_neg h2]
  let m' : Mp := ⟨m.loc, fun i => if i = id then F else if i = par then (fun y => m.ft par y ∧ ¬ (F y ∨ l.at y)) else m.ft i⟩
  have ft_id : m'.ft id = F := if_pos rfl
  have ft_par : m'.ft par = fun y => m.ft par y ∧ ¬ (F y ∨ l.at y) := by show (if par = id then _ else _) = _; rw [if_neg (Ne.symm hne), if_pos rfl]
  have ft_oth : ∀ i, i ≠ id → i ≠ par → m'.ft i = m.ft i := fun i h1 h2 => by show (if i = id then _ else _) = _; rw [if_neg h1, if_neg h2]
  have has_id : ∀ x, ni.has m' id x → F x ∨ l.at x := by
    rintro x (⟨cc, h⟩ | h)
    · have h' : m.loc id = some (.blk x cc) := h
      rw [hl] at h'
      exact .inr ⟨cc, Option.some.inj h'⟩
    · rw [ft_id] at h; exact .inl h
  have has_par : ∀ x, np.has m' par x → x = b ∨ (m.ft par x ∧ ¬ (F x ∨ l.at x)) := by
    rintro x (⟨cc, h⟩ | h)
    · have h' : m.loc par = some (.blk x cc) := h
      rw [a4] at h'
      cases h'
      exact .inl rfl
    · rw [ft_par] at h; exact .inr h
  have has_oth : ∀ (i : Nat) (blk : Blk) (x : Nat), i ≠ id → i ≠ par → (blk.has m' i x ↔ blk.has m i x) := fun i blk x h1 h2 => Blk.has_congr (m := m) (m' := m') rfl (ft_oth i h1 h2)
  have old : ∀ (i : Nat) (blk : Blk) (x : Nat), hget hp' i = some blk → blk.has m' i x → ∃ blk0, hget s.hp (if i = id then par else i) = some blk0 ∧ blk0.has m (if i = id then par else i) x := by
    intro i blk x h1 h2
    by_cases c1 : i = id
    · subst c1
      rw [if_pos rfl]
      rw [e_id] at h1
      cases h1
      exact ⟨_, hgp, .inr (hft x (has_id x h2))⟩
    · rw [if_neg c1]
      by_cases c2 : i = par
      · subst c2
        rw [e_par] at h1
        cases h1
        rcases has_par x h2 with h3 | h3
        · exact ⟨_, hgp, .inl ⟨c, by rw [h3]; exact a4⟩⟩
        · exact ⟨_, hgp, .inr h3.1⟩
      · rw [e_oth i c1 c2] at h1
        exact ⟨_, h1, (has_oth i blk x c1 c2).1 h2⟩
  have hst : Stay w w (Owned X0 m s.hp) (Owned X0 m' hp') := by
    intro y _ hb2
    refine ⟨rfl, ?_⟩
    rintro (hx | ⟨i, blk, h1, h2⟩)
    · exact hb2 (.inl hx)
    · obtain ⟨blk0, h3, h4⟩ := old i blk y h1 h2
      exact hb2 (.inr ⟨_, blk0, h3, h4⟩)
  refine ⟨ty2, m', hs.step (m' := m') (hp' := hp') (fun _ _ h => h) (KeepB.refl _ _) hst (fun i blk h => ?_) (fun i p t z es' h => ?_) (fun i par' k' j' h => ?_) (fun i blk p h hpo => ?_) (fun i i' blk blk' x h h' h1 h2 => ?_) (fun i blk x h hb => ?_) hs.nx⟩
  · by_cases c1 : i = id
    · subst c1; rw [e_id] at h; cases h; exact ⟨l, hl, trivial⟩
    · by_cases c2 : i = par
      · subst c2; rw [e_par] at h; cases h; exact ⟨_, a4, trivial⟩
      · rw [e_oth i c1 c2] at h
        obtain ⟨l', h1, h2⟩ := hs.hp i blk h
        exact ⟨l', h1, h2.mono (fun _ _ h => h) hst fun _ _ _ _ => rfl⟩
  · by_cases c1 : i = id
    · subst c1
      rw [e_id] at h
      have h2 : Blk.deep p t z es' = .deep 0 ty2 sz ei := (Option.some.inj h).symm
      cases h2
      rw [ft_id]
      show DpOk w F ty2 sz ei (m.loc i)
      rw [hl]
      exact hdp2
    · by_cases c2 : i = par
      · subst c2
        rw [e_par] at h
        have h2 : Blk.deep p t z es' = .deep q ty szp (setC es k j .hole) := (Option.some.inj h).symm
        cases h2
        rw [ft_par]
        show DpOk w _ ty szp _ (m.loc i)
        rw [a4]
        refine ⟨fun h => g1 h.1, arr, a5, hsz, by rw [setC_len]; exact hec, hcm, setC_mem hes, fun k' j' y => ¬ (k' = k ∧ j' = j) ∧ Fpp k' j' y, fun k' j' y hy => ⟨f1 _ _ _ hy.2, fun h => hy.1 (f2 _ _ _ _ _ hy.2 (hFpp y h))⟩, fun k' j' k3 j3 y h1 h2 => f2 _ _ _ _ _ h1.2 h2.2, fun k' e' j' d u he' hd2 hu => ?_⟩
        rcases setC_get k1 he' hd2 with ⟨rfl, rfl, rfl⟩ | ⟨hne2, e0, h7, h8⟩
        · rw [hv] at hu
          cases hu
          exact .hole _ _ hone hcells
        · exact (f3 k' e0 j' d u h7 h8 hu).sub fun y hy => ⟨hne2, hy⟩
      · rw [e_oth i c1 c2] at h
        rw [ft_oth i c1 c2]
        exact hs.dp i p t z es' h
  · have c1 : i ≠ id := fun e => by subst e; rw [e_id] at h; have h2 : Blk.al par' k' j' = .deep 0 ty2 sz ei := (Option.some.inj h).symm; cases h2
    have c2 : i ≠ par := fun e => by subst e; rw [e_par] at h; have h2 : Blk.al par' k' j' = .deep q ty szp (setC es k j .hole) := (Option.some.inj h).symm; cases h2
    rw [e_oth i c1 c2] at h
    obtain ⟨q', ty', sz', es3, e0, sz3, es4, b3, c3, arr', r1, r2, r3, r4, r5, r6⟩ := hs.al i par' k' j' h
    by_cases c3' : par' = par
    · subst c3'
      rw [hgp] at r1
      cases r1
      rw [a4] at r4
      cases r4
      rw [a5] at r5
      cases r5
      have hkj : ¬ (k' = k ∧ j' = j) := by
        rintro ⟨rfl, rfl⟩
        exact c1 (soleAl_get hsole i h)
      obtain ⟨e', s1, s2⟩ := setC_other (d := .hole) k1 hkj r2 r3
      exact ⟨q, ty, szp, _, e', sz3, es4, b, c, arr, e_par, s1, s2, a4, a5, r6⟩
    · have c4 : par' ≠ id := fun e => by subst e; rw [hg] at r1; cases r1
      exact ⟨q', ty', sz', es3, e0, sz3, es4, b3, c3, arr', by rw [e_oth par' c4 c3']; exact r1, r2, r3, r4, r5, r6⟩
  · by_cases c1 : i = id
    · subst c1; rw [e_id] at h; cases h; cases hpo
    · by_cases c2 : i = par
      · subst c2
        rw [e_par] at h
        cases h
        exact hs.pin i _ p hgp (pinOf_deep hpo)
      · rw [e_oth i c1 c2] at h
        exact hs.pin i blk p h hpo
  · obtain ⟨b1, o1, o2⟩ := old i blk x h h1
    obtain ⟨b2, o3, o4⟩ := old i' blk' x h' h2
    have hij := hs.inj _ _ b1 b2 x o1 o3 o2 o4
    have clash : ∀ x, ni.has m' id x → np.has m' par x → False := by
      intro x h3 h4
      have h5 := has_id x h3
      rcases has_par x h4 with h6 | h6
      · subst h6; exact g1 (hft _ h5)
      · exact h6.2 h5
    by_cases c1 : i = id
    · by_cases c1' : i' = id
      · rw [c1, c1']
      · rw [if_pos c1, if_neg c1'] at hij
        subst c1
        rw [← hij] at h' h2
        rw [e_id] at h
        rw [e_par] at h'
        cases h
        cases h'
        exact (clash x h1 h2).elim
    · by_cases c1' : i' = id
      · rw [if_neg c1, if_pos c1'] at hij
        subst c1'
        rw [hij] at h h1
        rw [e_id] at h'
        rw [e_par] at h
        cases h
        cases h'
        exact (clash x h2 h1).elim
      · rw [if_neg c1, if_neg c1'] at hij
        exact hij
  · obtain ⟨b1, o1, o2⟩ := old i blk x h hb
    exact hs.own _ b1 x o1 o2
end
theorem po_take {P : Program} {o : Oper} {s : AS} {K : AS → Prop} {id par k j q sz szp : Nat} {ty : TypeId} {es ei : List (List D)} (hg : hget s.hp id = some (.al par k j)) (hgp : hget s.hp par = some (.deep q ty szp es)) (hal : alC es k j = some (sz, ei)) (hsole : soleAl id par k j s.hp)
    (h : ∀ ty2, PO P o ⟨s.fr, hset (hset s.hp par (.deep q ty szp (setC es k j .hole))) id (.deep 0 ty2 sz ei), s.nx⟩ K) : PO P o s K := fun X0 w0 _ a w Q hs =>
  let ⟨ty2, m', hs'⟩ := hs.takePart hg hgp hal hsole
  h ty2 X0 w0 m' a w Q hs'
end Go.Proofs.YtphakidbddamfaaGreat
