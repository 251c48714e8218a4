/-
  Regions that draw their order and hold calls that make memory: one walk in the order of the text serves every order, in the class of the worlds that only add blocks; the same where the last operations (an append, a store) wait for all others.
-/
import Derived.StillTail
import Derived.BigQuiet
import Derived.Test.YtldcnlhfanbdfaaBase
namespace Go.Proofs.Ytldcnlhfanbdfaa
open Go.RowKit

/-- the worlds in which all that lies in w lies as it did -/
def Later (w : World) : Type := { w' : World // Below w.heap.size w w' }
def Later.w {w : World} (i : Later w) : World := i.1
theorem Later.below {w : World} (i : Later w) : Below w.heap.size w i.w := i.2
theorem Later.ne (w : World) : Nonempty (Later w) := ⟨⟨w, Below.refl _ _⟩⟩
theorem Later.cell {w : World} {a : Addr} {v : Value} (h : w.cell? a = some v) (i : Later w) : i.w.cell? a = some v := cell_kept h i.below

theorem Calls.later_of {P : Program} {f : FuncId} {args : Array Value} {w : World} {i : Later w} {v : Value}
    (h : Calls P f args i.w fun e w' => e = .returned v ∧ Below i.w.heap.size i.w w') : Calls P f args i.w fun e w'' => e = .returned v ∧ ∃ j : Later w, w'' = j.w :=
  h.mono fun _ w' ⟨he, hb⟩ => ⟨he, ⟨⟨w', below_trans i.below hb⟩, rfl⟩⟩
theorem Calls.later_same {P : Program} {f : FuncId} {args : Array Value} {w : World} {i : Later w} {v : Value}
    (h : Calls P f args i.w fun e w' => e = .returned v ∧ i.w = w') : Calls P f args i.w fun e w'' => e = .returned v ∧ ∃ j : Later w, w'' = j.w :=
  h.mono fun _ _ ⟨he, hb⟩ => ⟨he, ⟨i, hb.symm⟩⟩

theorem wp_region_later {P : Program} {id : Nat} {Q : Exit → Act → World → Prop} {a : Act} {w : World} {l : List Oper} (hm : P.follows .mixedOrders = true) (hB : Region.lexB .any l.toArray = true)
    (h : wpQuiet P l.toArray (fun w' => ∃ i : Later w, w' = i.w) (fun a' => ∀ w', (∃ i : Later w, w' = i.w) → Q .normal a' w') l a) : (Code.region id l.toArray true).wp P Q a w :=
  wp_region_quiet (C := fun w' => ∃ i : Later w, w' = i.w) hm hB ⟨⟨w.drew, (Below.refl _ _).drew⟩, rfl⟩ (by simpa using h)

section
variable {P : Program} {ops : Array Oper} {md : Region.Mode} {C : World → Prop}

def anyHead (P : Program) (md : Region.Mode) (ops : Array Oper) (C : World → Prop) (n : Nat) (L : Array Bool → Act → Prop) : Nat → Array Bool → Act → Prop
  | 0, listed, a => L listed a
  | f + 1, listed, a => Region.ready md ops listed ≠ [] ∧ ∀ i ∈ Region.ready md ops listed, i < n ∧ qOp P ops C i (anyHead P md ops C n L f (listed.setIfInBounds i true)) a

theorem any_of_head {n g : Nat} {L : Array Bool → Act → Prop} {Q' : Exit → Act → World → Prop} (hL : ∀ listed a w, C w → L listed a → wpAny P md ops Q' g listed a w) :
    ∀ (f : Nat) (listed : Array Bool) (a : Act) (w : World), C w → anyHead P md ops C n L f listed a → wpAny P md ops Q' (f + g) listed a w
  | 0, listed, a, w, hC, h => by rw [Nat.zero_add]; exact hL _ _ _ hC h
  | f + 1, listed, a, w, hC, h => by
    rw [show f + 1 + g = (f + g) + 1 by omega]
    exact ⟨fun h0 => absurd h0 h.1, fun i hi => wpOp_of_qOp hC (fun a' w' hC' h' => any_of_head hL f _ a' w' hC' h') (h.2 i hi).2⟩

def sinkFrom (md : Region.Mode) (ops : Array Oper) (p n : Nat) : Bool :=
  (List.range n).all fun i => decide (i < p) || (List.range (n + 1)).any fun j => decide (i < j) && Region.waitsFor md ops j i
def Taken (p : Nat) (listed : Array Bool) : Prop := ∀ i, i < p → listed.getD i false = true
theorem Taken.set {p : Nat} {listed : Array Bool} (h : Taken p listed) (j : Nat) : Taken p (listed.setIfInBounds j true) := fun i hi => getD_set_true (h i hi)

theorem waits_from {p n : Nat} {listed : Array Bool} (hs : sinkFrom md ops p n = true) (hc : Region.chainB md ops n = true) (hn : n < ops.size) (inv : HeadInv md ops n listed) (hp : Taken p listed) :
    ∀ (d i : Nat), n - i = d → i < n → listed.getD i true = false → ∀ t, n ≤ t → t ∉ Region.ready md ops listed := by
  intro d
  induction d using Nat.strongRecOn with
  | _ d ih =>
    intro i hd hi hun t ht hr
    obtain ⟨_, ot, hot, hall⟩ := mem_ready.1 hr
    have htlt : t < ops.size := (Array.getElem?_eq_some_iff.1 hot).1
    by_cases htn : t = n
    · subst htn
      have h1 := List.all_eq_true.1 hs i (List.mem_range.2 hi)
      simp only [Bool.or_eq_true, decide_eq_true_eq] at h1
      rcases h1 with h1 | h1
      · have h2 := hp i h1
        rw [getD_both hun] at h2
        cases h2
      obtain ⟨j, hj, hj2⟩ := List.any_eq_true.1 h1
      simp only [Bool.and_eq_true, decide_eq_true_eq] at hj2
      obtain ⟨oj, hoj, e, he, hb, hon⟩ := Region.waitsFor_spec hj2.2
      have hjle : j ≤ t := by have := List.mem_range.1 hj; omega
      by_cases hjt : j = t
      · subst hjt
        have : oj = ot := Option.some.inj (hoj.symm.trans hot)
        subst this
        have h2 := hall e he hb
        rw [hon, getD_both hun] at h2
        cases h2
      · cases hl : listed.getD j false with
        | true =>
          have h2 := inv.closed j oj hoj hl e he hb
          rw [hon, getD_both hun] at h2
          cases h2
        | false =>
          have hjs : j < listed.size := by rw [inv.size]; omega
          exact ih (t - j) (by omega) j rfl (by omega) (getD_in hjs hl) t (Nat.le_refl _) hr
    · have h1 := List.all_eq_true.1 hc t (List.mem_range.2 htlt)
      simp only [Bool.or_eq_true, decide_eq_true_eq] at h1
      rcases h1 with h1 | h1
      · omega
      · obtain ⟨o', ho', e, he, hb, hon⟩ := Region.waitsFor_spec h1
        have : o' = ot := Option.some.inj (ho'.symm.trans hot)
        subst this
        have h2 := hall e he hb
        rw [hon, getD_both (inv.tail (t - 1) (by omega) (by omega))] at h2
        cases h2

theorem head_first {p n i : Nat} {oi : Oper} {v : Value} {L : Array Bool → Act → Prop} (hi : ops[i]? = some oi) (hsel : ∀ (j : Nat) (o : Oper) cs b, ops[j]? = some o → o.op ≠ .select cs b)
    (hs : sinkFrom md ops p n = true) (hc : Region.chainB md ops n = true) (hn : n < ops.size) (hin : i < n)
    (hdone : ∀ listed a, L listed a → ∀ j ∈ Region.ready md ops listed, n ≤ j) :
    ∀ (f : Nat) (listed : Array Bool) (a : Act), HeadInv md ops n listed → Taken p listed →
      (∀ j oj, ops[j]? = some oj → j ≠ i → listed.getD j true = false → (∀ e ∈ oj.after, Region.binds md e = true → e.on ≠ i) → oi.apart ops oj = true) →
      i ∈ Region.ready md ops listed → YieldsIn P ops C oi v a →
      anyHead P md ops C n L f (listed.setIfInBounds i true) (a.put oi.dst v) → anyHead P md ops C n L (f + 1) listed a := by
  intro f
  induction f with
  | zero =>
    intro listed a inv hp _ hr hy H
    have hun := (mem_ready.1 hr).1
    refine ⟨fun h => (by rw [h] at hr; cases hr), fun j hj => ?_⟩
    have hjn : j < n := Nat.lt_of_not_le fun h => waits_from hs hc hn inv hp _ i rfl hin hun j h hj
    refine ⟨hjn, ?_⟩
    by_cases hji : j = i
    · subst hji; exact hy.qOp hi H
    · have := hdone _ _ H j (ready_mono hj hji)
      omega
  | succ f ih =>
    intro listed a inv hp hfree hr hy H
    have hun := (mem_ready.1 hr).1
    refine ⟨fun h => (by rw [h] at hr; cases hr), fun j hj => ?_⟩
    have hjn : j < n := Nat.lt_of_not_le fun h => waits_from hs hc hn inv hp _ i rfl hin hun j h hj
    refine ⟨hjn, ?_⟩
    by_cases hji : j = i
    · subst hji; exact hy.qOp hi H
    · have h1 := (H.2 j (ready_mono hj hji)).2
      obtain ⟨hjun, oj, hoj, hall⟩ := mem_ready.1 hj
      have hnot : ∀ e ∈ oj.after, Region.binds md e = true → e.on ≠ i := fun e he hb heq => by
        have h1 := hall e he hb
        rw [heq, getD_both hun] at h1
        cases h1
      have h2 := qOp_put hoj (hfree j oj hoj hji hjun hnot) (fun cs b => hsel i oi cs b hi) (fun cs b => hsel j oj cs b hoj) hy h1
      have hfree' : ∀ k ok, ops[k]? = some ok → k ≠ i → (listed.setIfInBounds j true).getD k true = false →
          (∀ e ∈ ok.after, Region.binds md e = true → e.on ≠ i) → oi.apart ops ok = true := fun k ok hk hki hu hno => by
        refine hfree k ok hk hki ?_ hno
        by_cases hjk : j = k
        · subst hjk; exact hjun
        · rw [getD_set_ne true hjk] at hu; exact hu
      refine qOp_mono (fun a' h3 => ih (listed.setIfInBounds j true) a' (inv.set hj hjn) (hp.set j) hfree' (ready_mono hr (Ne.symm hji)) h3.1 ?_) h2
      rw [Array.setIfInBounds_comm _ _ hji]
      exact h3.2

theorem head_lex {p n g : Nat} {Lq : Act → Prop} (hsel : Region.noSelect ops = true) (hs : sinkFrom md ops p n = true) (hc : Region.chainB md ops n = true) (hn : n < ops.size) :
    ∀ (l : List Oper) (k : Nat) (listed : Array Bool) (a : Act), (∀ j, j < l.length → l[j]? = ops[k + j]?) → k + l.length = n → HeadInv md ops n listed → Taken p listed →
    Region.lexHead md ops g l.length k listed = true → wpQuiet P ops C Lq l a →
    anyHead P md ops C n (fun listed' a' => Region.seqB md ops g n listed' = true ∧ Lq a') l.length listed a
  | [], k, listed, a, _, hk, _, _, hB, h => by
    have : k = n := by simpa using hk
    subst this
    exact ⟨by simpa [Region.lexHead] using hB, h⟩
  | o :: l, k, listed, a, hl, hk, inv, hp, hB, h => by
    have h0 : ops[k]? = some o := by simpa using (hl 0 (by simp)).symm
    simp only [List.length_cons, Region.lexHead, Bool.and_eq_true] at hB
    obtain ⟨⟨hr, hf⟩, hB'⟩ := hB
    have hkn : k < n := by simp only [List.length_cons] at hk; omega
    have hr' : k ∈ Region.ready md ops listed := by simpa using hr
    have hst : qOp P ops C k (wpQuiet P ops C Lq l) a := by unfold qOp; simp only [h0]; exact h
    obtain ⟨v, hy, hK⟩ := yieldsIn_of_qOp h0 hst
    exact head_first h0 (Region.noSelect_spec hsel) hs hc hn hkn (fun listed' a' hL => seqB_ready hL.1) l.length listed a inv hp (Region.free_spec h0 hf) hr' hy
      (head_lex hsel hs hc hn l (k + 1) _ _ (fun j hj => by have := hl (j + 1) (by simp; omega); simpa [Nat.add_assoc, Nat.add_comm 1 j] using this) (by simp only [List.length_cons] at hk; omega) (inv.set hr' hkn) (hp.set k) hB' hK)

/-- the first operations are mere copies of slots: they may be taken first, in whatever world -/
def isMove (o : Oper) : Bool := (match o.op with | .move _ => true | _ => false) && o.guard.isNone
def preB (md : Region.Mode) (ops : Array Oper) (rest : Nat → Array Bool → Bool) : Nat → Nat → Array Bool → Bool
  | 0, k, listed => rest k listed
  | p + 1, k, listed => (match ops[k]? with | some o => isMove o | none => false) && (Region.ready md ops listed).contains k && Region.free md ops listed k && preB md ops rest p (k + 1) (listed.setIfInBounds k true)

theorem any_pre {Q' : Exit → Act → World → Prop} {rest : Nat → Array Bool → Bool} {n : Nat} {Lq : Act → Prop} {w0 w : World} (hC0 : C w0) (hQ : ∀ c (a : Act) (d : Tmp) (v : Value) w, Q' (.panic c) (a.put (some d) v) w → Q' (.panic c) a w)
    (hsel : Region.noSelect ops = true) (hn : n < ops.size) :
    ∀ (p : Nat) (l : List Oper) (k fuel : Nat) (listed : Array Bool) (a : Act), (∀ j, j < l.length → l[j]? = ops[k + j]?) → k + l.length = n → p ≤ l.length → HeadInv md ops n listed → Taken k listed →
    preB md ops rest p k listed = true → wpQuiet P ops C Lq l a →
    (∀ (listed' : Array Bool) (a' : Act), HeadInv md ops n listed' → Taken (k + p) listed' → rest (k + p) listed' = true → wpQuiet P ops C Lq (l.drop p) a' → wpAny P md ops Q' fuel listed' a' w) →
    wpAny P md ops Q' (fuel + p) listed a w
  | 0, l, k, fuel, listed, a, _, _, _, inv, ht, hB, h, H => H listed a inv ht hB h
  | p + 1, [], k, fuel, listed, a, _, _, hp, _, _, _, _, _ => by simp at hp
  | p + 1, o :: l, k, fuel, listed, a, hl, hk, hp, inv, ht, hB, h, H => by
    have h0 : ops[k]? = some o := by simpa using (hl 0 (by simp)).symm
    simp only [preB, h0, Bool.and_eq_true] at hB
    obtain ⟨⟨⟨hmv, hr⟩, hf⟩, hB'⟩ := hB
    have hkn : k < n := by simp only [List.length_cons] at hk; omega
    have hr' : k ∈ Region.ready md ops listed := by simpa using hr
    simp only [isMove, Bool.and_eq_true, Option.isNone_iff_eq_none] at hmv
    obtain ⟨x, hx⟩ : ∃ x, o.op = .move x := by
      cases ho : o.op <;> simp [ho] at hmv
      exact ⟨_, rfl⟩
    have hwant : Region.wanted o (yielded ops a.tmps) = true := by simp [Region.wanted, hmv.2]
    have hrun : ∀ w, (execOp a.eval o).run P w = .ok (.value (a.eval x)) w := BigFrame.run_move x hx
    have hst : qOp P ops C k (wpQuiet P ops C Lq l) a := by unfold qOp; simp only [h0]; exact h
    obtain ⟨v, hy, hK⟩ := yieldsIn_of_qOp h0 hst
    have hv : a.eval x = v := by
      rcases hy with ⟨_, hy⟩ | ⟨hw, _⟩
      · have := hy w0 hC0
        unfold Oper.quietAt at this
        rw [hrun] at this
        exact this.2
      · rw [hwant] at hw; cases hw
    rw [show fuel + (p + 1) = (fuel + p) + 1 by omega]
    refine wpAny_take (v := v) h0 hsel hf (by simpa using hr') (fun c a w => by cases o.dst with | none => exact fun h => h | some d => exact hQ c a d v w) (.inl ⟨hwant, fun w => by rw [hrun, hv]⟩) ?_
    refine any_pre hC0 hQ hsel hn p l (k + 1) fuel _ _ (fun j hj => by have := hl (j + 1) (by simp; omega); simpa [Nat.add_assoc, Nat.add_comm 1 j] using this) (by simp only [List.length_cons] at hk; omega) (by simpa using hp) (inv.set hr' hkn) ?_ hB' hK ?_
    · intro i hi
      by_cases e : i = k
      · subst e
        have : i < listed.size := by rw [inv.size]; omega
        simp [Array.getD, this]
      · exact (ht.set k) i (by omega)
    · intro listed' a' h1 h2 h3 h4
      exact H listed' a' h1 (by rwa [show k + 1 + p = k + (p + 1) by omega] at h2) (by rwa [show k + 1 + p = k + (p + 1) by omega] at h3) (by simpa using h4)
end

def tailB (ops : Array Oper) (p n : Nat) : Bool :=
  Region.noSelect ops && decide (n < ops.size) && decide (p ≤ n) && sinkFrom .any ops p n && Region.chainB .any ops n &&
    preB .any ops (fun k listed => Region.lexHead .any ops (ops.size - n) (n - p) k listed) p 0 (Array.replicate ops.size false)

/-- the first n operations read or call (the first p of them are copies of slots); the others wait for those from p on and come in their own order -/
theorem wp_region_later_tail {P : Program} {id : Nat} {Q : Exit → Act → World → Prop} {a : Act} {w : World} {l : List Oper} (p n : Nat) (hm : P.follows .mixedOrders = true) (hB : tailB l.toArray p n = true)
    (hQ : ∀ c (a : Act) (d : Tmp) (v : Value) w, Q (.panic c) (a.put (some d) v) w → Q (.panic c) a w)
    (h : wpQuiet P l.toArray (fun w' => ∃ i : Later w, w' = i.w) (fun a' => ∀ w', (∃ i : Later w, w' = i.w) → wpList P l.toArray Q (l.drop n) a' w') (l.take n) a) : (Code.region id l.toArray true).wp P Q a w := by
  simp only [tailB, Bool.and_eq_true, decide_eq_true_eq] at hB
  obtain ⟨⟨⟨⟨⟨hsel, hn⟩, hpn⟩, hs⟩, hc⟩, hpre⟩ := hB
  have hn' : n < l.length := by simpa using hn
  have htl : (l.take n).length = n := by simp; omega
  have hdl : (l.drop n).length = l.toArray.size - n := by simp
  have hC0 : ∃ i : Later w, w.drew = i.w := ⟨⟨w.drew, (Below.refl _ _).drew⟩, rfl⟩
  have inv0 : HeadInv .any l.toArray n (Array.replicate l.toArray.size false) :=
    ⟨by simp, fun j oj _ hl => (by rw [getD_replicate_false] at hl; cases hl), fun t _ ht => getD_in (by simpa using ht) (getD_replicate_false _ _)⟩
  refine wp_region_any hm ?_
  have key := any_pre (C := fun w' => ∃ i : Later w, w' = i.w) (md := .any) (w := w.drew) (Q' := Q) hC0 hQ hsel hn p (l.take n) 0 (l.toArray.size - p) _ a (fun j hj => by
    have hj' : j < n := by rw [htl] at hj; exact hj
    simp [hj']) (by simpa using htl) (by rw [htl]; exact hpn) inv0 (fun i hi => absurd hi (by omega)) hpre h (fun listed' a' inv' ht' hrest hq => by
      rw [Nat.zero_add] at ht' hrest
      have hlen : ((l.take n).drop p).length = n - p := by simp; omega
      have H := head_lex (md := .any) (g := l.toArray.size - n) hsel hs hc hn ((l.take n).drop p) p listed' a' (fun j hj => by
        have hj' : p + j < n := by rw [hlen] at hj; omega
        rw [List.getElem?_drop, List.getElem?_take_of_lt hj']
        simp) (by rw [hlen]; omega) inv' ht' (by rw [hlen]; exact hrest) hq
      have := any_of_head (Q' := Q) (g := l.toArray.size - n) (fun listed a' w' hC hL => by
        have := wpAny_of_seq (md := .any) (Q' := Q) (l.drop n) n listed a' w' (fun j => by simp [List.getElem?_drop]) (by rw [hdl]; exact hL.1) (hL.2 w' hC)
        rwa [hdl] at this) _ _ _ w.drew hC0 H
      rwa [hlen, show n - p + (l.toArray.size - n) = l.toArray.size - p by omega] at this)
  rwa [show l.toArray.size - p + p = l.toArray.size by omega] at key
/-- the first n operations read or call (the first p of them are copies of slots); the others wait for those from p on and come in their own order -/
theorem wp_region_class_tail {P : Program} {C : World → Prop} {id : Nat} {Q : Exit → Act → World → Prop} {a : Act} {w : World} {l : List Oper} (hC0 : C w.drew) (p n : Nat) (hm : P.follows .mixedOrders = true) (hB : tailB l.toArray p n = true)
    (hQ : ∀ c (a : Act) (d : Tmp) (v : Value) w, Q (.panic c) (a.put (some d) v) w → Q (.panic c) a w)
    (h : wpQuiet P l.toArray C (fun a' => ∀ w', C w' → wpList P l.toArray Q (l.drop n) a' w') (l.take n) a) : (Code.region id l.toArray true).wp P Q a w := by
  simp only [tailB, Bool.and_eq_true, decide_eq_true_eq] at hB
  obtain ⟨⟨⟨⟨⟨hsel, hn⟩, hpn⟩, hs⟩, hc⟩, hpre⟩ := hB
  have hn' : n < l.length := by simpa using hn
  have htl : (l.take n).length = n := by simp; omega
  have hdl : (l.drop n).length = l.toArray.size - n := by simp
  have inv0 : HeadInv .any l.toArray n (Array.replicate l.toArray.size false) :=
    ⟨by simp, fun j oj _ hl => (by rw [getD_replicate_false] at hl; cases hl), fun t _ ht => getD_in (by simpa using ht) (getD_replicate_false _ _)⟩
  refine wp_region_any hm ?_
  have key := any_pre (C := C) (md := .any) (w := w.drew) (Q' := Q) hC0 hQ hsel hn p (l.take n) 0 (l.toArray.size - p) _ a (fun j hj => by
    have hj' : j < n := by rw [htl] at hj; exact hj
    simp [hj']) (by simpa using htl) (by rw [htl]; exact hpn) inv0 (fun i hi => absurd hi (by omega)) hpre h (fun listed' a' inv' ht' hrest hq => by
      rw [Nat.zero_add] at ht' hrest
      have hlen : ((l.take n).drop p).length = n - p := by simp; omega
      have H := head_lex (md := .any) (g := l.toArray.size - n) hsel hs hc hn ((l.take n).drop p) p listed' a' (fun j hj => by
        have hj' : p + j < n := by rw [hlen] at hj; omega
        rw [List.getElem?_drop, List.getElem?_take_of_lt hj']
        simp) (by rw [hlen]; omega) inv' ht' (by rw [hlen]; exact hrest) hq
      have := any_of_head (Q' := Q) (g := l.toArray.size - n) (fun listed a' w' hC hL => by
        have := wpAny_of_seq (md := .any) (Q' := Q) (l.drop n) n listed a' w' (fun j => by simp [List.getElem?_drop]) (by rw [hdl]; exact hL.1) (hL.2 w' hC)
        rwa [hdl] at this) _ _ _ w.drew hC0 H
      rwa [hlen, show n - p + (l.toArray.size - n) = l.toArray.size - p by omega] at this)
  rwa [show l.toArray.size - p + p = l.toArray.size by omega] at key
end Go.Proofs.Ytldcnlhfanbdfaa
