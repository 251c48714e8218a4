/-
  The abstract machine: a region that draws its order, by a table of all that may be done so far and the state then.
-/
import Derived.Test.YthkkpiodligmiaaG
import Derived.Test.YthkkpiodligmiaaWi
set_option linter.unusedSimpArgs false
set_option linter.unusedVariables false
set_option maxHeartbeats 2000000
set_option maxRecDepth 100000
namespace Go.Proofs.Ythkkpiodligmiaa
open Go.RowKit

theorem any_fits {P : Program} {ops : Array Oper} {K : AS → Prop} {fuel : Nat} {listed : Array Bool} {s s0 : AS} (hf : Fits s s0) (h : AnyP P ops K fuel listed s0) : AnyP P ops K fuel listed s :=
  fun X0 w0 _ a w Q' hQ hs =>
    let ⟨m0, h0⟩ := hs.fits hf
    h X0 w0 m0 a w Q' hQ h0
/-- one row of the table: what is done, and for each operation that may come next what is done behind it -/
abbrev Node := List Bool × List (Nat × List Bool)
def nfree (L : List Bool) : Nat := L.countP (fun b => !b)
/-- the table is right about the order of the region -/
def tabOk (l : List Oper) (tab : List Node) : Bool :=
  tab.all fun nd => (Region.ready .any l.toArray nd.1.toArray == nd.2.map (·.1)) && nd.2.all fun e => (tab.any fun nd' => nd'.1 == e.2) && (e.2.toArray == nd.1.toArray.setIfInBounds e.1 true) && (nfree e.2 + 1 == nfree nd.1)
/-- operation r leads from s to what fits s2 -/
def StepTo (P : Program) (G : List (Nat × TI)) (l : List Oper) (r : Nat) (s s2 : AS) : Prop :=
  ∃ o, l[r]? = some o ∧ ∀ K' : AS → Prop, (∀ s', Fits s' s2 → K' s') → step1 false P G l.toArray o s K'
def EdgeOk (P : Program) (G : List (Nat × TI)) (l : List Oper) (S : List Bool → AS) (L : List Bool) : List (Nat × List Bool) → Prop
  | [] => True
  | (r, L2) :: es => StepTo P G l r (S L) (S L2) ∧ EdgeOk P G l S L es
/-- all steps of the table, each with the states before and behind -/
def StepsOk (P : Program) (G : List (Nat × TI)) (l : List Oper) (S : List Bool → AS) (K : AS → Prop) : List Node → Prop
  | [] => True
  | (L, []) :: t => (∀ s', Fits s' (S L) → K s') ∧ StepsOk P G l S K t
  | (L, e :: es) :: t => EdgeOk P G l S L (e :: es) ∧ StepsOk P G l S K t
theorem steps_at {P : Program} {G : List (Nat × TI)} {l : List Oper} {S : List Bool → AS} {K : AS → Prop} : ∀ {t : List Node}, StepsOk P G l S K t → ∀ L es, (L, es) ∈ t → (es = [] → ∀ s', Fits s' (S L) → K s') ∧ ∀ r L2, (r, L2) ∈ es → StepTo P G l r (S L) (S L2)
  | [], _, L, es, h => by simp at h
  | (L1, es1) :: t, h, L, es, hm => by
    have hedge : ∀ es' : List (Nat × List Bool), EdgeOk P G l S L es' → ∀ r L2, (r, L2) ∈ es' → StepTo P G l r (S L) (S L2) := by
      intro es'
      induction es' with
      | nil => intro _ r L2 h; simp at h
      | cons e es' ih =>
        rintro ⟨h1, h2⟩ r L2 hm
        rcases List.mem_cons.1 hm with e1 | e1
        · cases e1; exact h1
        · exact ih h2 r L2 e1
    cases es1 with
    | nil =>
      obtain ⟨h1, h2⟩ := h
      rcases List.mem_cons.1 hm with e | e
      · cases e
        exact ⟨fun _ => h1, fun r L2 h => by simp at h⟩
      · exact steps_at h2 L es e
    | cons e0 es0 =>
      obtain ⟨h1, h2⟩ := h
      rcases List.mem_cons.1 hm with e | e
      · cases e
        exact ⟨fun h => by simp at h, hedge _ h1⟩
      · exact steps_at h2 L es e
theorem any_tab {P : Program} {G : List (Nat × TI)} (hG : GOK P G) {l : List Oper} {K : AS → Prop} (tab : List Node) (S : List Bool → AS) (hc : tabOk l tab = true) (hs : StepsOk P G l S K tab) :
    ∀ (f : Nat) (L : List Bool) (es : List (Nat × List Bool)) (s : AS), (L, es) ∈ tab → nfree L = f → Fits s (S L) → AnyP P l.toArray K f L.toArray s := by
  intro f
  induction f with
  | zero =>
    intro L es s hm hf hfit
    have h1 := List.all_eq_true.1 hc _ hm
    simp only [Bool.and_eq_true, beq_iff_eq] at h1
    cases es with
    | cons e es =>
      have h2 := List.all_eq_true.1 h1.2 e (by simp)
      simp only [Bool.and_eq_true, beq_iff_eq] at h2
      omega
    | nil => exact any_done h1.1 ((steps_at hs L [] hm).1 rfl s hfit)
  | succ f ih =>
    intro L es s hm hf hfit
    have h1 := List.all_eq_true.1 hc _ hm
    simp only [Bool.and_eq_true, beq_iff_eq] at h1
    have h3 := steps_at hs L _ hm
    cases es with
    | nil => exact any_done h1.1 (h3.1 rfl s hfit)
    | cons e0 es0 =>
      refine any_fits hfit ?_
      refine any_step hG _ h1.1 (by simp) ?_
      have key : ∀ es : List (Nat × List Bool), (∀ e ∈ es, e ∈ e0 :: es0) → AllR P G l K f L.toArray (S L) (es.map (·.1)) := by
        intro es
        induction es with
        | nil => intro _; trivial
        | cons e es ih2 =>
          intro hsub
          have he : e ∈ e0 :: es0 := hsub e (by simp)
          have h2 := List.all_eq_true.1 h1.2 e he
          simp only [Bool.and_eq_true, beq_iff_eq] at h2
          obtain ⟨nd, hnd, hnd2⟩ := List.any_eq_true.1 h2.1.1
          have hnd3 : nd.1 = e.2 := by simpa using hnd2
          obtain ⟨o, ho, hk⟩ := h3.2 e.1 e.2 he
          refine ⟨⟨o, ho, fun K' hK' => hk K' fun s' hf' => hK' s' ?_⟩, ih2 fun x hx => hsub x (List.mem_cons_of_mem _ hx)⟩
          rw [← h2.1.2]
          exact ih e.2 nd.2 s' (by rw [← hnd3]; exact hnd) (by omega) hf'
      exact key _ fun e he => he
/-- the state: a slot or a block of the region's own is there from the operation that makes it until all that read it are done -/
def nthB : List Bool → Nat → Bool
  | [], _ => false
  | b :: _, 0 => b
  | _ :: r, i + 1 => nthB r i
def lackB (L : List Bool) : List Nat → Bool
  | [] => false
  | i :: r => !nthB L i || lackB L r
def doneB (L : List Bool) : List Nat → Bool
  | [] => true
  | i :: r => nthB L i && doneB L r
/-- an entry is there when all of the first are done and not all of the second -/
def mkL {α : Type} (L : List Bool) : List (List Nat × List Nat × α) → List α
  | [] => []
  | (i, rd, x) :: r => if (doneB L i && lackB L rd) = true then x :: mkL L r else mkL L r
theorem pw_seq_tab {P : Program} {G : List (Nat × TI)} (hG : GOK P G) {Q : Exit → AS → Prop} {s : AS} {id : Nat} {l : List Oper} {y : Code} (hm : P.follows .mixedOrders = true) (tab : List Node) (S : List Bool → AS) (hc : tabOk l tab = true) (h0 : (tab.head?.map (·.1)) = some (List.replicate l.length false)) (hf : Fits s (S (List.replicate l.length false)))
    (hs : StepsOk P G l S (fun s' => Fits s' (S (List.replicate l.length true))) tab) (h2 : PW P y Q (S (List.replicate l.length true))) : PW P (.seq (.region id l.toArray true) y) Q s := by
  have hfree : ∀ n, nfree (List.replicate n false) = n := by intro n; unfold nfree; rw [List.countP_replicate]; simp
  have := any_tab hG tab S hc hs l.length (List.replicate l.length false) ((tab.head?.map (·.2)).getD []) s (by
    cases tab with
    | nil => simp at h0
    | cons nd t =>
      simp at h0
      rw [← h0]
      simp) (hfree _) hf
  rw [show (List.replicate l.length false).toArray = Array.replicate l.length false by simp] at this
  exact pw_seq_k fun K hK => pw_any hm fun X0 w0 m a w Q' hQ hs' => this X0 w0 m a w Q' (fun m' s' a' w' h3 h4 => hQ m' s' a' w' (hK s' (pw_fits h3 h2)) h4) hs'
theorem pw_tab {P : Program} {G : List (Nat × TI)} (hG : GOK P G) {Q : Exit → AS → Prop} {s : AS} {id : Nat} {l : List Oper} (hm : P.follows .mixedOrders = true) (tab : List Node) (S : List Bool → AS) (hc : tabOk l tab = true) (h0 : (tab.head?.map (·.1)) = some (List.replicate l.length false)) (hf : Fits s (S (List.replicate l.length false)))
    (hs : StepsOk P G l S (fun s' => Fits s' (S (List.replicate l.length true))) tab) (h2 : ∀ s', Fits s' (S (List.replicate l.length true)) → Q .normal s') : PW P (.region id l.toArray true) Q s := by
  have hfree : ∀ n, nfree (List.replicate n false) = n := by intro n; unfold nfree; rw [List.countP_replicate]; simp
  have := any_tab hG tab S hc hs l.length (List.replicate l.length false) ((tab.head?.map (·.2)).getD []) s (by
    cases tab with
    | nil => simp at h0
    | cons nd t =>
      simp at h0
      rw [← h0]
      simp) (hfree _) hf
  rw [show (List.replicate l.length false).toArray = Array.replicate l.length false by simp] at this
  exact pw_any hm fun X0 w0 m a w Q' hQ hs' => this X0 w0 m a w Q' (fun m' s' a' w' h3 h4 => hQ m' s' a' w' (h2 s' h3) h4) hs'
attribute [go_sem] StepsOk EdgeOk nthB lackB doneB mkL
end Go.Proofs.Ythkkpiodligmiaa
namespace Go.Proofs.Ythkkpiodligmiaa
open Go.RowKit

theorem datI_sc {xs : List Int} {e : List D} (he : e ∈ xs.map datI) {d : D} (hd : d ∈ e) : d.sc := by
  obtain ⟨x, _, rfl⟩ := List.mem_map.1 he
  rw [show datI x = [.int .i64 x] from rfl, List.mem_singleton] at hd
  subst hd
  simp [D.sc]
theorem flat_one {b : Bool} {ty : TypeId} {sz : Nat} {es : List (List D)} (h : ∀ e ∈ es, ∀ d ∈ e, d.sc) : b = true → ∀ r ∈ [RV.row ty sz es], r.flat := by
  intro _ r hr
  rw [List.mem_singleton] at hr
  subst hr
  exact h
theorem l1Own_ok (es : List (List D)) (hb : es.length ≤ 16777216) : FnEq Try.prog 108 [.d (.lst 1 es)] [.row 3 1 es] := by
  refine fn_ok G_ok Try.func108 rfl rfl ?_; simp only [Try.ntmps108, List.length_cons, List.length_nil, Nat.reduceAdd, Nat.reduceSub, enm]
  repeat' (first | ((with_reducible first | refine execL_step (fun K' hK' => ?_)); (first | with_reducible refine s_none rfl ?_ | refine s_some2 rfl ?_); simp only [go_sem]) | (with_reducible refine hK' _ ?_; clear hK' K') | (with_reducible refine hK _ ?_; clear hK K; try simp only [go_sem]) | with_reducible (first | refine stp ?_ | refine pw_seq_opsK kl108 G_ok (fun K hK => ?_) | refine pw_ops G_ok (fun K hK => ?_)) | refine inBlockA_other (by decide) ?_ | (with_reducible refine pK_mk (fun hc => ?_) (fun hc => ?_) <;> (try simp only [go_sem]) <;> (try simp at hc) <;> (try (exfalso; omega))) | ((first | refine pw_seq (pw_cond rfl (fun hc => ?_) (fun hc => ?_)) | refine pw_cond rfl (fun hc => ?_) (fun hc => ?_)) <;> (try simp at hc) <;> (try (exfalso; omega))) | with_reducible refine And.intro (by first | omega | (unfold inI; omega) | exact andI_inI _) ?_)
  refine retQ_ret rfl (by simp only [retL, ret1, hget, lk, List.length_map, List.length_nil, List.length_append, List.length_take, if_true, if_false, Nat.reduceEqDiff, Nat.reduceBEq, Bool.false_eq_true, Option.some.injEq]; rfl) (by simp [rowsOf, lk]) ?_; rfl
end Go.Proofs.Ythkkpiodligmiaa
