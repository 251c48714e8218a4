/-
  The abstract machine: in a region that draws its order a pure operation may be taken first.
-/
import Derived.Test.YtjgpbbdapjjmiaaDoorG
namespace Go.Proofs.YtjgpbbdapjjmiaaDoor
open Go.RowKit

/-- the walk stops here -/
def Stop (p : Prop) : Prop := p
theorem stop_seq {P : Program} {id : Nat} {l : Array Oper} {b : Bool} {y : Code} {Q : Exit → AS → Prop} {s : AS} (h : Stop (PW P (.seq (.region id l b) y) Q s)) : PW P (.seq (.region id l b) y) Q s := h
theorem stop_one {P : Program} {id : Nat} {l : Array Oper} {b : Bool} {Q : Exit → AS → Prop} {s : AS} (h : Stop (PW P (.region id l b) Q s)) : PW P (.region id l b) Q s := h

/-- a region in any order, where nothing panics: from s, with these operations done, it leads into K -/
def AnyN (P : Program) (ops : Array Oper) (K : AS → Prop) (fuel : Nat) (listed : Array Bool) (s : AS) : Prop :=
  ∀ (X0 : Nat → Prop) (w0 : Base) (m : Mp) (a : Act) (w : World) (Q' : Exit → Act → World → Prop), (∀ c a w, ¬ Q' (.panic c) a w) → (∀ m' s' a' w', K s' → Sim X0 w0 m' s' a' w' → Q' .normal a' w') → Sim X0 w0 m s a w → wpAny P .any ops Q' fuel listed a w
theorem anyN_done {P : Program} {ops : Array Oper} {K : AS → Prop} {fuel : Nat} {listed : Array Bool} {s : AS} (hR : Region.ready .any ops listed = []) (h : K s) : AnyN P ops K fuel listed s :=
  fun X0 w0 m a w Q' _ hQ hs => any_done hR h X0 w0 m a w Q' hQ hs
theorem anyN_take {P : Program} {ops : Array Oper} {K : AS → Prop} {fuel : Nat} {listed : Array Bool} {s : AS} (i : Nat) {o : Oper} {x : PV} {d : Tmp} (hi : ops[i]? = some o) (hg : o.guard = none) (hd : o.dst = some d) (hs : Region.noSelect ops = true) (hf : Region.free .any ops listed i = true) (hr : (Region.ready .any ops listed).contains i = true)
    (hp : PureAt P o s x) (h : AnyN P ops K fuel (listed.setIfInBounds i true) (s.put (some d) x)) : AnyN P ops K (fuel + 1) listed s := by
  rw [← hd] at h
  intro X0 w0 m a w Q' hN hQ hs'
  obtain ⟨v, h1, h2⟩ := hp m.loc _ w a hs'.get
  exact wpAny_take hi hs hf hr (fun c a w h => absurd h (hN c _ _)) (.inl ⟨by simp [Region.wanted, hg], h1⟩) (h X0 w0 m (a.put o.dst v) w Q' hN hQ (hs'.put h2 o.dst))
def AllN (P : Program) (G : List (Nat × TI)) (l : List Oper) (K : AS → Prop) (fuel : Nat) (listed : Array Bool) (s : AS) : List Nat → Prop
  | [] => True
  | i :: r => (∃ o, l[i]? = some o ∧ ∀ K' : AS → Prop, (∀ s', AnyN P l.toArray K fuel (listed.setIfInBounds i true) s' → K' s') → step1 false P G l.toArray o s K') ∧ AllN P G l K fuel listed s r
theorem anyN_step {P : Program} {G : List (Nat × TI)} (hG : GOK P G) (R : List Nat) {l : List Oper} {K : AS → Prop} {fuel : Nat} {listed : Array Bool} {s : AS} (hR : Region.ready .any l.toArray listed = R) (hne : R.isEmpty = false) (h : AllN P G l K fuel listed s R) : AnyN P l.toArray K (fuel + 1) listed s := by
  intro X0 w0 m a w Q' hN hQ hs
  refine ⟨fun h0 => (by rw [hR] at h0; subst h0; cases hne), fun i hi => ?_⟩
  rw [hR] at hi
  have key : ∀ R : List Nat, AllN P G l K fuel listed s R → ∀ i ∈ R, ∃ o, l[i]? = some o ∧ ∀ K' : AS → Prop, (∀ s', AnyN P l.toArray K fuel (listed.setIfInBounds i true) s' → K' s') → step1 false P G l.toArray o s K' := by
    intro R
    induction R with
    | nil => intro _ i hi; cases hi
    | cons j r ih =>
      rintro ⟨h1, h2⟩ i hi
      rcases List.mem_cons.1 hi with rfl | hi
      · exact h1
      · exact ih h2 i hi
  obtain ⟨o, ho, h1⟩ := key R h i hi
  have h2 : execL P G l.toArray [o] (AnyN P l.toArray K fuel (listed.setIfInBounds i true)) s := execL_step fun K' hK' => h1 K' fun s' hs' => hK' s' hs'
  exact any_op (by simpa using ho) (execL_sound hG _ _ _ h2) hs fun m' s' a' w' h3 h4 => h3 X0 w0 m' a' w' Q' hN hQ h4
theorem pw_anyN {P : Program} {Q : Exit → AS → Prop} {s : AS} {id : Nat} {l : List Oper} (hm : P.follows .mixedOrders = true) (h : AnyN P l.toArray (Q .normal) l.length (Array.replicate l.length false) s) : PW P (.region id l.toArray true) Q s := by
  intro X0 w0 m a w hs
  refine wp_mono (Q := fun e a' w' => (∀ c, e ≠ .panic c) ∧ ∃ m' s', Q e s' ∧ Sim X0 w0 m' s' a' w') ?_ fun _ _ _ h => h.2
  refine wp_region_any hm ?_
  have := h X0 w0 m a w.drew (fun e a' w' => (∀ c, e ≠ .panic c) ∧ ∃ m' s', Q e s' ∧ Sim X0 w0 m' s' a' w') (fun c a w h => h.1 c rfl) (fun m' s' a' w' h1 h2 => ⟨(fun c e => by cases e), m', s', h1, h2⟩) hs.drew
  simpa using this
theorem pw_seq_anyN {P : Program} (T : List (Nat × List Nat)) {Q : Exit → AS → Prop} {s : AS} {id : Nat} {l : List Oper} {y : Code} (hm : P.follows .mixedOrders = true)
    (h : AnyN P l.toArray (fun s' => PW P y Q (forget T id s')) l.length (Array.replicate l.length false) s) : PW P (.seq (.region id l.toArray true) y) Q s :=
  pw_seq_k fun _ hK => pw_anyN hm fun X0 w0 m a w Q' hN hQ hs => h X0 w0 m a w Q' hN (fun m' s' a' w' h3 h4 => hQ m' s' a' w' (hK s' (pw_forget T id h3)) h4) hs
section
variable {P : Program} {o : Oper} {s : AS}
theorem pure_move {x : Operand} (ho : o.op = .move x ∨ o.op = .assign x) : PureAt P o s (s.get x) := fun m X w a hq => ⟨a.eval x, fun u => by rcases ho with h | h <;> simp [execOp, h], hq x⟩
theorem pure_len {t : TypeId} {x : Operand} {e : TypeId} {sz bytes : Nat} {z : List D} {n : Nat} (ho : o.op = .call { callee := .builtin .len, args := #[x], argTypes := #[t] }) (ht : tiB P t (.slc e sz bytes z) = true) (hx : lenP (s.get x) = some n) : PureAt P o s (.d (.int .i64 n)) := fun m X w a hq => by
    obtain ⟨A, c, h1⟩ := lenP_R hx (hq x)
    refine ⟨.int .i64 n, fun u => ?_, .d _ _ (.int _ _)⟩
    simp [execOp, ho, resolve, invoke, builtin, Builtin.len_, h1, run_underlying (tiB_slc ht).1, goInt]
theorem pure_min {x y : Operand} {ts : Array TypeId} {k : IntKind} {a b : Int} (ho : o.op = .call { callee := .builtin .min, args := #[x, y], argTypes := ts }) (hx : s.get x = .d (.int k a)) (hy : s.get y = .d (.int k b)) : PureAt P o s (.d (.int k (min a b))) := fun m X w ac hq => by
    have h1 := hq x
    have h2 := hq y
    rw [hx] at h1
    rw [hy] at h2
    refine ⟨.int k (min a b), fun u => ?_, .d _ _ (.int _ _)⟩
    have : (if b < a then b else a) = min a b := by rw [Int.min_def]; split <;> split <;> omega
    simp [execOp, ho, resolve, invoke, builtin, Builtin.min_, Builtin.min2, h1.int, h2.int, this]
theorem pure_slice {t : TypeId} {x : Operand} {lo hi : Option Operand} {e : TypeId} {sz bytes n : Nat} {z : List D} {l h : Int} {y : PV} (ho : o.op = .slice t x lo hi none) (ht : tiB P t (.slc e sz bytes z) = true) (hn : lenP (s.get x) = some n)
    (hlo : bnd s 0 lo = some l) (hhi : bnd s n hi = some h) (h0 : 0 ≤ l) (h1 : l ≤ h) (h2 : h ≤ n) (hx : slP sz l.toNat h.toNat (s.get x) = some y) : PureAt P o s y := fun m X w a hq => by
    obtain ⟨A, c, h3, h4, h5⟩ := slP_R hx hn (by omega) (by omega) (hq x)
    obtain ⟨g1, ⟨inf, v, g2, g3, _⟩, _⟩ := tiB_slc ht
    refine ⟨_, fun u => ?_, h5⟩
    have key : (Instr.sliceBounds true n c (lo.map a.eval) (hi.map a.eval) none).run P u = .ok (l.toNat, h.toNat, c) u := by
      cases hi with
      | none =>
        cases hhi
        cases lo with
        | none => cases hlo; simp [Instr.sliceBounds]
        | some q =>
          obtain ⟨k, hk⟩ := bnd_run hq hlo
          simp [Instr.sliceBounds, hk, bound_run h0 h1]
      | some q' =>
        obtain ⟨k', hk'⟩ := bnd_run hq hhi
        have hb1 : (h : Int) ≤ (c : Int) := by omega
        have e1 : ((h.toNat : Nat) : Int) = h := Int.toNat_of_nonneg (by omega)
        cases lo with
        | none => cases hlo; simp [Instr.sliceBounds, hk', bound_run (show (0 : Int) ≤ h by omega) hb1]
        | some q =>
          obtain ⟨k, hk⟩ := bnd_run hq hlo
          simp [Instr.sliceBounds, hk, hk', bound_run (show (0 : Int) ≤ h by omega) hb1, bound_run (y := h.toNat) h0 (by omega)]
    simp [execOp, ho, h3, Instr.sliceAt, Instr.slice, run_underlying g1, key, run_size g2, g3]
end
end Go.Proofs.YtjgpbbdapjjmiaaDoor
