/-
  The abstract machine: addresses, lengths, slices, strings. No program is named here.
-/
import Derived.Test.YtldcnlhfanbdfaaM3
namespace Go.Proofs.Ytldcnlhfanbdfaa
open Go.RowKit

def ptrAdd (k : Nat) : PV → Option PV
  | .eptr cs => some (.eptr (cs.drop k))
  | .bptr id off => some (.bptr id (off + k))
  | .rptr id sz i off => some (.rptr id sz i (off + k))
  | _ => none
theorem ptrAdd_R {m : Nat → Option Loc} {X : Nat → Prop} {w : World} {k : Nat} {x y : PV} {v : Value} (hp : ptrAdd k x = some y) (h : R m X w x v) : ∃ b off, v = .pointer (some ⟨b, off, none⟩) ∧ R m X w y (.pointer (some ⟨b, off + k, none⟩)) := by
  cases h with
  | eptr cs b off hd =>
    cases hp
    refine ⟨b, off, rfl, .eptr _ _ _ fun j d hj => ?_⟩
    rw [List.getElem?_drop] at hj
    obtain ⟨h1, u, h2, h3⟩ := hd _ d hj
    exact ⟨h1, u, by rw [Nat.add_assoc]; exact h2, h3⟩
  | bptr id off b c hm => cases hp; exact ⟨b, off, rfl, .bptr _ _ _ _ hm⟩
  | rptr id sz i off b c hm => cases hp; exact ⟨b, _, rfl, by rw [Nat.add_assoc]; exact .rptr _ _ _ _ _ _ hm⟩
  | _ => cases hp

/-- an element's address -/
def idxP (sz : Nat) (i : Nat) : PV → Option PV
  | .d (.lst sz' es) => if sz' = sz then (match es[i]? with | some e => some (.eptr e) | none => none) else none
  | .row id n => if i < n then some (.rptr id sz i 0) else none
  | .view id sz' lo n => if sz' = sz ∧ i < n then some (.rptr id sz (lo + i) 0) else none
  | _ => none
theorem idxP_R {m : Nat → Option Loc} {X : Nat → Prop} {w : World} {sz i : Nat} {x y : PV} {v : Value} (hp : idxP sz i x = some y) (h : R m X w x v) : ∃ b off n c, v = .slice (some ⟨b, off, none⟩) n c ∧ i < n ∧ R m X w y (.pointer (some ⟨b, off + i * sz, none⟩)) := by
  cases h with
  | d x v h =>
    cases x with
    | lst sz' es =>
      simp only [idxP] at hp
      split at hp
      · rename_i e; subst e
        split at hp
        · rename_i e he
          cases hp
          have hlt := (List.getElem?_eq_some_iff.1 he).1
          rcases h.lst_inv with ⟨A, c, h1, _⟩ | ⟨b, off, c, h1, h2, h3, h4⟩
          · subst h1; simp at he
          · refine ⟨b, off, _, c, h1, hlt, .eptr _ _ _ fun j d hj => ?_⟩
            obtain ⟨g1, u, g2, g3⟩ := h4 i e j d he hj
            exact ⟨g1, u, by rw [Nat.add_assoc]; exact g2, g3⟩
        · cases hp
      · cases hp
    | _ => cases hp
  | rowN id hm => simp [idxP] at hp
  | rowB id n b c hm hnc =>
    simp only [idxP] at hp
    split at hp
    · cases hp
      exact ⟨b, 0, n, c, rfl, by assumption, by have := R.rptr (m := m) (X := X) (w := w) id sz i 0 b c hm; simpa using this⟩
    · cases hp
  | view0 id sz' lo A c => simp [idxP] at hp
  | viewB id sz' lo n b c c' hm hc =>
    simp only [idxP] at hp
    split at hp
    · rename_i hh
      obtain ⟨rfl, hlt⟩ := hh
      cases hp
      exact ⟨b, lo * sz', n, c', rfl, hlt, by have := R.rptr (m := m) (X := X) (w := w) id sz' (lo + i) 0 b c hm; rwa [Nat.add_mul, Nat.add_zero] at this⟩
    · cases hp
  | _ => cases hp

def lenP : PV → Option Nat
  | .d (.lst _ es) => some es.length
  | .row _ n => some n
  | .view _ _ _ n => some n
  | _ => none
theorem lenP_R {m : Nat → Option Loc} {X : Nat → Prop} {w : World} {n : Nat} {x : PV} {v : Value} (hp : lenP x = some n) (h : R m X w x v) : ∃ A c, v = .slice A n c := by
  cases h with
  | d x v h =>
    cases x with
    | lst sz es =>
      cases hp
      rcases h.lst_inv with ⟨A, c, h1, h2⟩ | ⟨b, off, c, h1, _⟩
      · subst h1; exact ⟨A, c, h2⟩
      · exact ⟨_, c, h1⟩
    | _ => cases hp
  | rowN id hm => cases hp; exact ⟨_, _, rfl⟩
  | rowB id n b c hm hnc => cases hp; exact ⟨_, _, rfl⟩
  | view0 id sz' lo A c => cases hp; exact ⟨_, _, rfl⟩
  | viewB id sz' lo n b c c' hm hc => cases hp; exact ⟨_, _, rfl⟩
  | _ => cases hp

/-- a part of a slice -/
def slP (sz l h : Nat) : PV → Option PV
  | .d (.lst sz' es) => if sz' = sz then some (.d (.lst sz ((es.take h).drop l))) else none
  | .row id _ => some (.view id sz l (h - l))
  | .view id sz' lo _ => if sz' = sz then some (.view id sz (lo + l) (h - l)) else none
  | _ => none
theorem slP_R {m : Nat → Option Loc} {X : Nat → Prop} {w : World} {sz l h n : Nat} {x y : PV} {v : Value} (hp : slP sz l h x = some y) (hn : lenP x = some n) (hlh : l ≤ h) (hhn : h ≤ n) (hr : R m X w x v) :
    ∃ A c, v = .slice A n c ∧ h ≤ c ∧ R m X w y (.slice (if c = l then A else A.map (·.add (l * sz))) (h - l) (c - l)) := by
  cases hr with
  | d x v hd =>
    cases x with
    | lst sz' es =>
      simp only [slP] at hp
      split at hp
      · rename_i e; subst e
        cases hp
        cases hn
        rcases hd.lst_inv with ⟨A, c, h1, h2⟩ | ⟨b, off, c, h1, h2, h3, h4⟩
        · subst h1
          have hh : h = 0 := by simpa using hhn
          subst hh
          have hl : l = 0 := by omega
          subst hl
          refine ⟨A, c, h2, by omega, .d _ _ ?_⟩
          have e1 : (([] : List (List D)).take 0).drop 0 = [] := rfl
          rw [e1]
          exact Rd.nil _ _ _
        · refine ⟨_, c, h1, by omega, .d _ _ ?_⟩
          have hlen : ((es.take h).drop l).length = h - l := by simp; omega
          by_cases hc : c = l
          · have e1 : (es.take h).drop l = [] := List.eq_nil_of_length_eq_zero (by omega)
            rw [e1, show h - l = 0 by omega]
            exact Rd.nil _ _ _
          · rw [if_neg hc, ← hlen]
            simp only [Option.map_some, Addr.add_lit]
            have hget : ∀ (k : Nat) (e : List D), ((es.take h).drop l)[k]? = some e → es[l + k]? = some e := by
              intro k e he
              rw [List.getElem?_drop, List.getElem?_take] at he
              split at he
              · exact he
              · cases he
            have hadr : ∀ k j : Nat, off + l * sz' + (k * sz' + j) = off + ((l + k) * sz' + j) := fun k j => by rw [Nat.add_mul]; omega
            refine Rd.lst _ _ _ _ _ (by omega) (fun e he => h3 e (List.mem_of_mem_take (List.mem_of_mem_drop he))) (fun k e j d he hd' => ?_) (fun k e j d u he hd' hu => ?_)
            · obtain ⟨g1, u, g2, _⟩ := h4 (l + k) e j d (hget k e he) hd'
              exact ⟨g1, u, by rw [hadr]; exact g2⟩
            · obtain ⟨g1, u', g2, g3⟩ := h4 (l + k) e j d (hget k e he) hd'
              rw [hadr, g2] at hu
              cases hu
              exact g3
      · cases hp
    | _ => cases hp
  | rowN id hm =>
    cases hp; cases hn
    have hh : h = 0 := by omega
    subst hh
    have hl : l = 0 := by omega
    subst hl
    exact ⟨none, 0, rfl, by omega, .view0 _ _ _ _ _⟩
  | rowB id n b c hm hnc =>
    cases hp; cases hn
    refine ⟨_, c, rfl, by omega, ?_⟩
    by_cases hcl : c = l
    · rw [show h - l = 0 by omega]
      exact .view0 _ _ _ _ _
    · rw [if_neg hcl]
      simp only [Option.map_some, Addr.add_lit, Nat.zero_add]
      exact .viewB _ _ _ _ _ _ _ hm (by omega)
  | view0 id sz' lo A c =>
    simp only [slP] at hp
    split at hp
    · cases hp; cases hn
      have hh : h = 0 := by omega
      subst hh
      have hl : l = 0 := by omega
      subst hl
      exact ⟨A, c, rfl, by omega, .view0 _ _ _ _ _⟩
    · cases hp
  | viewB id sz' lo n b c c' hm hc =>
    simp only [slP] at hp
    split at hp
    · rename_i e; subst e
      cases hp; cases hn
      refine ⟨_, c', rfl, by omega, ?_⟩
      by_cases hcl : c' = l
      · rw [show h - l = 0 by omega]
        exact .view0 _ _ _ _ _
      · rw [if_neg hcl]
        simp only [Option.map_some, Addr.add_lit]
        have := R.viewB (m := m) (X := X) (w := w) id sz' (lo + l) (h - l) b c (c' - l) hm (by omega)
        rwa [Nat.add_mul] at this
    · cases hp
  | _ => cases hp

section rules
variable {P : Program} {o : Oper} {s : AS} {K : AS → Prop} {KP : PV → Prop}
theorem pq_field {t : TypeId} {x : Operand} {f n : Nat} {fs : List (Nat × Nat)} {z : List D} {fo : Nat × Nat} {y : PV} (ho : o.op = .fieldAddr t x f) (ht : tiB P t (.st n fs z) = true) (hf : fs[f]? = some fo) (hx : ptrAdd fo.1 (s.get x) = some y) (hK : KP y) : PQ P o s KP :=
  PQ.pure _ hK fun m X w a hq => by
    obtain ⟨b, off, h1, h2⟩ := ptrAdd_R hx (hq x)
    obtain ⟨⟨fields, h3, h4, h5⟩, _⟩ := tiB_st ht
    have hlt : f < fields.size := by rw [h4]; exact (List.getElem?_eq_some_iff.1 hf).1
    obtain ⟨h6, h7, i, h8, h9⟩ := h5 f fields[f] fo (by simp [hlt]) hf
    refine ⟨_, fun u => ?_, h2⟩
    have hne : ¬ fo.2 = 0 := by omega
    simp [execOp, ho, h1, Instr.fieldAt, run_underlying h3, hlt, Instr.sureAddr, fieldPlace, run_size h8, h9, hne, h6, Addr.add_lit]
theorem pq_index {t : TypeId} {x i : Operand} {e : TypeId} {sz bytes : Nat} {z : List D} {k : IntKind} {n : Int} {y : PV} (ho : o.op = .indexAddr t x i) (ht : tiB P t (.slc e sz bytes z) = true) (hi : s.get i = .d (.int k n)) (h0 : 0 ≤ n) (hx : idxP sz n.toNat (s.get x) = some y) (hK : KP y) : PQ P o s KP :=
  PQ.pure _ hK fun m X w a hq => by
    obtain ⟨b, off, len, c, h1, h2, h3⟩ := idxP_R hx (hq x)
    have h4 := hq i
    rw [hi] at h4
    obtain ⟨h5, ⟨inf, v, h6, h7, _⟩, _⟩ := tiB_slc ht
    refine ⟨_, fun u => ?_, h3⟩
    have hb : 0 ≤ n ∧ n < (len : Int) := ⟨h0, by omega⟩
    simp [execOp, ho, h1, h4.int, Instr.indexAt, run_underlying h5, asIntOf, hb, run_size h6, h7, Addr.add_lit]
theorem pq_index_arr {t : TypeId} {x i : Operand} {len sz : Nat} {z : List D} {k : IntKind} {n : Int} {y : PV} (ho : o.op = .indexAddr t x i) (ht : tiB P t (.arr len sz z) = true) (hi : s.get i = .d (.int k n)) (h0 : 0 ≤ n) (h1 : n < len) (hx : ptrAdd (n.toNat * sz) (s.get x) = some y) (hK : KP y) : PQ P o s KP :=
  PQ.pure _ hK fun m X w a hq => by
    obtain ⟨b, off, h2, h3⟩ := ptrAdd_R hx (hq x)
    have h4 := hq i
    rw [hi] at h4
    obtain ⟨⟨e, inf, h5, h6, h7⟩, _⟩ := tiB_arr ht
    refine ⟨_, fun u => ?_, h3⟩
    have hb : 0 ≤ n ∧ n < (len : Int) := ⟨h0, h1⟩
    simp [execOp, ho, h2, h4.int, Instr.indexAt, run_underlying h5, asIntOf, Instr.sureAddr, hb, run_size h6, h7, Addr.add_lit]
theorem pq_len {t : TypeId} {x : Operand} {e : TypeId} {sz bytes : Nat} {z : List D} {n : Nat} (ho : o.op = .call { callee := .builtin .len, args := #[x], argTypes := #[t] }) (ht : tiB P t (.slc e sz bytes z) = true) (hx : lenP (s.get x) = some n) (hK : KP (.d (.int .i64 n))) : PQ P o s KP :=
  PQ.pure _ hK fun m X w a hq => by
    obtain ⟨A, c, h1⟩ := lenP_R hx (hq x)
    refine ⟨.int .i64 n, fun u => ?_, .d _ _ (.int _ _)⟩
    simp [execOp, ho, resolve, invoke, builtin, Builtin.len_, h1, run_underlying (tiB_slc ht).1, goInt]
theorem pq_len_str {t : TypeId} {x : Operand} {b : ByteArray} (ho : o.op = .call { callee := .builtin .len, args := #[x], argTypes := #[t] }) (ht : tiB P t .str = true) (hx : s.get x = .d (.str b)) (hK : KP (.d (.int .i64 b.size))) : PQ P o s KP :=
  PQ.pure _ hK fun m X w a hq => by
    have h1 := hq x
    rw [hx] at h1
    refine ⟨.int .i64 b.size, fun u => ?_, .d _ _ (.int _ _)⟩
    simp [execOp, ho, resolve, invoke, builtin, Builtin.len_, h1.str, run_underlying (tiB_str ht).1, goInt]
theorem pq_extract {x : Operand} {i : Nat} {xs : List PV} {y : PV} (ho : o.op = .extract x i) (hx : s.get x = .tup xs) (hy : xs[i]? = some y) (hK : KP y) : PQ P o s KP :=
  PQ.pure _ hK fun m X w a hq => by
    have h1 := hq x
    rw [hx] at h1
    generalize hv : a.eval x = v at h1
    cases h1 with
    | tup _ vs hl h =>
      have hlt : i < vs.size := by rw [hl]; exact (List.getElem?_eq_some_iff.1 hy).1
      exact ⟨vs[i], fun u => by simp [execOp, ho, hv, Instr.extract, hlt], h i y vs[i] hy (by simp [hlt])⟩
def isPtr : PV → Bool
  | .eptr _ | .bptr _ _ | .rptr _ _ _ _ => true
  | _ => false
theorem pq_nilCheck {x : Operand} (ho : o.op = .nilCheck x) (hx : isPtr (s.get x) = true) (hK : KP (s.get x)) : PQ P o s KP :=
  PQ.pure _ hK fun m X w a hq => by
    have h1 := hq x
    refine ⟨a.eval x, fun u => ?_, h1⟩
    have : ∃ b, a.eval x = .pointer (some b) := by
      generalize a.eval x = v at h1
      generalize hg : s.get x = y at h1 hx
      cases h1 <;> first | exact ⟨_, rfl⟩ | cases hx
    obtain ⟨b, hb⟩ := this
    simp [execOp, ho, hb]
theorem pq_func {f : FuncId} {caps : Array Operand} (ho : o.op = .makeFunc (.func f) #[] caps) (hK : KP (.fn f (caps.toList.map s.get))) : PQ P o s KP :=
  PQ.pure _ hK fun m X w a hq => by
    refine ⟨.func (.func f) #[] (caps.map a.eval), fun u => by simp [execOp, ho, Instr.makeFunc], .fn _ _ _ (by simp) fun i x v hx hv => ?_⟩
    rw [List.getElem?_map] at hx
    rw [Array.getElem?_map] at hv
    cases hc : caps[i]? with
    | none => rw [hc] at hv; cases hv
    | some q =>
      rw [hc] at hv
      have hc' : caps.toList[i]? = some q := by simpa using hc
      rw [hc'] at hx
      cases hv
      cases hx
      exact hq q
/-- the bound of a slice expression -/
def bnd (s : AS) (d : Int) : Option Operand → Option Int
  | none => some d
  | some q => match s.get q with
    | .d (.int _ n) => some n
    | _ => none
theorem bnd_run {m : Nat → Option Loc} {X : Nat → Prop} {w : World} {a : Act} (hq : ∀ q, R m X w (s.get q) (a.eval q)) {q : Operand} {d n : Int} (h : bnd s d (some q) = some n) : ∃ k, a.eval q = .int k n := by
  simp only [bnd] at h
  split at h
  · rename_i k n' he
    cases h
    have := hq q
    rw [he] at this
    exact ⟨k, this.int⟩
  · cases h
theorem bound_run {P : Program} {w : World} {k : IntKind} {n : Int} {y : Nat} {code : BoundsCode} (h0 : 0 ≤ n) (h1 : n ≤ y) : (Instr.sliceBound (.int k n) y code).run P w = .ok n.toNat w := by
  have hb : 0 ≤ n ∧ n ≤ (y : Int) := ⟨h0, h1⟩
  simp [Instr.sliceBound, asIntOf, hb]
theorem pq_slice {t : TypeId} {x : Operand} {lo hi : Option Operand} {e : TypeId} {sz bytes n : Nat} {z : List D} {l h : Int} {y : PV} (ho : o.op = .slice t x lo hi none) (ht : tiB P t (.slc e sz bytes z) = true) (hn : lenP (s.get x) = some n)
    (hlo : bnd s 0 lo = some l) (hhi : bnd s n hi = some h) (h0 : 0 ≤ l) (h1 : l ≤ h) (h2 : h ≤ n) (hx : slP sz l.toNat h.toNat (s.get x) = some y) (hK : KP y) : PQ P o s KP :=
  PQ.pure _ hK fun m X w a hq => by
    obtain ⟨A, c, h3, h4, h5⟩ := slP_R hx hn (by omega) (by omega) (hq x)
    obtain ⟨g1, ⟨inf, v, g2, g3, _⟩, _⟩ := tiB_slc ht
    refine ⟨_, fun u => ?_, h5⟩
    have key : (Instr.sliceBounds true n c (lo.map a.eval) (hi.map a.eval) none).run P u = .ok (l.toNat, h.toNat, c) u := by
      cases hi with
      | none =>
        cases hhi
        cases lo with
        | none => cases hlo; simp [Instr.sliceBounds]
        | some q =>
          obtain ⟨k, hk⟩ := bnd_run hq hlo
          simp [Instr.sliceBounds, hk, bound_run h0 h1]
      | some q' =>
        obtain ⟨k', hk'⟩ := bnd_run hq hhi
        have hb1 : (h : Int) ≤ (c : Int) := by omega
        have e1 : ((h.toNat : Nat) : Int) = h := Int.toNat_of_nonneg (by omega)
        cases lo with
        | none => cases hlo; simp [Instr.sliceBounds, hk', bound_run (show (0 : Int) ≤ h by omega) hb1]
        | some q =>
          obtain ⟨k, hk⟩ := bnd_run hq hlo
          simp [Instr.sliceBounds, hk, hk', bound_run (show (0 : Int) ≤ h by omega) hb1, bound_run (y := h.toNat) h0 (by omega)]
    simp [execOp, ho, h3, Instr.sliceAt, Instr.slice, run_underlying g1, key, run_size g2, g3]
end rules
end Go.Proofs.Ytldcnlhfanbdfaa
