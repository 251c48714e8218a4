/-
  An abstract machine for the Go model: plain data, own rows and boxes; how they lie in memory. No program is named here.
-/
import Derived.WalkKit
import Derived.WalkSpells
import Derived.WalkLawsBesides
import Derived.Lib.Hide
import Derived.Laws.OwnMore
import Derived.Laws.MakeOwn
import Derived.Laws.Rows
import Derived.Laws.CopyOwn
import Derived.IntWalk
namespace Go.Proofs.Ytbfnhhomlpkcnaa
open Go.RowKit

/-- plain data -/
inductive D where
  | int (k : IntKind) (n : Int)
  | bool (b : Bool)
  | str (s : ByteArray)
  | lst (sz : Nat) (es : List (List D))

/-- the value reads as the data in w, and no cell of block set X is read -/
inductive Rd (w : World) (X : Nat → Prop) : D → Value → Prop
  | int (k : IntKind) (n : Int) : Rd w X (.int k n) (.int k n)
  | bool (b : Bool) : Rd w X (.bool b) (.bool b)
  | str (s : ByteArray) : Rd w X (.str s) (.string s)
  | nil (sz : Nat) (A : Option Addr) (c : Nat) : Rd w X (.lst sz []) (.slice A 0 c)
  | lst (sz : Nat) (es : List (List D)) (b off c : Nat) (hcap : es.length ≤ c) (hsz : ∀ e, e ∈ es → e.length = sz)
      (hc : ∀ (k : Nat) (e : List D) (j : Nat) (d : D), es[k]? = some e → e[j]? = some d → ¬ X b ∧ ∃ v, w.cell? ⟨b, off + (k * sz + j), none⟩ = some v)
      (hr : ∀ (k : Nat) (e : List D) (j : Nat) (d : D) (v : Value), es[k]? = some e → e[j]? = some d → w.cell? ⟨b, off + (k * sz + j), none⟩ = some v → Rd w X d v) :
      Rd w X (.lst sz es) (.slice (some ⟨b, off, none⟩) es.length c)

/-- where an own row or box lies -/
inductive Loc where
  | nil
  | blk (b c : Nat)

inductive PV where
  | d (x : D)
  | agg (xs : List PV)
  | tup (xs : List PV)
  | row (id n : Nat)
  | view (id sz lo n : Nat)
  | bptr (id off : Nat)
  | rptr (id sz k off : Nat)
  | eptr (cs : List D)
  | fn (f : FuncId) (caps : List PV)
  | und

inductive R (m : Nat → Option Loc) (X : Nat → Prop) (w : World) : PV → Value → Prop
  | d (x : D) (v : Value) (h : Rd w X x v) : R m X w (.d x) v
  | agg (xs : List PV) (vs : Array Value) (hl : vs.size = xs.length) (h : ∀ (i : Nat) (x : PV) (v : Value), xs[i]? = some x → vs[i]? = some v → R m X w x v) : R m X w (.agg xs) (.agg vs)
  | tup (xs : List PV) (vs : Array Value) (hl : vs.size = xs.length) (h : ∀ (i : Nat) (x : PV) (v : Value), xs[i]? = some x → vs[i]? = some v → R m X w x v) : R m X w (.tup xs) (.tuple vs)
  | rowN (id : Nat) (h : m id = some .nil) : R m X w (.row id 0) (.slice none 0 0)
  | rowB (id n b c : Nat) (h : m id = some (.blk b c)) (hn : n ≤ c) : R m X w (.row id n) (.slice (some ⟨b, 0, none⟩) n c)
  | view0 (id sz lo : Nat) (A : Option Addr) (c : Nat) : R m X w (.view id sz lo 0) (.slice A 0 c)
  | viewB (id sz lo n b c c' : Nat) (h : m id = some (.blk b c)) (hc : n ≤ c') : R m X w (.view id sz lo n) (.slice (some ⟨b, lo * sz, none⟩) n c')
  | bptr (id off b c : Nat) (h : m id = some (.blk b c)) : R m X w (.bptr id off) (.pointer (some ⟨b, off, none⟩))
  | rptr (id sz k off b c : Nat) (h : m id = some (.blk b c)) : R m X w (.rptr id sz k off) (.pointer (some ⟨b, k * sz + off, none⟩))
  | eptr (cs : List D) (b off : Nat) (h : ∀ (j : Nat) (d : D), cs[j]? = some d → ¬ X b ∧ ∃ v, w.cell? ⟨b, off + j, none⟩ = some v ∧ Rd w X d v) : R m X w (.eptr cs) (.pointer (some ⟨b, off, none⟩))
  | fn (f : FuncId) (caps : List PV) (vs : Array Value) (hl : vs.size = caps.length) (h : ∀ (i : Nat) (x : PV) (v : Value), caps[i]? = some x → vs[i]? = some v → R m X w x v) : R m X w (.fn f caps) (.func (.func f) #[] vs)
  | und (v : Value) : R m X w .und v

theorem cell_lt' {w : World} {a : Addr} {v : Value} (h : w.cell? a = some v) : a.block < w.heap.size := by
  unfold World.cell? at h
  rcases Nat.lt_or_ge a.block w.heap.size with hlt | hge
  · exact hlt
  · rw [Array.getElem?_eq_none hge] at h; cases h

/-- what is outside X stays, and stays outside -/
def Stay (w w' : World) (X X' : Nat → Prop) : Prop := ∀ b, b < w.heap.size → ¬ X b → w'.heap[b]? = w.heap[b]? ∧ ¬ X' b
theorem Stay.cell {w w' : World} {X X' : Nat → Prop} (h : Stay w w' X X') {b o : Nat} {v : Value} (hX : ¬ X b) (hc : w.cell? ⟨b, o, none⟩ = some v) : w'.cell? ⟨b, o, none⟩ = some v ∧ ¬ X' b := by
  obtain ⟨h1, h2⟩ := h b (cell_lt' hc) hX
  exact ⟨by rw [← hc]; exact World.cell?_of_block (w := w) h1, h2⟩
theorem Stay.refl (w : World) (X : Nat → Prop) : Stay w w X X := fun _ _ h => ⟨rfl, h⟩

theorem Rd.mono {w w' : World} {X X' : Nat → Prop} (hk : Stay w w' X X') {x : D} {v : Value} (h : Rd w X x v) : Rd w' X' x v := by
  induction h with
  | int k n => exact .int k n
  | bool b => exact .bool b
  | str s => exact .str s
  | nil sz A c => exact .nil sz A c
  | lst sz es b off c hcap hsz hc hr ih =>
    refine .lst sz es b off c hcap hsz (fun k e j d he hd => ?_) (fun k e j d v he hd hv => ?_)
    · obtain ⟨h1, v, h2⟩ := hc k e j d he hd
      exact ⟨(hk.cell h1 h2).2, v, (hk.cell h1 h2).1⟩
    · obtain ⟨h1, v', h2⟩ := hc k e j d he hd
      have h3 := (hk.cell h1 h2).1
      rw [hv] at h3
      cases h3
      exact ih k e j d v he hd h2

theorem R.mono {m m' : Nat → Option Loc} {w w' : World} {X X' : Nat → Prop} (hm : ∀ i l, m i = some l → m' i = some l) (hk : Stay w w' X X') {x : PV} {v : Value} (h : R m X w x v) : R m' X' w' x v := by
  induction h with
  | d x v h => exact .d x v (h.mono hk)
  | agg xs vs hl h ih => exact .agg xs vs hl ih
  | tup xs vs hl h ih => exact .tup xs vs hl ih
  | rowN id h => exact .rowN id (hm _ _ h)
  | rowB id n b c h hn => exact .rowB id n b c (hm _ _ h) hn
  | view0 id sz lo A c => exact .view0 id sz lo A c
  | viewB id sz lo n b c c' h hc => exact .viewB id sz lo n b c c' (hm _ _ h) hc
  | bptr id off b c h => exact .bptr id off b c (hm _ _ h)
  | rptr id sz k off b c h => exact .rptr id sz k off b c (hm _ _ h)
  | eptr cs b off h =>
    refine .eptr cs b off fun j d hj => ?_
    obtain ⟨h1, v, h2, h3⟩ := h j d hj
    exact ⟨(hk.cell h1 h2).2, v, (hk.cell h1 h2).1, h3.mono hk⟩
  | fn f caps vs hl h ih => exact .fn f caps vs hl ih
  | und v => exact .und v

theorem Rd.one {w : World} {X : Nat → Prop} {x : D} {v : Value} (h : Rd w X x v) : v.oneCell' = true := by cases h <;> rfl
theorem Rd.cells {w : World} {X : Nat → Prop} {x : D} {v : Value} (h : Rd w X x v) : v.cells = #[v] := by cases h <;> rfl

/-- blocks of the call's own -/
inductive Blk where
  | box (ty : TypeId) (cs : List PV)
  | row (ty : TypeId) (sz : Nat) (es : List (List D))

def hget : List (Nat × Blk) → Nat → Option Blk
  | [], _ => none
  | (k, b) :: r, i => if i = k then some b else hget r i
def hset : List (Nat × Blk) → Nat → Blk → List (Nat × Blk)
  | [], _, _ => []
  | (k, b) :: r, i, b' => if i = k then (k, b') :: r else (k, b) :: hset r i b'
def hdel : List (Nat × Blk) → Nat → List (Nat × Blk)
  | [], _ => []
  | (k, b) :: r, i => if i = k then hdel r i else (k, b) :: hdel r i
theorem hget_hset (h : List (Nat × Blk)) (i j : Nat) (b : Blk) : hget (hset h i b) j = if j = i then (hget h i).map (fun _ => b) else hget h j := by
  induction h with
  | nil => simp [hset, hget]
  | cons p r ih =>
    obtain ⟨k, c⟩ := p
    by_cases h1 : i = k
    · subst h1
      by_cases h2 : j = i <;> simp [hset, hget, h2]
    · by_cases h2 : j = k
      · subst h2
        simp [hset, hget, h1, Ne.symm h1]
      · simp only [hset, h1, if_false, hget, h2, ih]
theorem hget_hdel (h : List (Nat × Blk)) (i j : Nat) : hget (hdel h i) j = if j = i then none else hget h j := by
  induction h with
  | nil => simp [hdel, hget]
  | cons p r ih =>
    obtain ⟨k, c⟩ := p
    by_cases h1 : i = k
    · subst h1
      by_cases h2 : j = i
      · subst h2; simpa [hdel] using ih
      · simp [hdel, hget, ih, h2]
    · by_cases h2 : j = k
      · subst h2
        simp [hdel, hget, h1, Ne.symm h1]
      · simp only [hdel, h1, if_false, hget, h2, ih]

/-- a frame: how many slots there are, and what those hold that matter -/
structure Fr where
  n : Nat
  l : List (Nat × PV)
def lk : List (Nat × PV) → Nat → PV
  | [], _ => .und
  | (k, x) :: r, i => if i = k then x else lk r i
def rm : List (Nat × PV) → Nat → List (Nat × PV)
  | [], _ => []
  | (k, x) :: r, i => if i = k then rm r i else (k, x) :: rm r i
def ins (l : List (Nat × PV)) (d : Nat) (x : PV) : List (Nat × PV) := (d, x) :: rm l d
def upl : List (Nat × PV) → Nat → PV → List (Nat × PV)
  | [], _, _ => []
  | (k, y) :: r, i, x => if i = k then (k, x) :: r else (k, y) :: upl r i x
theorem lk_rm (l : List (Nat × PV)) (i j : Nat) : lk (rm l i) j = if j = i then .und else lk l j := by
  induction l with
  | nil => simp [rm, lk]
  | cons p r ih =>
    obtain ⟨k, x⟩ := p
    by_cases h1 : i = k
    · subst h1
      by_cases h2 : j = i
      · subst h2; simpa [rm, lk] using ih
      · simp [rm, lk, ih, h2]
    · by_cases h2 : j = k
      · subst h2
        simp [rm, lk, h1, Ne.symm h1]
      · simp only [rm, h1, if_false, lk, h2, ih]
theorem lk_ins (l : List (Nat × PV)) (d : Nat) (x : PV) (j : Nat) : lk (ins l d x) j = if j = d then x else lk l j := by
  simp only [ins, lk, lk_rm]; split <;> rfl
theorem upl_same : ∀ {l : List (Nat × PV)} {i : Nat} {x : PV}, lk l i = x → upl l i x = l
  | [], _, _, _ => rfl
  | (k, y) :: r, i, x, h => by
    simp only [lk] at h
    simp only [upl]
    split
    · rename_i e; rw [if_pos e] at h; rw [h]
    · rename_i e; rw [if_neg e] at h; rw [upl_same h]
theorem lk_mem : ∀ (l : List (Nat × PV)) (i : Nat), lk l i = .und ∨ (i, lk l i) ∈ l
  | [], _ => .inl rfl
  | (k, x) :: r, i => by
    simp only [lk]
    split
    · rename_i e; subst e; exact .inr (by simp)
    · exact (lk_mem r i).imp id (List.mem_cons_of_mem _)
def Fr.put (f : Fr) (d : Nat) (x : PV) : Fr := if d < f.n then ⟨f.n, ins f.l d x⟩ else f
theorem Fr.put_n (f : Fr) (d : Nat) (x : PV) : (f.put d x).n = f.n := by unfold Fr.put; split <;> rfl
/-- slots forgotten -/
def memN (i : Nat) : List Nat → Bool
  | [] => false
  | k :: r => if i = k then true else memN i r
def wl : List (Nat × PV) → List Nat → List (Nat × PV)
  | [], _ => []
  | (k, x) :: r, ts => if memN k ts = true then wl r ts else (k, x) :: wl r ts
theorem lk_wl (ts : List Nat) : ∀ (l : List (Nat × PV)) (i : Nat), lk (wl l ts) i = .und ∨ lk (wl l ts) i = lk l i
  | [], _ => .inl rfl
  | (k, x) :: r, i => by
    simp only [wl]
    split
    · rename_i hk
      by_cases e : i = k
      · subst e
        refine .inl ?_
        have : ∀ r : List (Nat × PV), lk (wl r ts) i = .und := by
          intro r
          induction r with
          | nil => rfl
          | cons p r ih =>
            obtain ⟨k', y⟩ := p
            simp only [wl]
            split
            · exact ih
            · rename_i h'
              simp only [lk]
              split
              · rename_i e; subst e; exact absurd hk h'
              · exact ih
        exact this r
      · simp only [lk, e, if_false]
        exact lk_wl ts r i
    · simp only [lk]
      split
      · exact .inr rfl
      · exact lk_wl ts r i
def wipe (f : Fr) (ts : List Nat) : Fr := ⟨f.n, wl f.l ts⟩
def enm : Nat → List PV → List (Nat × PV)
  | _, [] => []
  | i, x :: r => (i, x) :: enm (i + 1) r
theorem lk_enm : ∀ (xs : List PV) (i j : Nat), lk (enm i xs) j = if i ≤ j then xs.getD (j - i) .und else .und
  | [], i, j => by simp [enm, lk]
  | x :: r, i, j => by
    simp only [enm, lk, lk_enm r (i + 1) j]
    by_cases e : j = i
    · subst e; simp
    · by_cases h : i ≤ j
      · have h2 : i + 1 ≤ j := by omega
        obtain ⟨q, hq⟩ : ∃ q, j - i = q + 1 := ⟨j - i - 1, by omega⟩
        simp only [e, if_false, h2, if_true, h, hq, show j - (i + 1) = q by omega, List.getD_cons_succ]
      · simp only [e, if_false, h, show ¬ i + 1 ≤ j by omega]

structure AS where
  fr : Fr
  hp : List (Nat × Blk)
  nx : Nat

def ofConst : Value → PV
  | .int k n => .d (.int k n)
  | .bool b => .d (.bool b)
  | .string s => .d (.str s)
  | _ => .und
def AS.get (s : AS) : Operand → PV
  | .tmp t => lk s.fr.l t
  | .const v => ofConst v
  | .func f => .fn f []
  | .global _ => .und
def AS.put (s : AS) (dst : Option Tmp) (v : PV) : AS :=
  match dst with
  | some d => { s with fr := s.fr.put d v }
  | none => s

def Blk.ty : Blk → TypeId
  | .box ty _ => ty
  | .row ty _ _ => ty
/-- the cells of a block hold what the row or box holds -/
def Blk.cellsOk (m : Nat → Option Loc) (X : Nat → Prop) (w : World) (arr : Array Value) (c : Nat) : Blk → Prop
  | .box _ cs => arr.size = cs.length ∧ ∀ (j : Nat) (x : PV) (v : Value), cs[j]? = some x → arr[j]? = some v → R m X w x v ∧ v.oneCell' = true
  | .row _ sz es => arr.size = c * sz ∧ es.length ≤ c ∧ c ≤ maxLen ∧ (∀ e, e ∈ es → e.length = sz) ∧
      ∀ (k : Nat) (e : List D) (j : Nat) (d : D) (v : Value), es[k]? = some e → e[j]? = some d → arr[k * sz + j]? = some v → Rd w X d v
def Blk.isNil : Blk → Prop
  | .box _ _ => False
  | .row _ _ es => es = []
def Blk.ok (m : Nat → Option Loc) (X : Nat → Prop) (w : World) (blk : Blk) : Loc → Prop
  | .nil => blk.isNil
  | .blk b c => ∃ arr, w.heap[b]? = some (.cells arr blk.ty (0, 0)) ∧ blk.cellsOk m X w arr c
theorem Blk.cellsOk.mono {m m' : Nat → Option Loc} {X X' : Nat → Prop} {w w' : World} {arr : Array Value} {c : Nat} {blk : Blk} (h : blk.cellsOk m X w arr c) (hm : ∀ i l, m i = some l → m' i = some l) (hk : Stay w w' X X') : blk.cellsOk m' X' w' arr c := by
  cases blk with
  | box ty cs => exact ⟨h.1, fun j x v hx hv => ⟨(h.2 j x v hx hv).1.mono hm hk, (h.2 j x v hx hv).2⟩⟩
  | row ty sz es => exact ⟨h.1, h.2.1, h.2.2.1, h.2.2.2.1, fun k e j d v he hd hv => (h.2.2.2.2 k e j d v he hd hv).mono hk⟩
theorem Blk.ok.mono {m m' : Nat → Option Loc} {X X' : Nat → Prop} {w w' : World} {blk : Blk} {l : Loc} (h : blk.ok m X w l) (hm : ∀ i l, m i = some l → m' i = some l) (hk : Stay w w' X X')
    (hb : ∀ b c, l = .blk b c → w'.heap[b]? = w.heap[b]?) : blk.ok m' X' w' l := by
  cases l with
  | nil => exact h
  | blk b c =>
    obtain ⟨arr, h1, h2⟩ := h
    exact ⟨arr, (hb b c rfl).trans h1, h2.mono hm hk⟩

/-- the blocks that a state owns -/
def Owned (X0 : Nat → Prop) (m : Nat → Option Loc) (hp : List (Nat × Blk)) (b : Nat) : Prop := X0 b ∨ ∃ id blk c, hget hp id = some blk ∧ m id = some (.blk b c)

structure Sim (X0 : Nat → Prop) (w0 : World) (m : Nat → Option Loc) (s : AS) (a : Act) (w : World) : Prop where
  below : Below w0.heap.size w0 w
  x0 : ∀ b, X0 b → b < w0.heap.size
  size : a.tmps.size = s.fr.n
  fr : ∀ i : Nat, R m (Owned X0 m s.hp) w (lk s.fr.l i) (a.tmps.getD i undef)
  df : a.defers = []
  hp : ∀ id blk, hget s.hp id = some blk → ∃ l, m id = some l ∧ blk.ok m (Owned X0 m s.hp) w l
  inj : ∀ id id' blk blk' b c c', hget s.hp id = some blk → hget s.hp id' = some blk' → m id = some (.blk b c) → m id' = some (.blk b c') → id = id'
  own : ∀ id blk b c, hget s.hp id = some blk → m id = some (.blk b c) → w0.heap.size ≤ b ∧ b < w.heap.size
  nx : ∀ id, s.nx ≤ id → m id = none

section
variable {X0 : Nat → Prop} {w0 : World} {m : Nat → Option Loc} {s : AS} {a : Act} {w : World}

theorem Sim.get (h : Sim X0 w0 m s a w) (o : Operand) : R m (Owned X0 m s.hp) w (s.get o) (a.eval o) := by
  cases o with
  | tmp t => exact h.fr t
  | const v =>
    show R _ _ _ (ofConst v) v
    cases v <;> first | exact .d _ _ (.int _ _) | exact .d _ _ (.bool _) | exact .d _ _ (.str _) | exact .und _
  | func f => exact .fn f [] #[] rfl (fun i x v hx => by simp at hx)
  | global g => exact .und _

theorem Sim.put (h : Sim X0 w0 m s a w) {x : PV} {v : Value} (hx : R m (Owned X0 m s.hp) w x v) (dst : Option Tmp) : Sim X0 w0 m (s.put dst x) (a.put dst v) w := by
  cases dst with
  | none => exact h
  | some d =>
    refine ⟨h.below, h.x0, by simp [AS.put, Act.put, h.size, Fr.put_n], fun i => ?_, h.df, h.hp, h.inj, h.own, h.nx⟩
    simp only [AS.put, Act.put, Fr.put]
    by_cases hge : ¬ d < s.fr.n
    · rw [if_neg hge]
      have hlt := hge
      have : a.tmps.setIfInBounds d v = a.tmps := by
        unfold Array.setIfInBounds
        rw [dif_neg (by rw [h.size]; exact hlt)]
      rw [this]
      exact h.fr i
    have hlt : d < s.fr.n := Classical.not_not.1 hge
    rw [if_pos hlt]
    simp only [lk_ins]
    by_cases e : d = i
    · subst e
      simp only [if_true]
      have : d < a.tmps.size := by rw [h.size]; exact hlt
      simpa [Array.getD, this] using hx
    · rw [if_neg (Ne.symm e)]
      have h1 := h.fr i
      have e2 : (a.tmps.setIfInBounds d v).getD i undef = a.tmps.getD i undef := by
        simp only [Array.getD_eq_getD_getElem?]
        rw [Array.getElem?_setIfInBounds_ne e]
      rw [e2]
      exact h1

/-- the world has changed outside what is read -/
theorem Sim.step {m' : Nat → Option Loc} {hp' : List (Nat × Blk)} {nx' : Nat} {w' : World} (h : Sim X0 w0 m s a w) (hm : ∀ i l, m i = some l → m' i = some l) (hb : Below w0.heap.size w w')
    (hk : Stay w w' (Owned X0 m s.hp) (Owned X0 m' hp'))
    (hhp : ∀ id blk, hget hp' id = some blk → ∃ l, m' id = some l ∧ blk.ok m' (Owned X0 m' hp') w' l)
    (hinj : ∀ id id' blk blk' b c c', hget hp' id = some blk → hget hp' id' = some blk' → m' id = some (.blk b c) → m' id' = some (.blk b c') → id = id')
    (hown : ∀ id blk b c, hget hp' id = some blk → m' id = some (.blk b c) → w0.heap.size ≤ b ∧ b < w'.heap.size)
    (hnx : ∀ id, nx' ≤ id → m' id = none) : Sim X0 w0 m' ⟨s.fr, hp', nx'⟩ a w' :=
  ⟨h.below.trans hb, h.x0, h.size, fun i => (h.fr i).mono hm hk, h.df, hhp, hinj, hown, hnx⟩


def upd (m : Nat → Option Loc) (i : Nat) (l : Loc) : Nat → Option Loc := fun j => if j = i then some l else m j
theorem upd_same (m : Nat → Option Loc) (i : Nat) (l : Loc) : upd m i l i = some l := by simp [upd]
theorem upd_ne (m : Nat → Option Loc) {i j : Nat} (l : Loc) (h : j ≠ i) : upd m i l j = m j := by simp [upd, h]
theorem upd_mono (m : Nat → Option Loc) (i : Nat) (l : Loc) (h : m i = none ∨ m i = some l) : ∀ j k, m j = some k → upd m i l j = some k := by
  intro j k hj
  by_cases e : j = i
  · subst e
    rcases h with h | h
    · rw [h] at hj; cases hj
    · rw [h] at hj; rw [upd_same]; exact hj
  · rw [upd_ne m l e]; exact hj

/-- one row or box is new or has changed -/
theorem Sim.change {i : Nat} {blk' : Blk} {l' : Loc} {w' : World} {hp' : List (Nat × Blk)} {nx' : Nat} (h : Sim X0 w0 m s a w) (T : Nat → Prop) (hi : m i = none ∨ m i = some l') (hnew : hget hp' i = some blk')
    (hkeep : ∀ id, id ≠ i → ∀ blk, hget hp' id = some blk → hget s.hp id = some blk) (hnx : s.nx ≤ nx') (hin : i < nx') (hb : Below w0.heap.size w w')
    (hsame : ∀ k, k < w.heap.size → ¬ T k → w'.heap[k]? = w.heap[k]?)
    (hT : ∀ k, T k → ∃ id blk c, hget s.hp id = some blk ∧ m id = some (.blk k c) ∧ (id = i ∨ hget hp' id = none))
    (hl : ∀ b c, l' = .blk b c → w0.heap.size ≤ b ∧ b < w'.heap.size ∧ (w.heap.size ≤ b ∨ T b))
    (hok : Stay w w' (Owned X0 m s.hp) (Owned X0 (upd m i l') hp') → blk'.ok (upd m i l') (Owned X0 (upd m i l') hp') w' l') : Sim X0 w0 (upd m i l') ⟨s.fr, hp', nx'⟩ a w' := by
  have hm := upd_mono m i l' hi
  have hTown : ∀ k, T k → Owned X0 m s.hp k := fun k hk => let ⟨id, blk, c, h1, h2, _⟩ := hT k hk; .inr ⟨id, blk, c, h1, h2⟩
  have hst : Stay w w' (Owned X0 m s.hp) (Owned X0 (upd m i l') hp') := by
    intro b hb1 hb2
    refine ⟨hsame b hb1 (fun ht => hb2 (hTown b ht)), ?_⟩
    rintro (hx | ⟨id, blk, c, h1, h2⟩)
    · exact hb2 (.inl hx)
    · by_cases e : id = i
      · subst e
        rw [upd_same] at h2
        injection h2 with h2
        rcases (hl b c h2).2.2 with h3 | h3
        · omega
        · exact hb2 (hTown b h3)
      · rw [upd_ne m l' e] at h2
        exact hb2 (.inr ⟨id, blk, c, hkeep id e blk h1, h2⟩)
  have hTk : ∀ id blk b c, id ≠ i → hget hp' id = some blk → m id = some (.blk b c) → ¬ T b := by
    intro id blk b c e h1 h2 ht
    obtain ⟨id', blk', c', h3, h4, h5⟩ := hT b ht
    have := h.inj id id' blk blk' b c c' (hkeep id e blk h1) h3 h2 h4
    subst this
    rcases h5 with h5 | h5
    · exact e h5
    · rw [h5] at h1; cases h1
  refine h.step hm hb hst (fun id blk hid => ?_) ?_ ?_ (fun id hid => ?_)
  · by_cases e : id = i
    · subst e
      rw [hnew] at hid
      cases hid
      exact ⟨l', upd_same m id l', hok hst⟩
    · obtain ⟨l, h1, h2⟩ := h.hp id blk (hkeep id e blk hid)
      refine ⟨l, by rw [upd_ne m l' e]; exact h1, h2.mono hm hst ?_⟩
      intro b c hl2
      subst hl2
      exact hsame b (h.own id blk b c (hkeep id e blk hid) h1).2 (hTk id blk b c e hid h1)
  · have key : ∀ id blk b c c', id ≠ i → hget hp' id = some blk → m id = some (.blk b c) → l' = .blk b c' → False := by
      intro id blk b c c' e h1 h2 h3
      rcases (hl b c' h3).2.2 with h4 | h4
      · have := (h.own id blk b c (hkeep id e blk h1) h2).2
        omega
      · exact hTk id blk b c e h1 h2 h4
    intro id id' blk blk2 b c c' h1 h2 h3 h4
    by_cases e : id = i
    · subst e
      by_cases e' : id' = id
      · exact e'.symm
      · rw [upd_same] at h3
        rw [upd_ne m l' e'] at h4
        injection h3 with h3
        exact (key id' blk2 b c' c e' h2 h4 h3).elim
    · by_cases e' : id' = i
      · subst e'
        rw [upd_same] at h4
        rw [upd_ne m l' e] at h3
        injection h4 with h4
        exact (key id blk b c c' e h1 h3 h4).elim
      · rw [upd_ne m l' e] at h3
        rw [upd_ne m l' e'] at h4
        exact h.inj id id' blk blk2 b c c' (hkeep id e blk h1) (hkeep id' e' blk2 h2) h3 h4
  · intro id blk b c h1 h2
    by_cases e : id = i
    · subst e
      rw [upd_same] at h2
      injection h2 with h2
      exact ⟨(hl b c h2).1, (hl b c h2).2.1⟩
    · rw [upd_ne m l' e] at h2
      have := h.own id blk b c (hkeep id e blk h1) h2
      exact ⟨this.1, Nat.lt_of_lt_of_le this.2 hb.size⟩
  · rw [upd_ne m l' (by omega)]
    exact h.nx id (by omega)

/-- a row or box is let go -/
theorem Sim.kill (h : Sim X0 w0 m s a w) (hp' : List (Nat × Blk)) (hkeep : ∀ id blk, hget hp' id = some blk → hget s.hp id = some blk) : Sim X0 w0 m ⟨s.fr, hp', s.nx⟩ a w := by
  have hst : Stay w w (Owned X0 m s.hp) (Owned X0 m hp') := by
    intro b _ hb2
    refine ⟨rfl, ?_⟩
    rintro (hx | ⟨id, blk, c, h1, h2⟩)
    · exact hb2 (.inl hx)
    · exact hb2 (.inr ⟨id, blk, c, hkeep id blk h1, h2⟩)
  refine h.step (fun _ _ h => h) (Below.refl _ _) hst (fun id blk hid => ?_) (fun id id' blk blk' b c c' h1 h2 => h.inj id id' blk blk' b c c' (hkeep _ _ h1) (hkeep _ _ h2)) (fun id blk b c h1 => h.own id blk b c (hkeep _ _ h1)) h.nx
  obtain ⟨l, h1, h2⟩ := h.hp id blk (hkeep id blk hid)
  exact ⟨l, h1, h2.mono (fun _ _ h => h) hst (fun _ _ _ => rfl)⟩

theorem Sim.wipe (h : Sim X0 w0 m s a w) (ts : List Nat) : Sim X0 w0 m ⟨wipe s.fr ts, s.hp, s.nx⟩ a w :=
  ⟨h.below, h.x0, h.size, fun i => by
    rcases lk_wl ts s.fr.l i with e | e
    · simp only [Go.Proofs.Ytbfnhhomlpkcnaa.wipe, e]; exact .und _
    · simp only [Go.Proofs.Ytbfnhhomlpkcnaa.wipe, e]; exact h.fr i, h.df, h.hp, h.inj, h.own, h.nx⟩
theorem Sim.hnx (h : Sim X0 w0 m s a w) : m s.nx = none := h.nx _ (Nat.le_refl _)
theorem Sim.hget_nx (h : Sim X0 w0 m s a w) : hget s.hp s.nx = none := by
  cases e : hget s.hp s.nx with
  | none => rfl
  | some blk =>
    obtain ⟨l, h1, _⟩ := h.hp _ _ e
    rw [h.hnx] at h1
    cases h1

/-- a new block -/
theorem Sim.alloc (h : Sim X0 w0 m s a w) {blk : Blk} {arr : Array Value} {c : Nat} (hok : blk.cellsOk m (Owned X0 m s.hp) w arr c) :
    Sim X0 w0 (upd m s.nx (.blk w.heap.size c)) ⟨s.fr, (s.nx, blk) :: s.hp, s.nx + 1⟩ a (w.alloc (.cells arr blk.ty)) := by
  refine h.change (blk' := blk) (fun _ => False) (.inl h.hnx) (by simp [hget]) (fun id hid b hb => by simpa [hget, hid] using hb) (by omega) (by omega) ((Below.refl _ _).alloc h.below.size _) (fun k hk _ => Below.heap_alloc w _ k hk) (fun _ hf => hf.elim) ?_ ?_
  · intro b c' e
    cases e
    exact ⟨h.below.size, by simp, .inl (Nat.le_refl _)⟩
  · intro hst
    exact ⟨arr, heap_alloc_new w _, hok.mono (upd_mono m _ _ (.inl h.hnx)) hst⟩

/-- a nil slice, as a row of none -/
theorem Sim.ghost (h : Sim X0 w0 m s a w) (ty : TypeId) (sz : Nat) : Sim X0 w0 (upd m s.nx .nil) ⟨s.fr, (s.nx, .row ty sz []) :: s.hp, s.nx + 1⟩ a w := by
  refine h.change (blk' := .row ty sz []) (fun _ => False) (.inl h.hnx) (by simp [hget]) (fun id hid b hb => by simpa [hget, hid] using hb) (by omega) (by omega) (Below.refl _ _) (fun k hk _ => rfl) (fun _ hf => hf.elim) ?_ ?_
  · intro b c' e
    cases e
  · intro _
    rfl

theorem Sim.drew (h : Sim X0 w0 m s a w) : Sim X0 w0 m s a w.drew :=
  h.step (fun _ _ h => h) (Below.refl _ _).drew (fun _ _ h => ⟨rfl, h⟩) (fun id blk hid => by
    obtain ⟨l, h1, h2⟩ := h.hp id blk hid
    exact ⟨l, h1, h2.mono (fun _ _ h => h) (fun _ _ h => ⟨rfl, h⟩) (fun _ _ _ => rfl)⟩) h.inj h.own h.nx
end
end Go.Proofs.Ytbfnhhomlpkcnaa
