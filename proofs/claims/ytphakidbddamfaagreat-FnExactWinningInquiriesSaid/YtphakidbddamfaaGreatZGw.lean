/-
  Codes of points: their words; when they are valid; what elements are worth. No program is named here.
-/
import Derived.Test.YtphakidbddamfaaGreatZAw
namespace Go.Proofs.YtphakidbddamfaaGreat
open Go.RowKit

structure ElementD where
  name : ByteArray
  family : Int
  level : Int
  base : Int
def ElementD.dat (x : ElementD) : List D := [.str x.name, .int .i64 x.family, .int .i64 x.level, .int .i64 x.base]
structure CodeD where
  elements : List ElementD
  limits : List Int
  repeats : Int
  bonus : Int
  keeps : Int
  fall : Int
@[reducible] def CodeD.cs (c : CodeD) : List PV := [.d (.lst 4 (c.elements.map ElementD.dat)), .d (.lst 1 (c.limits.map datI)), .d (.int .i64 c.repeats), .d (.int .i64 c.bonus), .d (.int .i64 c.keeps), .d (.int .i64 c.fall)]
def CodeD.dat (c : CodeD) : List D := [.lst 4 (c.elements.map ElementD.dat), .lst 1 (c.limits.map datI), .int .i64 c.repeats, .int .i64 c.bonus, .int .i64 c.keeps, .int .i64 c.fall]
/-- it fits into memory -/
@[reducible] def ElFit (m : Nat) (x : ElementD) : Prop := x.name.size ≤ m
def CdFit (m : Nat) (c : CodeD) : Prop := c.elements.length ≤ m ∧ (∀ x ∈ c.elements, ElFit m x) ∧ c.limits.length ≤ m
theorem CdFit.mono {m m' : Nat} (h : m ≤ m') {c : CodeD} (hc : CdFit m c) : CdFit m' c := ⟨Nat.le_trans hc.1 h, fun s hs => Nat.le_trans (hc.2.1 s hs) h, Nat.le_trans hc.2.2 h⟩
/-- the name ahead is less -/
def prevN (l : List ElementD) (k : Nat) : ByteArray := ((l[k - 1]?).map ElementD.name).getD ByteArray.empty
theorem prevN_of {l : List ElementD} {k : Nat} {p : ElementD} (hp : l[k - 1]? = some p) : prevN l k = p.name := by unfold prevN; rw [hp]; rfl
def ElAt (l : List ElementD) (k : Nat) (x : ElementD) : Prop := NameOk x.name ∧ 0 ≤ x.family ∧ x.family ≤ 4 ∧ 0 ≤ x.level ∧ x.level ≤ 4 ∧ 1 ≤ x.base ∧ x.base ≤ 2000 ∧ (0 < k → Op.bytesLess (prevN l k).toList x.name.toList = true)
def CodeNums (c : CodeD) : Prop := 1 ≤ c.elements.length ∧ c.elements.length ≤ 24 ∧ c.limits.length = 5 ∧ 1 ≤ c.repeats ∧ c.repeats ≤ 3 ∧ 0 ≤ c.bonus ∧ c.bonus ≤ 20 ∧ 50 ≤ c.keeps ∧ c.keeps ≤ 100 ∧ 0 ≤ c.fall ∧ c.fall ≤ 500
def CodeOk (c : CodeD) : Prop := All (ElAt c.elements) c.elements ∧ AllIn 0 9 c.limits ∧ CodeNums c
/-- the first element of a name -/
def elP (nm : ByteArray) (x : ElementD) : Bool := decide (x.name = nm)
def findW (c : CodeD) (nm : ByteArray) : Int := fIx (elP nm) c.elements 0
theorem findW_at {c : CodeD} {nm : ByteArray} (h : 0 ≤ findW c nm) : ∃ x, c.elements[(findW c nm).toNat]? = some x ∧ x.name = nm := by
  rcases fIx_inv (p := elP nm) c.elements 0 with ⟨h1, _⟩ | ⟨k, x, h1, h2, h3, _⟩
  · rw [findW, h1] at h; omega
  · refine ⟨x, ?_, by simpa [elP] using h3⟩
    rw [findW, h1]
    simpa using h2
/-- what an element with a mark is worth -/
def worthE (c : CodeD) (x : ElementD) (m : Int) : Int := if m = 1 then (x.base * c.keeps).tdiv 100 else if m = 2 then (x.base * 9).tdiv 10 else if m = 3 then 0 else x.base
def worthN (c : CodeD) (nm : ByteArray) (m : Int) : Int := match c.elements[(findW c nm).toNat]? with
  | some x => if findW c nm < 0 then -1 else worthE c x m
  | none => -1
theorem worthN_of {c : CodeD} {nm : ByteArray} {m : Int} {x : ElementD} (h : 0 ≤ findW c nm) (hx : c.elements[(findW c nm).toNat]? = some x) : worthN c nm m = worthE c x m := by
  unfold worthN; rw [hx]; simp only; rw [if_neg (by omega)]
theorem worthN_neg {c : CodeD} {nm : ByteArray} {m : Int} (h : findW c nm < 0) : worthN c nm m = -1 := by
  unfold worthN
  split
  · rw [if_pos h]
  · rfl
theorem mul_bd {a b A B : Int} (h1 : -A ≤ a) (h2 : a ≤ A) (h3 : 0 ≤ b) (h4 : b ≤ B) : -(A * B) ≤ a * b ∧ a * b ≤ A * B := by
  have hA : 0 ≤ A := by omega
  have h5 : a * b ≤ A * b := Int.mul_le_mul_of_nonneg_right h2 h3
  have h6 : A * b ≤ A * B := Int.mul_le_mul_of_nonneg_left h4 hA
  have h7 : -A * b ≤ a * b := Int.mul_le_mul_of_nonneg_right h1 h3
  have h8 : -A * b = -(A * b) := Int.neg_mul A b
  omega
theorem mul_nn {a b A B : Int} (h1 : 0 ≤ a) (h2 : a ≤ A) (h3 : 0 ≤ b) (h4 : b ≤ B) : 0 ≤ a * b ∧ a * b ≤ A * B :=
  ⟨Int.mul_nonneg h1 h3, (mul_bd (by omega) h2 h3 h4).2⟩
theorem ElAt.worth {c : CodeD} (hc : CodeNums c) {k : Nat} {x : ElementD} (hx : ElAt c.elements k x) (m : Int) : 0 ≤ worthE c x m ∧ worthE c x m ≤ 2000 := by
  obtain ⟨_, _, _, _, _, h1, h2, _⟩ := hx
  obtain ⟨_, _, _, _, _, _, _, h3, h4, _⟩ := hc
  have hm := mul_nn (a := x.base) (b := c.keeps) (A := 2000) (B := 100) (by omega) h2 (by omega) h4
  unfold worthE
  split
  · rw [Int.tdiv_eq_ediv_of_nonneg hm.1]; omega
  · split
    · rw [Int.tdiv_eq_ediv_of_nonneg (by omega)]; omega
    · split <;> omega
theorem worthN_bd {c : CodeD} (hc : CodeOk c) {nm : ByteArray} (m : Int) (h : 0 ≤ findW c nm) : 0 ≤ worthN c nm m ∧ worthN c nm m ≤ 2000 := by
  obtain ⟨x, hx, _⟩ := findW_at h
  rw [worthN_of h hx]
  exact (hc.1 _ _ hx).worth hc.2.2 m
end Go.Proofs.YtphakidbddamfaaGreat

/-
  Scores of items: their words, with bounds. No program is named here.
-/
namespace Go.Proofs.YtphakidbddamfaaGreat
open Go.RowKit

/-- a quotient rounded down; to the nearest -/
def dnW (a b : Int) : Int := if a.tmod b < 0 then a.tdiv b - 1 else a.tdiv b
def roundW (a b : Int) : Int := dnW (2 * a + b) (2 * b)
theorem tdiv_bd (a b A : Int) (h1 : -A ≤ a) (h2 : a ≤ A) : -A ≤ a.tdiv b ∧ a.tdiv b ≤ A := by
  have h := Int.natAbs_tdiv_le_natAbs a b
  omega
theorem dnW_bd {a b A : Int} (h1 : -A ≤ a) (h2 : a ≤ A) : -A - 1 ≤ dnW a b ∧ dnW a b ≤ A := by
  have h := tdiv_bd a b A h1 h2
  unfold dnW
  split <;> omega
theorem tmod_bd {a b A : Int} (h1 : -A ≤ a) (h2 : a ≤ A) : -A ≤ a.tmod b ∧ a.tmod b ≤ A := by
  have h : (a.tmod b).natAbs ≤ a.natAbs := by rw [Int.natAbs_tmod]; exact Nat.mod_le _ _
  omega
theorem roundW_bd {a b A B : Int} (h1 : -A ≤ a) (h2 : a ≤ A) (h3 : 0 ≤ b) (h4 : b ≤ B) : -(2 * A + B) - 1 ≤ roundW a b ∧ roundW a b ≤ 2 * A + B :=
  dnW_bd (by omega) (by omega)
/-- sums -/
theorem sum_bd {A : Int} : ∀ {l : List Int}, (∀ x ∈ l, -A ≤ x ∧ x ≤ A) → -(A * (l.length : Int)) ≤ l.sum ∧ l.sum ≤ A * (l.length : Int)
  | [], _ => by simp
  | x :: l, h => by
    have h1 := h x (by simp)
    have h2 := sum_bd (l := l) fun y hy => h y (List.mem_cons_of_mem _ hy)
    have h3 : A * ((l.length + 1 : Nat) : Int) = A * (l.length : Int) + A := by rw [Int.natCast_add, Int.mul_add]; simp
    rw [List.sum_cons, List.length_cons, h3]
    omega
theorem sum_nn {A : Int} : ∀ {l : List Int}, (∀ x ∈ l, 0 ≤ x ∧ x ≤ A) → 0 ≤ l.sum ∧ l.sum ≤ A * (l.length : Int)
  | [], _ => by simp
  | x :: l, h => by
    have h1 := h x (by simp)
    have h2 := sum_nn (l := l) fun y hy => h y (List.mem_cons_of_mem _ hy)
    have h3 : A * ((l.length + 1 : Nat) : Int) = A * (l.length : Int) + A := by rw [Int.natCast_add, Int.mul_add]; simp
    rw [List.sum_cons, List.length_cons, h3]
    omega
theorem sum_snoc {l : List Int} {k : Nat} {x : Int} (hx : l[k]? = some x) : (l.take (k + 1)).sum = (l.take k).sum + x := by rw [take_snoc hx]; simp
/-- greatest and least -/
def maxW (xs : List Int) : Int := (xs.drop 1).foldl max (xs.headD 0)
def minW (xs : List Int) : Int := (xs.drop 1).foldl min (xs.headD 0)
/-- items whose names a code knows -/
def KnownI (c : CodeD) (it : ItemD) : Prop := All (fun _ nm => 0 ≤ findW c nm) it.names
def KnownL (c : CodeD) (l : List ItemD) : Prop := All (fun _ it => KnownI c it) l
def worthsW (c : CodeD) (it : ItemD) : List Int := (it.names.zip it.marks).map fun p => worthN c p.1 p.2
theorem worthsW_len {c : CodeD} {it : ItemD} (h : ItOk it) : (worthsW c it).length = it.names.length := by unfold worthsW; rw [List.length_map, List.length_zip, h.2.2.2.1]; simp
theorem worthsW_get {c : CodeD} {it : ItemD} {k : Nat} {nm : ByteArray} {m : Int} (h1 : it.names[k]? = some nm) (h2 : it.marks[k]? = some m) : (worthsW c it)[k]? = some (worthN c nm m) := by
  unfold worthsW
  rw [List.getElem?_map, List.getElem?_zip_eq_some (z := (nm, m)).2 ⟨h1, h2⟩]
  rfl
theorem worthsW_bd {c : CodeD} {it : ItemD} (hc : CodeOk c) (hk : KnownI c it) : ∀ x ∈ worthsW c it, 0 ≤ x ∧ x ≤ 2000 := by
  intro x hx
  unfold worthsW at hx
  obtain ⟨⟨nm, m⟩, hp, rfl⟩ := List.mem_map.1 hx
  obtain ⟨i, hi⟩ := List.getElem?_of_mem (List.of_mem_zip hp).1
  exact worthN_bd hc m (hk i nm hi)
def fullW (c : CodeD) (it : ItemD) : Int := if it.late = true then roundW ((worthsW c it).sum * (100 + c.bonus)) 100 else (worthsW c it).sum
theorem worths_sum {c : CodeD} {it : ItemD} (hc : CodeOk c) (hi : ItOk it) (hk : KnownI c it) : 0 ≤ (worthsW c it).sum ∧ (worthsW c it).sum ≤ 6000 := by
  have h1 := sum_nn (worthsW_bd hc hk)
  rw [worthsW_len hi] at h1
  have h2 := hi.2.2.1
  omega
theorem fullW_bd {c : CodeD} {it : ItemD} (hc : CodeOk c) (hi : ItOk it) (hk : KnownI c it) : -2000000 ≤ fullW c it ∧ fullW c it ≤ 2000000 := by
  have h1 := worths_sum hc hi hk
  have h2 := hc.2.2
  unfold fullW
  split
  · have h3 := mul_nn (a := (worthsW c it).sum) (b := 100 + c.bonus) (A := 6000) (B := 120) h1.1 h1.2 (by have := h2.2.2.2.2.2.1; omega) (by have := h2.2.2.2.2.2.2.1; omega)
    have h4 := roundW_bd (a := (worthsW c it).sum * (100 + c.bonus)) (b := 100) (A := 720000) (B := 100) (by omega) (by omega) (by omega) (by omega)
    omega
  · omega
/-- how often an item's first name was there before -/
def name0 (it : ItemD) : ByteArray := it.names.headD ByteArray.empty
def mark0 (it : ItemD) : Int := it.marks.headD 0
def repP (nm : ByteArray) (it : ItemD) : Bool := decide (name0 it = nm) && decide (mark0 it ≠ 3)
def repW (l : List ItemD) (k : Nat) : Nat := cn (repP (((l[k]?).map name0).getD ByteArray.empty)) (l.take k)
theorem name0_get {it : ItemD} (h : ItOk it) : it.names[0]? = some (name0 it) := by
  have h1 := h.2.1
  unfold name0
  cases hn : it.names with
  | nil => rw [hn] at h1; simp at h1
  | cons a b => rfl
theorem mark0_get {it : ItemD} (h : ItOk it) : it.marks[0]? = some (mark0 it) := by
  have h1 := h.2.1
  have h2 := h.2.2.2.1
  unfold mark0
  cases hn : it.marks with
  | nil => rw [hn] at h2; simp at h2; omega
  | cons a b => rfl
def itemW (c : CodeD) (l : List ItemD) (k : Nat) : Int := match l[k]? with
  | some it => if (repW l k : Int) < c.repeats then fullW c it else if (repW l k : Int) = c.repeats then (fullW c it * 7).tdiv 10 else 0
  | none => 0
theorem itemW_of {c : CodeD} {l : List ItemD} {k : Nat} {it : ItemD} (hx : l[k]? = some it) : itemW c l k = if (repW l k : Int) < c.repeats then fullW c it else if (repW l k : Int) = c.repeats then (fullW c it * 7).tdiv 10 else 0 := by unfold itemW; rw [hx]
theorem itemW_bd {c : CodeD} {l : List ItemD} (hc : CodeOk c) (hl : ItsOk l) (hk : KnownL c l) (k : Nat) : -14000000 ≤ itemW c l k ∧ itemW c l k ≤ 14000000 := by
  cases hx : l[k]? with
  | none => unfold itemW; rw [hx]; simp
  | some it =>
    rw [itemW_of hx]
    have h1 := fullW_bd hc (hl.at_ hx) (hk k it hx)
    have h2 := tdiv_bd (fullW c it * 7) 10 14000000 (by omega) (by omega)
    split
    · omega
    · split <;> omega
/-- the greatest worth of an item -/
def unitW (c : CodeD) (it : ItemD) : Int := maxW (worthsW c it)
/-- what is left of marks without the greatest and the least -/
def trimW (xs : List Int) : Int := if xs.length < 5 then xs.sum else xs.sum - maxW xs - minW xs
def cntW (xs : List Int) : Int := if xs.length < 5 then (xs.length : Int) else (xs.length : Int) - 2
theorem foldl_max_bd {A B : Int} : ∀ {l : List Int} {a : Int}, (A ≤ a ∧ a ≤ B) → (∀ x ∈ l, A ≤ x ∧ x ≤ B) → A ≤ l.foldl max a ∧ l.foldl max a ≤ B
  | [], _, h, _ => h
  | x :: l, a, h, hl => by
    have h1 := hl x (by simp)
    exact foldl_max_bd (l := l) (a := max a x) (by omega) fun y hy => hl y (List.mem_cons_of_mem _ hy)
theorem foldl_min_bd {A B : Int} : ∀ {l : List Int} {a : Int}, (A ≤ a ∧ a ≤ B) → (∀ x ∈ l, A ≤ x ∧ x ≤ B) → A ≤ l.foldl min a ∧ l.foldl min a ≤ B
  | [], _, h, _ => h
  | x :: l, a, h, hl => by
    have h1 := hl x (by simp)
    exact foldl_min_bd (l := l) (a := min a x) (by omega) fun y hy => hl y (List.mem_cons_of_mem _ hy)
theorem maxW_bd {A B : Int} {l : List Int} (h0 : 0 < l.length) (h : ∀ x ∈ l, A ≤ x ∧ x ≤ B) : A ≤ maxW l ∧ maxW l ≤ B := by
  cases l with
  | nil => simp at h0
  | cons a l => exact foldl_max_bd (h a (by simp)) fun y hy => h y (List.mem_cons_of_mem _ hy)
theorem minW_bd {A B : Int} {l : List Int} (h0 : 0 < l.length) (h : ∀ x ∈ l, A ≤ x ∧ x ≤ B) : A ≤ minW l ∧ minW l ≤ B := by
  cases l with
  | nil => simp at h0
  | cons a l => exact foldl_min_bd (h a (by simp)) fun y hy => h y (List.mem_cons_of_mem _ hy)
theorem unitW_bd {c : CodeD} {it : ItemD} (hc : CodeOk c) (hi : ItOk it) (hk : KnownI c it) : 0 ≤ unitW c it ∧ unitW c it ≤ 2000 :=
  maxW_bd (by rw [worthsW_len hi]; have := hi.2.1; omega) (worthsW_bd hc hk)
theorem trimW_bd {A : Int} {l : List Int} (hA : 0 ≤ A) (h0 : 0 < l.length) (h9 : l.length ≤ 9) (h : ∀ x ∈ l, -A ≤ x ∧ x ≤ A) : -(11 * A) ≤ trimW l ∧ trimW l ≤ 11 * A := by
  have h1 := sum_bd h
  have h2 := maxW_bd h0 h
  have h3 := minW_bd h0 h
  have h4 : A * (l.length : Int) ≤ A * 9 := Int.mul_le_mul_of_nonneg_left (by omega) hA
  unfold trimW
  split <;> omega
theorem cntW_bd {l : List Int} (h0 : 0 < l.length) (h9 : l.length ≤ 9) : 1 ≤ cntW l ∧ cntW l ≤ 9 := by
  unfold cntW
  split <;> omega
/-- grade points of an item; its score -/
def ptsW (c : CodeD) (l : List ItemD) (k : Nat) (g : List Int) : Int := match l[k]? with
  | some it => if itemW c l k = 0 then 0 else roundW (trimW g * unitW c it) (10 * cntW g)
  | none => 0
theorem ptsW_of {c : CodeD} {l : List ItemD} {k : Nat} {g : List Int} {it : ItemD} (hx : l[k]? = some it) : ptsW c l k g = if itemW c l k = 0 then 0 else roundW (trimW g * unitW c it) (10 * cntW g) := by unfold ptsW; rw [hx]
def GrOk (g : List Int) : Prop := 0 < g.length ∧ g.length ≤ 9 ∧ ∀ x ∈ g, -5 ≤ x ∧ x ≤ 5
theorem prod_bd {c : CodeD} {it : ItemD} (hc : CodeOk c) (hi : ItOk it) (hk : KnownI c it) {g : List Int} (hg : GrOk g) : -110000 ≤ trimW g * unitW c it ∧ trimW g * unitW c it ≤ 110000 := by
  have h1 := trimW_bd (A := 5) (by omega) hg.1 hg.2.1 hg.2.2
  have h2 := unitW_bd hc hi hk
  have h3 := mul_bd (a := trimW g) (b := unitW c it) (A := 55) (B := 2000) (by omega) (by omega) h2.1 h2.2
  omega
theorem ptsW_bd {c : CodeD} {l : List ItemD} (hc : CodeOk c) (hl : ItsOk l) (hk : KnownL c l) {k : Nat} {g : List Int} (hg : GrOk g) : -300000 ≤ ptsW c l k g ∧ ptsW c l k g ≤ 300000 := by
  cases hx : l[k]? with
  | none => unfold ptsW; rw [hx]; simp
  | some it =>
    rw [ptsW_of hx]
    have h1 := prod_bd hc (hl.at_ hx) (hk k it hx) hg
    have h2 := cntW_bd hg.1 hg.2.1
    have h3 := roundW_bd (b := 10 * cntW g) (B := 90) h1.1 h1.2 (by omega) (by omega)
    split <;> omega
def scoreI (c : CodeD) (l : List ItemD) (G : List (List Int)) (k : Nat) : Int := itemW c l k + ptsW c l k (G.getD k [])
def scoresW (c : CodeD) (l : List ItemD) (G : List (List Int)) : List Int := (List.range l.length).map (scoreI c l G)
end Go.Proofs.YtphakidbddamfaaGreat

/-
  Segment scores: their words, with bounds. No program is named here.
-/
namespace Go.Proofs.YtphakidbddamfaaGreat
open Go.RowKit

structure MarksD where
  grades : List (List Int)
  components : List (List Int)
structure SlipsD where
  falls : Int
  seconds : Int
  other : Int
structure PerfD where
  items : List ItemD
  marks : MarksD
  slips : SlipsD
@[reducible] def MarksD.cs (m : MarksD) : List PV := [.d (.lst 1 (m.grades.map (datL 1 datI))), .d (.lst 1 (m.components.map (datL 1 datI)))]
@[reducible] def SlipsD.cs (s : SlipsD) : List PV := [.d (.int .i64 s.falls), .d (.int .i64 s.seconds), .d (.int .i64 s.other)]
@[reducible] def PerfD.cs (p : PerfD) : List PV := [.d (.lst 3 (p.items.map ItemD.dat)), .d (.lst 1 (p.marks.grades.map (datL 1 datI))), .d (.lst 1 (p.marks.components.map (datL 1 datI))), .d (.int .i64 p.slips.falls), .d (.int .i64 p.slips.seconds), .d (.int .i64 p.slips.other)]
/-- they fit into memory -/
def LsFit (m : Nat) (l : List (List Int)) : Prop := l.length ≤ m ∧ ∀ g ∈ l, g.length ≤ m
def MkFit (m : Nat) (x : MarksD) : Prop := LsFit m x.grades ∧ LsFit m x.components
def PfFit (m : Nat) (p : PerfD) : Prop := (p.items.length ≤ m ∧ ∀ x ∈ p.items, ItFit m x) ∧ MkFit m p.marks
theorem LsFit.mono {m m' : Nat} (h : m ≤ m') {l : List (List Int)} (hl : LsFit m l) : LsFit m' l := ⟨Nat.le_trans hl.1 h, fun g hg => Nat.le_trans (hl.2 g hg) h⟩
theorem MkFit.mono {m m' : Nat} (h : m ≤ m') {x : MarksD} (hx : MkFit m x) : MkFit m' x := ⟨hx.1.mono h, hx.2.mono h⟩
theorem PfFit.mono {m m' : Nat} (h : m ≤ m') {p : PerfD} (hp : PfFit m p) : PfFit m' p := ⟨⟨Nat.le_trans hp.1.1 h, fun x hx => (hp.1.2 x hx).mono h⟩, hp.2.mono h⟩
/-- marks are valid -/
def judgesW (m : MarksD) : Nat := (m.components.headD []).length
def GrAt (n : Nat) (_ : Nat) (g : List Int) : Prop := g.length = n ∧ AllIn (-5) 5 g
def Q25 (_ : Nat) (x : Int) : Prop := x.tmod 25 = 0
def CpAt (n : Nat) (_ : Nat) (g : List Int) : Prop := g.length = n ∧ AllIn 0 1000 g ∧ All Q25 g
def MarksOk (m : MarksD) : Prop := m.components.length = 3 ∧ m.grades.length ≤ 14 ∧ 3 ≤ judgesW m ∧ judgesW m ≤ 9 ∧ All (GrAt (judgesW m)) m.grades ∧ All (CpAt (judgesW m)) m.components
def AreMk (m : MarksD) (n : Int) : Prop := MarksOk m ∧ (m.grades.length : Int) = n
theorem MarksOk.grade {m : MarksD} (h : MarksOk m) {k : Nat} {g : List Int} (hg : m.grades[k]? = some g) : GrOk g := by
  obtain ⟨_, _, h1, h2, h3, _⟩ := h
  obtain ⟨h4, h5⟩ := h3 k g hg
  refine ⟨by omega, by omega, fun x hx => ?_⟩
  obtain ⟨i, hi⟩ := List.getElem?_of_mem hx
  exact h5 i x hi
def CoOk (g : List Int) : Prop := 0 < g.length ∧ g.length ≤ 9 ∧ ∀ x ∈ g, -1000 ≤ x ∧ x ≤ 1000
theorem MarksOk.comp {m : MarksD} (h : MarksOk m) {k : Nat} {g : List Int} (hg : m.components[k]? = some g) : CoOk g := by
  obtain ⟨_, _, h1, h2, _, h3⟩ := h
  obtain ⟨h4, h5, _⟩ := h3 k g hg
  refine ⟨by omega, by omega, fun x hx => ?_⟩
  obtain ⟨i, hi⟩ := List.getElem?_of_mem hx
  have := h5 i x hi
  exact ⟨by have := this.1; omega, this.2⟩
/-- components -/
def compW (g : List Int) : Int := roundW (trimW g) (cntW g)
theorem compW_bd {g : List Int} (h : CoOk g) : -30000 ≤ compW g ∧ compW g ≤ 30000 := by
  have h1 := trimW_bd (A := 1000) (by omega) h.1 h.2.1 h.2.2
  have h2 := cntW_bd h.1 h.2.1
  have h3 := roundW_bd (a := trimW g) (b := cntW g) (A := 11000) (B := 9) (by omega) (by omega) (by omega) h2.2
  unfold compW
  omega
def capW (falls : Int) : Int := if falls = 0 then 1000 else if falls = 1 then 950 else 900
def cpsW (m : MarksD) (top : Int) : List Int := m.components.map fun g => min (compW g) top
def cpW (m : MarksD) (falls : Int) : Int := (cpsW m (capW falls)).sum
theorem capW_bd (falls : Int) : 900 ≤ capW falls ∧ capW falls ≤ 1000 := by
  unfold capW
  split
  · omega
  · split <;> omega
theorem cpsW_bd {m : MarksD} (h : MarksOk m) {top : Int} (h1 : 900 ≤ top) (h2 : top ≤ 1000) : ∀ x ∈ cpsW m top, -30000 ≤ x ∧ x ≤ 30000 := by
  intro x hx
  unfold cpsW at hx
  obtain ⟨g, hg, rfl⟩ := List.mem_map.1 hx
  obtain ⟨i, hi⟩ := List.getElem?_of_mem hg
  have := compW_bd (h.comp hi)
  omega
theorem cpW_bd {m : MarksD} (h : MarksOk m) (falls : Int) : -90000 ≤ cpW m falls ∧ cpW m falls ≤ 90000 := by
  have h1 := capW_bd falls
  have h2 := sum_bd (cpsW_bd h h1.1 h1.2)
  have h3 : (cpsW m (capW falls)).length = 3 := by unfold cpsW; rw [List.length_map, h.1]
  rw [h3] at h2
  unfold cpW
  omega
def FactOk (f : Int) : Prop := 10 ≤ f ∧ f ≤ 400
def factW (m : MarksD) (f falls : Int) : Int := roundW (cpW m falls * f) 100
theorem factP_bd {m : MarksD} (h : MarksOk m) {f : Int} (hf : FactOk f) (falls : Int) : -36000000 ≤ cpW m falls * f ∧ cpW m falls * f ≤ 36000000 := by
  have h1 := cpW_bd h falls
  have h2 := mul_bd (a := cpW m falls) (b := f) (A := 90000) (B := 400) (by omega) (by omega) (by have := hf.1; omega) hf.2
  omega
theorem factW_bd {m : MarksD} (h : MarksOk m) {f : Int} (hf : FactOk f) (falls : Int) : -73000000 ≤ factW m f falls ∧ factW m f falls ≤ 73000000 := by
  have h1 := factP_bd h hf falls
  have h2 := roundW_bd (b := 100) (B := 100) h1.1 h1.2 (by omega) (by omega)
  unfold factW
  omega
/-- deductions -/
def SlipsOk (s : SlipsD) : Prop := 0 ≤ s.falls ∧ s.falls ≤ 9 ∧ 0 ≤ s.seconds ∧ s.seconds ≤ 60 ∧ 0 ≤ s.other ∧ s.other ≤ 500
def fallW (fall falls : Int) : Int := fall * (falls + max (falls - 2) 0 + max (falls - 4) 0)
def timeW (s : Int) : Int := (s + 4).tdiv 5 * 100
def dedW (c : CodeD) (s : SlipsD) : Int := fallW c.fall s.falls + timeW s.seconds + s.other
theorem fallW_bd {fall falls : Int} (h1 : 0 ≤ fall) (h2 : fall ≤ 500) (h3 : 0 ≤ falls) (h4 : falls ≤ 9) : 0 ≤ fallW fall falls ∧ fallW fall falls ≤ 15000 := by
  have h := mul_nn (a := fall) (b := falls + max (falls - 2) 0 + max (falls - 4) 0) (A := 500) (B := 21) h1 h2 (by omega) (by omega)
  unfold fallW
  omega
theorem timeW_bd {s : Int} (h1 : 0 ≤ s) (h2 : s ≤ 60) : 0 ≤ timeW s ∧ timeW s ≤ 1200 := by
  unfold timeW
  rw [Int.tdiv_eq_ediv_of_nonneg (by omega)]
  omega
theorem dedW_bd {c : CodeD} (hc : CodeNums c) {s : SlipsD} (hs : SlipsOk s) : 0 ≤ dedW c s ∧ dedW c s ≤ 20000 := by
  obtain ⟨h1, h2, h3, h4, h5, h6⟩ := hs
  have h7 := hc.2.2.2.2.2.2.2.2.2
  have h8 := fallW_bd h7.1 h7.2 h1 h2
  have h9 := timeW_bd h3 h4
  unfold dedW
  omega
/-- the sum that the reference makes, fall by fall -/
def fallS (fall : Int) (n : Nat) : Int := ((List.range n).map fun k : Nat => fall * min 3 ((k : Int) / 2 + 1)).sum
theorem fallS_succ (fall : Int) (n : Nat) : fallS fall (n + 1) = fallS fall n + fall * min 3 ((n : Int) / 2 + 1) := by unfold fallS; rw [List.range_succ]; simp
theorem fallS_eq (fall : Int) : ∀ n : Nat, n ≤ 9 → fallS fall n = fallW fall (n : Int) := by
  intro n hn
  have h : ∀ n : Nat, fallS fall n = fall * ((List.range n).map fun k : Nat => min 3 ((k : Int) / 2 + 1)).sum := by
    intro n
    induction n with
    | zero => simp [fallS]
    | succ n ih => rw [fallS_succ, ih, List.range_succ]; simp [Int.mul_add]
  rw [h, fallW]
  congr 1
  match n, hn with
  | 0, _ | 1, _ | 2, _ | 3, _ | 4, _ | 5, _ | 6, _ | 7, _ | 8, _ | 9, _ => decide
/-- a performance, its score -/
def PerfOk (c : CodeD) (p : PerfD) : Prop := CodeOk c ∧ ItsOk p.items ∧ KnownL c p.items ∧ MarksOk p.marks ∧ p.marks.grades.length = p.items.length ∧ SlipsOk p.slips
def AskP (c : CodeD) (p : PerfD) (f : Int) : Prop := PerfOk c p ∧ FactOk f
def techW (c : CodeD) (p : PerfD) : Int := (scoresW c p.items p.marks.grades).sum
def segW (c : CodeD) (p : PerfD) (f : Int) : Int := max (techW c p + factW p.marks f p.slips.falls - dedW c p.slips) 0
theorem scoreI_bd {c : CodeD} {p : PerfD} (h : PerfOk c p) {k : Nat} (hk : k < p.items.length) : -15000000 ≤ scoreI c p.items p.marks.grades k ∧ scoreI c p.items p.marks.grades k ≤ 15000000 := by
  obtain ⟨hc, hi, hn, hm, hl, _⟩ := h
  have h1 := itemW_bd hc hi hn k
  have hg := List.getElem?_eq_getElem (show k < p.marks.grades.length by omega)
  have h2 := ptsW_bd hc hi hn (k := k) (hm.grade hg)
  unfold scoreI
  rw [List.getD_eq_getElem?_getD, hg, Option.getD_some]
  omega
theorem scoresW_len (c : CodeD) (l : List ItemD) (G : List (List Int)) : (scoresW c l G).length = l.length := by simp [scoresW]
theorem scoresW_bd {c : CodeD} {p : PerfD} (h : PerfOk c p) : ∀ x ∈ scoresW c p.items p.marks.grades, -15000000 ≤ x ∧ x ≤ 15000000 := by
  intro x hx
  unfold scoresW at hx
  obtain ⟨k, hk, rfl⟩ := List.mem_map.1 hx
  exact scoreI_bd h (by simpa using hk)
theorem techW_bd {c : CodeD} {p : PerfD} (h : PerfOk c p) : -210000000 ≤ techW c p ∧ techW c p ≤ 210000000 := by
  have h1 := sum_bd (scoresW_bd h)
  rw [scoresW_len] at h1
  have h2 := h.2.1.1
  unfold techW
  omega
end Go.Proofs.YtphakidbddamfaaGreat
