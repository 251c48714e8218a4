/-
  Items after inquiries: plain words. No program is named here.
-/
import Derived.Test.YtphakidbddamfaaGreatZAw
import Derived.Test.YtphakidbddamfaaGreatZIn
import Derived.Test.YtphakidbddamfaaGreatZGw
import Derived.Test.YtphakidbddamfaaGreatZMe
import Derived.Test.YtphakidbddamfaaGreatZG
namespace Go.Proofs.YtphakidbddamfaaGreat
open Go.RowKit

def setMk (x : ItemD) (j : Nat) (m : Int) : ItemD := ⟨x.names, x.marks.set j m, x.late⟩
def stepI (l : List ItemD) (x : InquiryD) : List ItemD := if x.acc = true then (match l[x.item.toNat]? with
  | some it => l.set x.item.toNat (setMk it x.name.toNat x.mark)
  | none => l) else l
def itTo (l : List ItemD) (q : List InquiryD) (k : Nat) : List ItemD := (q.take k).foldl stepI l
theorem itTo_zero (l : List ItemD) (q : List InquiryD) : itTo l q 0 = l := rfl
theorem stepI_len (l : List ItemD) (x : InquiryD) : (stepI l x).length = l.length := by
  unfold stepI
  split
  · split <;> simp
  · rfl
/-- names and numbers of marks stay -/
def likeI (a b : ItemD) : Prop := a.names = b.names ∧ a.marks.length = b.marks.length ∧ a.late = b.late
theorem stepI_like {l : List ItemD} {x : InquiryD} {i : Nat} {a : ItemD} (ha : l[i]? = some a) : ∃ b, (stepI l x)[i]? = some b ∧ likeI b a := by
  unfold stepI
  split
  · split
    · rename_i it hit
      by_cases e : x.item.toNat = i
      · subst e
        have hlt := (List.getElem?_eq_some_iff.1 hit).1
        rw [hit] at ha
        cases ha
        exact ⟨setMk a x.name.toNat x.mark, by rw [List.getElem?_set, if_pos rfl, if_pos hlt], rfl, by simp [setMk], rfl⟩
      · exact ⟨a, by rw [List.getElem?_set, if_neg e]; exact ha, rfl, rfl, rfl⟩
    · exact ⟨a, ha, rfl, rfl, rfl⟩
  · exact ⟨a, ha, rfl, rfl, rfl⟩
theorem itTo_like {l : List ItemD} {q : List InquiryD} {i : Nat} {a : ItemD} (ha : l[i]? = some a) (k : Nat) : ∃ b, (itTo l q k)[i]? = some b ∧ likeI b a := by
  unfold itTo
  generalize q.take k = r
  induction r generalizing l a with
  | nil => exact ⟨a, ha, rfl, rfl, rfl⟩
  | cons x r ih =>
    obtain ⟨b, hb, h1, h2, h3⟩ := stepI_like (x := x) ha
    obtain ⟨c, hc, h4, h5, h6⟩ := ih hb
    exact ⟨c, hc, h4.trans h1, h5.trans h2, h6.trans h3⟩
/-- a name is there -/
def HasNm (l : List ItemD) (i j : Int) : Prop := 0 ≤ i ∧ 0 ≤ j ∧ ∃ x, l[i.toNat]? = some x ∧ j < (x.names.length : Int)
def mkAt (l : List ItemD) (i j : Nat) : Int := ((l[i]?.map ItemD.marks).getD []).getD j 0
/-- what is there of the item and of the mark that an inquiry names -/
theorem HasNm.there {l : List ItemD} {q : List InquiryD} (hv : ItsOk l) {i j : Int} (h : HasNm l i j) (k : Nat) : ∃ a b m, l[i.toNat]? = some a ∧ (itTo l q k)[i.toNat]? = some b ∧ b.names = a.names ∧ b.marks.length = a.marks.length ∧ j.toNat < a.names.length ∧ a.marks.length = a.names.length ∧ b.marks[j.toNat]? = some m ∧ mkAt (itTo l q k) i.toNat j.toNat = m := by
  obtain ⟨h1, h2, a, ha, h3⟩ := h
  obtain ⟨b, hb, h4, h5, h6⟩ := itTo_like (q := q) ha k
  have h7 := (hv.at_ ha).2.2.2.1
  have h8 : j.toNat < b.marks.length := by omega
  refine ⟨a, b, b.marks[j.toNat], ha, hb, h4, h5, by omega, h7, List.getElem?_eq_getElem h8, ?_⟩
  unfold mkAt
  rw [hb, Option.map_some, Option.getD_some, List.getD_eq_getElem?_getD, List.getElem?_eq_getElem h8]
  rfl
end Go.Proofs.YtphakidbddamfaaGreat

/-
  Performances with other calls: they stay valid: plain words. No program is named here.
-/
namespace Go.Proofs.YtphakidbddamfaaGreat
open Go.RowKit

theorem setMk_ok {x : ItemD} (h : ItOk x) (j : Nat) {m : Int} (h1 : 0 ≤ m) (h2 : m ≤ 3) : ItOk (setMk x j m) := by
  obtain ⟨a1, a2, a3, a4, a5⟩ := h
  refine ⟨a1, a2, a3, by simp [setMk]; exact a4, fun i y hy => ?_⟩
  simp only [setMk, List.getElem?_set] at hy
  split at hy
  · split at hy
    · cases hy; exact ⟨h1, h2⟩
    · cases hy
  · exact a5 i y hy
theorem stepI_ok {l : List ItemD} {x : InquiryD} (h : ItsOk l) (h1 : 0 ≤ x.mark) (h2 : x.mark ≤ 3) : ItsOk (stepI l x) := by
  refine ⟨by rw [stepI_len]; exact h.1, fun i y hy => ?_⟩
  unfold stepI at hy
  split at hy
  · split at hy
    · rename_i it hit
      rw [List.getElem?_set] at hy
      split at hy
      · split at hy
        · cases hy; exact setMk_ok (h.at_ hit) _ h1 h2
        · cases hy
      · exact h.2 i y hy
    · exact h.2 i y hy
  · exact h.2 i y hy
def withI (p : PerfD) (l : List ItemD) : PerfD := ⟨l, p.marks, p.slips⟩
theorem ask_with {c : CodeD} {p : PerfD} {f : Int} (h : AskP c p f) {l : List ItemD} (hl : ItsOk l) (hn : l.length = p.items.length) (hk : ∀ (i : Nat) (a : ItemD), p.items[i]? = some a → ∃ b : ItemD, l[i]? = some b ∧ b.names = a.names) : AskP c (withI p l) f := by
  obtain ⟨⟨h1, h2, h3, h4, h5, h6⟩, h7⟩ := h
  refine ⟨⟨h1, hl, fun i x hx => ?_, h4, by simp only [withI]; omega, h6⟩, h7⟩
  have hi := (List.getElem?_eq_some_iff.1 hx).1
  have hi2 : i < p.items.length := by simp only [withI] at hi; omega
  have ha := List.getElem?_eq_getElem hi2
  obtain ⟨b, hb, hbn⟩ := hk i _ ha
  have e : x = b := by
    simp only [withI] at hx
    rw [hb] at hx
    cases hx
    rfl
  subst e
  have h8 : KnownI c p.items[i] := h3 i _ ha
  show KnownI c x
  unfold KnownI at h8 ⊢
  rw [hbn]
  exact h8
/-- one inquiry, as an accepted one -/
def oneI (i k m : Int) : InquiryD := ⟨0, i, k, m, true⟩
theorem ask_one {c : CodeD} {p : PerfD} {f : Int} (h : AskP c p f) {i k m : Int} (h1 : 0 ≤ m) (h2 : m ≤ 3) : AskP c (withI p (stepI p.items (oneI i k m))) f :=
  ask_with h (stepI_ok h.1.2.1 h1 h2) (stepI_len _ _) fun j a ha => by
    obtain ⟨b, hb, hl, _⟩ := stepI_like (x := oneI i k m) ha
    exact ⟨b, hb, hl⟩
end Go.Proofs.YtphakidbddamfaaGreat

/-
  All calls that an inquiry can ask for; the best one, those that win: plain words. No program is named here.
-/
namespace Go.Proofs.YtphakidbddamfaaGreat
open Go.RowKit

def c1 (i k : Nat) (now : Int) : Nat → List (List Int)
  | 0 => []
  | m + 1 => if (m : Int) = now then c1 i k now m else c1 i k now m ++ [[(i : Int), (k : Int), (m : Int)]]
def c2 (i : Nat) (ms : List Int) : Nat → List (List Int)
  | 0 => []
  | k + 1 => c2 i ms k ++ c1 i k (ms.getD k 0) 4
def msAt (l : List ItemD) (i : Nat) : List Int := ((l[i]?).map ItemD.marks).getD []
def c3 (l : List ItemD) : Nat → List (List Int)
  | 0 => []
  | i + 1 => c3 l i ++ c2 i (msAt l i) (msAt l i).length
def callsW (l : List ItemD) : List (List Int) := c3 l l.length
theorem msAt_of {l : List ItemD} {i : Nat} {x : ItemD} (h : l[i]? = some x) : msAt l i = x.marks := by unfold msAt; rw [h]; rfl
theorem c1_len (i k : Nat) (now : Int) : ∀ m, (c1 i k now m).length ≤ m
  | 0 => Nat.le_refl _
  | m + 1 => by
    have := c1_len i k now m
    simp only [c1]
    split
    · omega
    · simp only [List.length_append, List.length_cons, List.length_nil]; omega
theorem c2_len (i : Nat) (ms : List Int) : ∀ k, (c2 i ms k).length ≤ 4 * k
  | 0 => Nat.le_refl _
  | k + 1 => by
    have := c2_len i ms k
    have := c1_len i k (ms.getD k 0) 4
    simp only [c2, List.length_append]; omega
theorem marks_le {l : List ItemD} (h : ItsOk l) {i : Nat} {x : ItemD} (hx : l[i]? = some x) : x.marks.length ≤ 3 := by
  obtain ⟨_, h4, h5, h6, _⟩ := h.at_ hx
  omega
theorem c3_len {l : List ItemD} (h : ItsOk l) : ∀ i, (c3 l i).length ≤ 12 * i
  | 0 => Nat.le_refl _
  | i + 1 => by
    have h1 := c3_len h i
    have h2 := c2_len i (msAt l i) (msAt l i).length
    have h3 : (msAt l i).length ≤ 3 := by
      unfold msAt
      cases hx : l[i]? with
      | none => simp
      | some x => exact marks_le h hx
    simp only [c3, List.length_append]; omega
theorem callsW_len {l : List ItemD} (h : ItsOk l) : (callsW l).length ≤ 168 := by
  have h1 := c3_len h l.length
  have h2 := h.1
  unfold callsW; omega
/-- what is among them -/
def CallAt (l : List ItemD) (x : List Int) : Prop := ∃ (i k m : Nat) (it : ItemD), x = [(i : Int), (k : Int), (m : Int)] ∧ l[i]? = some it ∧ k < it.marks.length ∧ m < 4 ∧ (m : Int) ≠ it.marks.getD k 0
theorem c1_mem {i k : Nat} {now : Int} {x : List Int} : ∀ {m : Nat}, x ∈ c1 i k now m → ∃ j < m, x = [(i : Int), (k : Int), (j : Int)] ∧ (j : Int) ≠ now
  | 0, h => by cases h
  | m + 1, h => by
    simp only [c1] at h
    split at h
    · obtain ⟨j, h1, h2⟩ := c1_mem h; exact ⟨j, by omega, h2⟩
    · rename_i hne
      rcases List.mem_append.1 h with h | h
      · obtain ⟨j, h1, h2⟩ := c1_mem h; exact ⟨j, by omega, h2⟩
      · rw [List.mem_singleton] at h; exact ⟨m, by omega, h, hne⟩
theorem c2_mem {i : Nat} {ms : List Int} {x : List Int} : ∀ {k : Nat}, x ∈ c2 i ms k → ∃ j < k, ∃ m : Nat, m < 4 ∧ x = [(i : Int), (j : Int), (m : Int)] ∧ (m : Int) ≠ ms.getD j 0
  | 0, h => by cases h
  | k + 1, h => by
    simp only [c2] at h
    rcases List.mem_append.1 h with h | h
    · obtain ⟨j, h1, h2⟩ := c2_mem h; exact ⟨j, by omega, h2⟩
    · obtain ⟨m, h1, h2⟩ := c1_mem h; exact ⟨k, by omega, m, h1, h2⟩
theorem c3_mem {l : List ItemD} {x : List Int} : ∀ {i : Nat}, x ∈ c3 l i → CallAt l x
  | 0, h => by cases h
  | i + 1, h => by
    simp only [c3] at h
    rcases List.mem_append.1 h with h | h
    · exact c3_mem h
    · obtain ⟨j, h1, m, h2, h3, h4⟩ := c2_mem h
      cases hx : l[i]? with
      | none => unfold msAt at h1; rw [hx] at h1; simp at h1
      | some it =>
        rw [msAt_of hx] at h1 h4
        exact ⟨i, j, m, it, h3, hx, h1, h2, h4⟩
theorem callsW_mem {l : List ItemD} {x : List Int} (h : x ∈ callsW l) : CallAt l x := c3_mem h
theorem CallAt.nm {l : List ItemD} (hv : ItsOk l) {x : List Int} (h : CallAt l x) : ∃ i k m : Int, x = [i, k, m] ∧ HasNm l i k ∧ 0 ≤ m ∧ m ≤ 3 := by
  obtain ⟨i, k, m, it, h1, h2, h3, h4, _⟩ := h
  have h5 := (hv.at_ h2).2.2.2.1
  exact ⟨i, k, m, h1, ⟨by omega, by omega, it, by simpa using h2, by omega⟩, by omega, by omega⟩
/-- the score with one other call -/
def scW (c : CodeD) (p : PerfD) (f : Int) (x : List Int) : Int := segW c (withI p (stepI p.items (oneI (x.getD 0 0) (x.getD 1 0) (x.getD 2 0)))) f
def winP (c : CodeD) (a b : PerfD) (f : Int) (x : List Int) : Bool := decide (segW c b f < scW c a f x)
def winTo (c : CodeD) (a b : PerfD) (f : Int) (l : List (List Int)) (k : Nat) : List (List Int) := (l.take k).filter (winP c a b f)
theorem winTo_zero (c : CodeD) (a b : PerfD) (f : Int) (l : List (List Int)) : winTo c a b f l 0 = [] := rfl
theorem winTo_yes {c : CodeD} {a b : PerfD} {f : Int} {l : List (List Int)} {k : Nat} {x : List Int} (hx : l[k]? = some x) (h : segW c b f < scW c a f x) : winTo c a b f l (k + 1) = winTo c a b f l k ++ [x] := by
  have e : winP c a b f x = true := decide_eq_true h
  unfold winTo; rw [take_snoc hx, List.filter_append, List.filter_cons, e]; rfl
theorem winTo_no {c : CodeD} {a b : PerfD} {f : Int} {l : List (List Int)} {k : Nat} {x : List Int} (hx : l[k]? = some x) (h : ¬ segW c b f < scW c a f x) : winTo c a b f l (k + 1) = winTo c a b f l k := by
  have e : winP c a b f x = false := decide_eq_false h
  unfold winTo; rw [take_snoc hx, List.filter_append, List.filter_cons, e]; simp
theorem winTo_len (c : CodeD) (a b : PerfD) (f : Int) (l : List (List Int)) (k : Nat) : (winTo c a b f l k).length ≤ l.length := by
  unfold winTo
  have h1 := List.length_filter_le (winP c a b f) (l.take k)
  have h2 := List.length_take_le k l
  have h3 := List.length_take_le' k l
  omega
theorem winTo_mem {c : CodeD} {a b : PerfD} {f : Int} {l : List (List Int)} {k : Nat} {x : List Int} (h : x ∈ winTo c a b f l k) : x ∈ l ∧ segW c b f < scW c a f x := by
  unfold winTo at h
  obtain ⟨h1, h2⟩ := List.mem_filter.1 h
  exact ⟨List.mem_of_mem_take h1, of_decide_eq_true h2⟩
def winW (c : CodeD) (a b : PerfD) (f : Int) : List (List Int) := winTo c a b f (callsW a.items) (callsW a.items).length
end Go.Proofs.YtphakidbddamfaaGreat

/-
  The abstract machine: structs with a nil list of their own; a part that is dropped or appended to and put back. No program is named here.
-/
namespace Go.Proofs.YtphakidbddamfaaGreat
open Go.RowKit

/-- a zero cell: a nil list is a row of the call's own -/
def nilP (i : Nat) : D → PV
  | .lst _ [] => .row i 0
  | d => .d d
theorem zEq_lst {sz : Nat} {v : Value} (h : zEq (.lst sz []) v = true) : v = .slice none 0 0 := by
  unfold zEq at h
  split at h
  all_goals first | rfl | contradiction | simp_all
theorem zEq_nil {i : Nat} {d : D} {v : Value} (h : zEq d v = true) {m : Nat → Option Loc} {X : Nat → Prop} {w : World} (hm : m i = some .nil) : R m X w (nilP i d) v := by
  have hd : Rd w X d v := zEq_rd h w X
  unfold nilP
  split
  · rw [zEq_lst h]; exact .rowN _ hm
  · exact .d _ _ hd
theorem zB_nil {z : List D} {v : Value} (h : zB z v = true) : v.cells.size = z.length ∧ ∀ (j : Nat) (d : D) (u : Value), z[j]? = some d → v.cells[j]? = some u → zEq d u = true := by
  simp only [zB, Bool.and_eq_true, beq_iff_eq] at h
  refine ⟨h.1.symm, fun j d u hj hu => ?_⟩
  have hm : (d, u) ∈ z.zip v.cells.toList := List.mem_of_getElem? (i := j) (by rw [List.getElem?_zip_eq_some]; exact ⟨hj, by simpa using hu⟩)
  exact List.all_eq_true.1 h.2 _ hm
section rules
variable {P : Program} {o : Oper} {s : AS} {K : AS → Prop}
theorem pure_field {t : TypeId} {x : Operand} {f n : Nat} {fs : List (Nat × Nat)} {z : List D} {fo : Nat × Nat} {y : PV} (ho : o.op = .fieldAddr t x f) (ht : tiB P t (.st n fs z) = true) (hf : fs[f]? = some fo) (hx : ptrAdd fo.1 (s.get x) = some y) : PureAt P o s y := fun m X w a hq => by
    obtain ⟨b, off, h1, h2⟩ := ptrAdd_R hx (hq x)
    obtain ⟨⟨fields, h3, h4, h5⟩, _⟩ := tiB_st ht
    have hlt : f < fields.size := by rw [h4]; exact (List.getElem?_eq_some_iff.1 hf).1
    obtain ⟨h6, h7, i, h8, h9⟩ := h5 f fields[f] fo (by simp [hlt]) hf
    refine ⟨_, fun u => ?_, h2⟩
    have hne : ¬ fo.2 = 0 := by omega
    simp [execOp, ho, h1, Instr.fieldAt, run_underlying h3, hlt, Instr.sureAddr, fieldPlace, run_size h8, h9, hne, h6, Addr.add_lit]
end rules
section part
variable {X0 : Nat → Prop} {w0 : Base} {m : Mp} {s : AS} {a : Act} {w : World}
end part
section pv4
variable {P : Program}
end pv4
end Go.Proofs.YtphakidbddamfaaGreat

/-
  The abstract machine: a struct with two nil lists of its own. No program is named here.
-/
namespace Go.Proofs.YtphakidbddamfaaGreat
open Go.RowKit

/-- zero cells: the first nil list is one row of the call's own, the next is another -/
def nilL (i i' : Nat) : List D → List PV
  | [] => []
  | .lst _ [] :: r => .row i 0 :: r.map (nilP i')
  | d :: r => .d d :: nilL i i' r
theorem nilL_cons (i i' : Nat) (d : D) (r : List D) : (∃ sz, d = .lst sz [] ∧ nilL i i' (d :: r) = .row i 0 :: r.map (nilP i')) ∨ nilL i i' (d :: r) = .d d :: nilL i i' r := by
  rcases d with _ | _ | _ | ⟨sz, es⟩ | _
  · exact .inr rfl
  · exact .inr rfl
  · exact .inr rfl
  · cases es with
    | nil => exact .inl ⟨sz, rfl, rfl⟩
    | cons e es => exact .inr rfl
  · exact .inr rfl
theorem nilL_len (i i' : Nat) : ∀ z : List D, (nilL i i' z).length = z.length
  | [] => rfl
  | d :: r => by
    rcases nilL_cons i i' d r with ⟨sz, _, h⟩ | h
    · rw [h]; simp
    · rw [h, List.length_cons, nilL_len i i' r, List.length_cons]
theorem nilL_get {i i' : Nat} {m : Nat → Option Loc} {X : Nat → Prop} {w : World} (hm : m i = some .nil) (hm' : m i' = some .nil) : ∀ {z : List D} {j : Nat} {x : PV}, (nilL i i' z)[j]? = some x → ∃ d, z[j]? = some d ∧ ∀ u, zEq d u = true → R m X w x u
  | [], j, x, h => by simp [nilL] at h
  | d :: r, j, x, h => by
    rcases nilL_cons i i' d r with ⟨sz, rfl, e⟩ | e
    · rw [e] at h
      cases j with
      | zero => cases h; exact ⟨_, rfl, fun u hu => by rw [zEq_lst hu]; exact .rowN _ hm⟩
      | succ j =>
        rw [List.getElem?_cons_succ, List.getElem?_map] at h
        cases hj : r[j]? with
        | none => rw [hj] at h; cases h
        | some d => rw [hj] at h; cases h; exact ⟨d, by simpa using hj, fun u hu => zEq_nil hu hm'⟩
    · rw [e] at h
      cases j with
      | zero => cases h; exact ⟨_, rfl, fun u hu => .d _ _ (zEq_rd hu w X)⟩
      | succ j => obtain ⟨d', h1, h2⟩ := nilL_get hm hm' (z := r) (j := j) h; exact ⟨d', by simpa using h1, h2⟩
section rules
variable {P : Program} {o : Oper} {s : AS} {K : AS → Prop}
/-- a struct, field by field; its two nil lists are rows of the call's own -/
theorem po_build_nil2 {t : TypeId} {parts : Array (Nat × Operand)} {n : Nat} {fs : List (Nat × Nat)} {z : List D} {cs : List PV} (ty : TypeId) (sz : Nat) (ty' : TypeId) (sz' : Nat) (ho : o.op = .build t parts) (ht : tiB P t (.st n fs z) = true)
    (hf : fillPV (fs[·]?) (nilL s.nx (s.nx + 1) z) (parts.toList.map fun p => (p.1, s.get p.2)) = some cs) (hK : K (AS.put ⟨s.fr, (s.nx + 1, .row ty' sz' []) :: (s.nx, .row ty sz []) :: s.hp, s.nx + 2⟩ o.dst (.agg cs))) : PO P o s K :=
  PO.mk fun X0 w0 m a w hs => by
    have hg := (hs.ghost ty sz).ghost ty' sz'
    obtain ⟨⟨fields, h1, h2, h3⟩, i, v, h4, h5, h6, h7, h8⟩ := tiB_st ht
    obtain ⟨g1, g2⟩ := zB_nil h7
    have hm1 : (upd (upd m s.nx .nil) (s.nx + 1) .nil).loc s.nx = some .nil := by rw [upd_ne _ _ (by omega)]; exact upd_same _ _ _
    have hm2 : (upd (upd m s.nx .nil) (s.nx + 1) .nil).loc (s.nx + 1) = some .nil := upd_same _ _ _
    have hplace : fields.toList.mapM (fun f => (P.info? f.type).map fun i => (f.offset, i.size)) = some fs := by
      refine mapM_eq _ _ (by simpa using h2) fun j f p hf hp => ?_
      obtain ⟨q1, q2, i', q3, q4⟩ := h3 j f p (by simpa using hf) hp
      rw [q3]
      simp [q1, q4]
    obtain ⟨arr', r1, r2, r3, r4⟩ := fill_run (m := (upd (upd m s.nx .nil) (s.nx + 1) .nil).loc) (X := Owned X0 (upd (upd m s.nx .nil) (s.nx + 1) .nil) ((s.nx + 1, .row ty' sz' []) :: (s.nx, .row ty sz []) :: s.hp)) (w := w) (fs[·]?) _ (parts.toList.map fun p => (p.1, a.eval p.2)) _ _ v.cells hf (by simp) (fun j x u hx hu => by
      rw [List.getElem?_map] at hx hu
      cases hj : parts.toList[j]? with
      | none => rw [hj] at hx; cases hx
      | some p =>
        rw [hj] at hx hu
        cases hx
        cases hu
        have e : AS.get ⟨s.fr, (s.nx + 1, .row ty' sz' []) :: (s.nx, .row ty sz []) :: s.hp, s.nx + 1 + 1⟩ p.2 = s.get p.2 := by cases p.2 <;> rfl
        have h9 := hg.get p.2
        rw [e] at h9
        exact h9) (by rw [nilL_len]; exact g1) (fun j x u hx hu => by
      obtain ⟨d, hd, hR⟩ := nilL_get (X := Owned X0 (upd (upd m s.nx .nil) (s.nx + 1) .nil) ((s.nx + 1, .row ty' sz' []) :: (s.nx, .row ty sz []) :: s.hp)) (w := w) hm1 hm2 hx
      have h9 := g2 j d u hd hu
      exact ⟨hR u h9, .inr (zEq_rd h9 w (fun _ => False)).one⟩)
    refine ⟨.agg arr', w, _, _, .agg cs, ?_, hg, .agg _ _ r2 fun j x u hx hu => (r4 j x u hx hu).1, hK⟩
    have hbuilt : P.built t (parts.map fun p => (p.1, a.eval p.2)).toList = some arr' := by
      unfold Program.built
      simp only [h4, h1, h6, hplace]
      simpa using r1
    have hrun := run_build (P := P) w t (parts.map fun p => (p.1, a.eval p.2)) arr' hbuilt
    simp only [execOp, ho, Sem.run_bind]
    rw [hrun]
    rfl
/-- a row of scalars is a row that owns its parts -/
theorem pw_deepen {Q : Exit → AS → Prop} {c : Code} {s : AS} (id : Nat) {ty : TypeId} {sz : Nat} {es : List (List D)} (hg : hget s.hp id = some (.row ty sz es)) (hfl : flatE es) (h : PW P c Q ⟨s.fr, hset s.hp id (.deep 0 ty sz es), s.nx⟩) : PW P c Q s := by
  intro X0 w0 m a w hs
  obtain ⟨l, hl, hok⟩ := hs.hp id _ hg
  have hdp : DpOk w (fun _ => False) ty sz es (some l) := by
    cases l with
    | nil => exact ⟨hok, fun _ h => h⟩
    | blk b c =>
      obtain ⟨arr, hh, hc⟩ := hok
      exact ⟨fun h => h, arr, hh, hc.1, hc.2.1, hc.2.2.1, hc.2.2.2.1, fun _ _ _ => False, fun _ _ _ h => h, fun _ _ _ _ _ h => h.elim, fun k e j d v he hd hv => (hc.2.2.2.2 k e j d v he hd hv).tr (hfl e (List.mem_of_getElem? he) d (List.mem_of_getElem? hd))⟩
  refine h X0 w0 (upd m id l fun _ => False) a w ?_
  refine hs.changeD (i := id) (blk' := .deep 0 ty sz es) (F' := fun _ => False) (fun b => l.at b) (.inr hl) (by rw [hget_hset]; simp [hg]) (fun id' hne blk hb => by rw [hget_hset, if_neg hne] at hb; exact hb) rfl (fun id' par k j hne ha' => ?_) (Nat.le_refl _) (hs.lt_nx hl) (KeepB.refl _ _) (fun _ _ _ => rfl) (fun b ⟨c, hb⟩ => ⟨id, _, hg, ⟨c, by rw [hl, hb]⟩, .inl rfl⟩) (fun b hb => ?_) (fun p e => by cases e) (fun p ty' sz' es' e => ?_) fun _ => trivial
  · rw [hget_hset, if_neg hne] at ha'
    obtain ⟨q, ty', sz', es2, _, _, _, _, _, _, a1, _⟩ := hs.al id' par k j ha'
    have hpar : par ≠ id := fun e => by subst e; rw [hg] at a1; cases a1
    exact .inl ⟨hpar, by rw [hget_hset, if_neg hpar]⟩
  · rcases hb with ⟨c, hc⟩ | hf
    · rw [upd_same] at hc
      have hat : l.at b := ⟨c, Option.some.inj hc⟩
      have := hs.own id _ b hg ⟨c, by rw [hl]; exact hc⟩
      exact ⟨this.1, this.2, .inr hat⟩
    · rw [upd_ft] at hf
      exact hf.elim
  · cases e
    exact hdp
end rules
end Go.Proofs.YtphakidbddamfaaGreat

/-
  The abstract machine: in a region that draws its order a pure operation may be taken first.
-/
namespace Go.Proofs.YtphakidbddamfaaGreat
open Go.RowKit

/-- the walk stops here -/
def Stop (p : Prop) : Prop := p
theorem stop_seq {P : Program} {id : Nat} {l : Array Oper} {b : Bool} {y : Code} {Q : Exit → AS → Prop} {s : AS} (h : Stop (PW P (.seq (.region id l b) y) Q s)) : PW P (.seq (.region id l b) y) Q s := h
theorem stop_one {P : Program} {id : Nat} {l : Array Oper} {b : Bool} {Q : Exit → AS → Prop} {s : AS} (h : Stop (PW P (.region id l b) Q s)) : PW P (.region id l b) Q s := h

/-- a region in any order, where nothing panics: from s, with these operations done, it leads into K -/
def AnyN (P : Program) (ops : Array Oper) (K : AS → Prop) (fuel : Nat) (listed : Array Bool) (s : AS) : Prop :=
  ∀ (X0 : Nat → Prop) (w0 : Base) (m : Mp) (a : Act) (w : World) (Q' : Exit → Act → World → Prop), (∀ c a w, ¬ Q' (.panic c) a w) → (∀ m' s' a' w', K s' → Sim X0 w0 m' s' a' w' → Q' .normal a' w') → Sim X0 w0 m s a w → wpAny P .any ops Q' fuel listed a w
theorem anyN_done {P : Program} {ops : Array Oper} {K : AS → Prop} {fuel : Nat} {listed : Array Bool} {s : AS} (hR : Region.ready .any ops listed = []) (h : K s) : AnyN P ops K fuel listed s :=
  fun X0 w0 m a w Q' _ hQ hs => any_done hR h X0 w0 m a w Q' hQ hs
theorem anyN_take {P : Program} {ops : Array Oper} {K : AS → Prop} {fuel : Nat} {listed : Array Bool} {s : AS} (i : Nat) {o : Oper} {x : PV} {d : Tmp} (hi : ops[i]? = some o) (hg : o.guard = none) (hd : o.dst = some d) (hs : Region.noSelect ops = true) (hf : Region.free .any ops listed i = true) (hr : (Region.ready .any ops listed).contains i = true)
    (hp : PureAt P o s x) (h : AnyN P ops K fuel (listed.setIfInBounds i true) (s.put (some d) x)) : AnyN P ops K (fuel + 1) listed s := by
  rw [← hd] at h
  intro X0 w0 m a w Q' hN hQ hs'
  obtain ⟨v, h1, h2⟩ := hp m.loc _ w a hs'.get
  exact wpAny_take hi hs hf hr (fun c a w h => absurd h (hN c _ _)) (.inl ⟨by simp [Region.wanted, hg], h1⟩) (h X0 w0 m (a.put o.dst v) w Q' hN hQ (hs'.put h2 o.dst))
def AllN (P : Program) (G : List (Nat × TI)) (l : List Oper) (K : AS → Prop) (fuel : Nat) (listed : Array Bool) (s : AS) : List Nat → Prop
  | [] => True
  | i :: r => (∃ o, l[i]? = some o ∧ ∀ K' : AS → Prop, (∀ s', AnyN P l.toArray K fuel (listed.setIfInBounds i true) s' → K' s') → step1 false P G l.toArray o s K') ∧ AllN P G l K fuel listed s r
theorem anyN_step {P : Program} {G : List (Nat × TI)} (hG : GOK P G) (R : List Nat) {l : List Oper} {K : AS → Prop} {fuel : Nat} {listed : Array Bool} {s : AS} (hR : Region.ready .any l.toArray listed = R) (hne : R.isEmpty = false) (h : AllN P G l K fuel listed s R) : AnyN P l.toArray K (fuel + 1) listed s := by
  intro X0 w0 m a w Q' hN hQ hs
  refine ⟨fun h0 => (by rw [hR] at h0; subst h0; cases hne), fun i hi => ?_⟩
  rw [hR] at hi
  have key : ∀ R : List Nat, AllN P G l K fuel listed s R → ∀ i ∈ R, ∃ o, l[i]? = some o ∧ ∀ K' : AS → Prop, (∀ s', AnyN P l.toArray K fuel (listed.setIfInBounds i true) s' → K' s') → step1 false P G l.toArray o s K' := by
    intro R
    induction R with
    | nil => intro _ i hi; cases hi
    | cons j r ih =>
      rintro ⟨h1, h2⟩ i hi
      rcases List.mem_cons.1 hi with rfl | hi
      · exact h1
      · exact ih h2 i hi
  obtain ⟨o, ho, h1⟩ := key R h i hi
  have h2 : execL P G l.toArray [o] (AnyN P l.toArray K fuel (listed.setIfInBounds i true)) s := execL_step fun K' hK' => h1 K' fun s' hs' => hK' s' hs'
  exact any_op (by simpa using ho) (execL_sound hG _ _ _ h2) hs fun m' s' a' w' h3 h4 => h3 X0 w0 m' a' w' Q' hN hQ h4
theorem pw_anyN {P : Program} {Q : Exit → AS → Prop} {s : AS} {id : Nat} {l : List Oper} (hm : P.follows .mixedOrders = true) (h : AnyN P l.toArray (Q .normal) l.length (Array.replicate l.length false) s) : PW P (.region id l.toArray true) Q s := by
  intro X0 w0 m a w hs
  refine wp_mono (Q := fun e a' w' => (∀ c, e ≠ .panic c) ∧ ∃ m' s', Q e s' ∧ Sim X0 w0 m' s' a' w') ?_ fun _ _ _ h => h.2
  refine wp_region_any hm ?_
  have := h X0 w0 m a w.drew (fun e a' w' => (∀ c, e ≠ .panic c) ∧ ∃ m' s', Q e s' ∧ Sim X0 w0 m' s' a' w') (fun c a w h => h.1 c rfl) (fun m' s' a' w' h1 h2 => ⟨(fun c e => by cases e), m', s', h1, h2⟩) hs.drew
  simpa using this
theorem pw_seq_anyN {P : Program} (T : List (Nat × List Nat)) {Q : Exit → AS → Prop} {s : AS} {id : Nat} {l : List Oper} {y : Code} (hm : P.follows .mixedOrders = true)
    (h : AnyN P l.toArray (fun s' => PW P y Q (forget T id s')) l.length (Array.replicate l.length false) s) : PW P (.seq (.region id l.toArray true) y) Q s :=
  pw_seq_k fun _ hK => pw_anyN hm fun X0 w0 m a w Q' hN hQ hs => h X0 w0 m a w Q' hN (fun m' s' a' w' h3 h4 => hQ m' s' a' w' (hK s' (pw_forget T id h3)) h4) hs
section
variable {P : Program} {o : Oper} {s : AS}
theorem pure_move {x : Operand} (ho : o.op = .move x ∨ o.op = .assign x) : PureAt P o s (s.get x) := fun m X w a hq => ⟨a.eval x, fun u => by rcases ho with h | h <;> simp [execOp, h], hq x⟩
theorem pure_slice {t : TypeId} {x : Operand} {lo hi : Option Operand} {e : TypeId} {sz bytes n : Nat} {z : List D} {l h : Int} {y : PV} (ho : o.op = .slice t x lo hi none) (ht : tiB P t (.slc e sz bytes z) = true) (hn : lenP (s.get x) = some n)
    (hlo : bnd s 0 lo = some l) (hhi : bnd s n hi = some h) (h0 : 0 ≤ l) (h1 : l ≤ h) (h2 : h ≤ n) (hx : slP sz l.toNat h.toNat (s.get x) = some y) : PureAt P o s y := fun m X w a hq => by
    obtain ⟨A, c, h3, h4, h5⟩ := slP_R hx hn (by omega) (by omega) (hq x)
    obtain ⟨g1, ⟨inf, v, g2, g3, _⟩, _⟩ := tiB_slc ht
    refine ⟨_, fun u => ?_, h5⟩
    have key : (Instr.sliceBounds true n c (lo.map a.eval) (hi.map a.eval) none).run P u = .ok (l.toNat, h.toNat, c) u := by
      cases hi with
      | none =>
        cases hhi
        cases lo with
        | none => cases hlo; simp [Instr.sliceBounds]
        | some q =>
          obtain ⟨k, hk⟩ := bnd_run hq hlo
          simp [Instr.sliceBounds, hk, bound_run h0 h1]
      | some q' =>
        obtain ⟨k', hk'⟩ := bnd_run hq hhi
        have hb1 : (h : Int) ≤ (c : Int) := by omega
        have e1 : ((h.toNat : Nat) : Int) = h := Int.toNat_of_nonneg (by omega)
        cases lo with
        | none => cases hlo; simp [Instr.sliceBounds, hk', bound_run (show (0 : Int) ≤ h by omega) hb1]
        | some q =>
          obtain ⟨k, hk⟩ := bnd_run hq hlo
          simp [Instr.sliceBounds, hk, hk', bound_run (show (0 : Int) ≤ h by omega) hb1, bound_run (y := h.toNat) h0 (by omega)]
    simp [execOp, ho, h3, Instr.sliceAt, Instr.slice, run_underlying g1, key, run_size g2, g3]
end
end Go.Proofs.YtphakidbddamfaaGreat
