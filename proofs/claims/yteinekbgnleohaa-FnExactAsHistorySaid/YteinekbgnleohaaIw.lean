/-
  Items after inquiries: plain words. No program is named here.
-/
import Derived.Test.YteinekbgnleohaaIt
import Derived.Test.YteinekbgnleohaaIn
namespace Go.Proofs.Yteinekbgnleohaa
open Go.RowKit

def setMk (x : ItemD) (j : Nat) (m : Int) : ItemD := ⟨x.names, x.marks.set j m, x.late⟩
def stepI (l : List ItemD) (x : InquiryD) : List ItemD := if x.acc = true then (match l[x.item.toNat]? with
  | some it => l.set x.item.toNat (setMk it x.name.toNat x.mark)
  | none => l) else l
def itTo (l : List ItemD) (q : List InquiryD) (k : Nat) : List ItemD := (q.take k).foldl stepI l
theorem itTo_zero (l : List ItemD) (q : List InquiryD) : itTo l q 0 = l := rfl
theorem itTo_succ {l : List ItemD} {q : List InquiryD} {k : Nat} {x : InquiryD} (hx : q[k]? = some x) : itTo l q (k + 1) = stepI (itTo l q k) x := by unfold itTo; rw [take_snoc hx, List.foldl_append]; rfl
theorem stepI_len (l : List ItemD) (x : InquiryD) : (stepI l x).length = l.length := by
  unfold stepI
  split
  · split <;> simp
  · rfl
theorem itTo_len (l : List ItemD) (q : List InquiryD) : ∀ k, (itTo l q k).length = l.length := by
  intro k
  unfold itTo
  generalize q.take k = r
  induction r generalizing l with
  | nil => rfl
  | cons x r ih => rw [List.foldl_cons, ih, stepI_len]
/-- names and numbers of marks stay -/
def likeI (a b : ItemD) : Prop := a.names = b.names ∧ a.marks.length = b.marks.length ∧ a.late = b.late
theorem stepI_like {l : List ItemD} {x : InquiryD} {i : Nat} {a : ItemD} (ha : l[i]? = some a) : ∃ b, (stepI l x)[i]? = some b ∧ likeI b a := by
  unfold stepI
  split
  · split
    · rename_i it hit
      by_cases e : x.item.toNat = i
      · subst e
        have hlt := (List.getElem?_eq_some_iff.1 hit).1
        rw [hit] at ha
        cases ha
        exact ⟨setMk a x.name.toNat x.mark, by rw [List.getElem?_set, if_pos rfl, if_pos hlt], rfl, by simp [setMk], rfl⟩
      · exact ⟨a, by rw [List.getElem?_set, if_neg e]; exact ha, rfl, rfl, rfl⟩
    · exact ⟨a, ha, rfl, rfl, rfl⟩
  · exact ⟨a, ha, rfl, rfl, rfl⟩
theorem itTo_like {l : List ItemD} {q : List InquiryD} {i : Nat} {a : ItemD} (ha : l[i]? = some a) (k : Nat) : ∃ b, (itTo l q k)[i]? = some b ∧ likeI b a := by
  unfold itTo
  generalize q.take k = r
  induction r generalizing l a with
  | nil => exact ⟨a, ha, rfl, rfl, rfl⟩
  | cons x r ih =>
    obtain ⟨b, hb, h1, h2, h3⟩ := stepI_like (x := x) ha
    obtain ⟨c, hc, h4, h5, h6⟩ := ih hb
    exact ⟨c, hc, h4.trans h1, h5.trans h2, h6.trans h3⟩
/-- a name is there -/
def HasNm (l : List ItemD) (i j : Int) : Prop := 0 ≤ i ∧ 0 ≤ j ∧ ∃ x, l[i.toNat]? = some x ∧ j < (x.names.length : Int)
def prevT (q : List InquiryD) (k : Nat) : Int := if k = 0 then 0 else (q.getD (k - 1) ⟨0, 0, 0, 0, false⟩).tick
def mkAt (l : List ItemD) (i j : Nat) : Int := ((l[i]?.map ItemD.marks).getD []).getD j 0
def InqAt (l : List ItemD) (q : List InquiryD) (k : Nat) (x : InquiryD) : Prop := 0 ≤ x.tick ∧ x.tick ≤ 100000 ∧ prevT q k ≤ x.tick ∧ HasNm l x.item x.name ∧ 0 ≤ x.mark ∧ x.mark ≤ 3 ∧ mkAt (itTo l q k) x.item.toNat x.name.toNat ≠ x.mark
def InqsOk (l : List ItemD) (q : List InquiryD) : Prop := All (InqAt l q) q
/-- what is there of the item and of the mark that an inquiry names -/
theorem HasNm.there {l : List ItemD} {q : List InquiryD} (hv : ItsOk l) {i j : Int} (h : HasNm l i j) (k : Nat) : ∃ a b m, l[i.toNat]? = some a ∧ (itTo l q k)[i.toNat]? = some b ∧ b.names = a.names ∧ b.marks.length = a.marks.length ∧ j.toNat < a.names.length ∧ a.marks.length = a.names.length ∧ b.marks[j.toNat]? = some m ∧ mkAt (itTo l q k) i.toNat j.toNat = m := by
  obtain ⟨h1, h2, a, ha, h3⟩ := h
  obtain ⟨b, hb, h4, h5, h6⟩ := itTo_like (q := q) ha k
  have h7 := (hv.at_ ha).2.2.2.1
  have h8 : j.toNat < b.marks.length := by omega
  refine ⟨a, b, b.marks[j.toNat], ha, hb, h4, h5, by omega, h7, List.getElem?_eq_getElem h8, ?_⟩
  unfold mkAt
  rw [hb, Option.map_some, Option.getD_some, List.getD_eq_getElem?_getD, List.getElem?_eq_getElem h8]
  rfl
end Go.Proofs.Yteinekbgnleohaa
