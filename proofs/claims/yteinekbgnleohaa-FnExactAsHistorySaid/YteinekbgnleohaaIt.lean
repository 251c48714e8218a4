/-
  Items: their words; when they are valid. No program is named here.
-/
import Derived.Test.YteinekbgnleohaaDp
import Derived.Test.YteinekbgnleohaaWi
namespace Go.Proofs.Yteinekbgnleohaa
open Go.RowKit

structure ItemD where
  names : List ByteArray
  marks : List Int
  late : Bool
def ItemD.dat (x : ItemD) : List D := [.lst 1 (x.names.map datS), .lst 1 (x.marks.map datI), .bool x.late]
theorem ItemD.ext3 {x y : ItemD} (h1 : x.names = y.names) (h2 : x.marks = y.marks) (h3 : x.late = y.late) : x = y := by cases x; cases y; cases h1; cases h2; cases h3; rfl
def chB (u : UInt8) : Bool := (decide (65 ≤ (u.toNat : Int)) && decide ((u.toNat : Int) ≤ 90)) || (decide (48 ≤ (u.toNat : Int)) && decide ((u.toNat : Int) ≤ 57))
def ChAt (_ : Nat) (u : UInt8) : Prop := chB u = true
def NameOk (s : ByteArray) : Prop := (1 ≤ s.size ∧ s.size ≤ 5) ∧ ∀ (i : Nat) (u : UInt8), s[i]? = some u → chB u = true
def MkOk (_ : Nat) (m : Int) : Prop := 0 ≤ m ∧ m ≤ 3
def ItOk (x : ItemD) : Prop := All (fun _ s => NameOk s) x.names ∧ 1 ≤ x.names.length ∧ x.names.length ≤ 3 ∧ x.marks.length = x.names.length ∧ All MkOk x.marks
def ItsOk (l : List ItemD) : Prop := l.length ≤ 14 ∧ All (fun _ x => ItOk x) l
theorem ItsOk.at_ {l : List ItemD} (h : ItsOk l) {k : Nat} {x : ItemD} (hx : l[k]? = some x) : ItOk x := h.2 k x hx
/-- how much memory: strings, items -/
def cntS (l : List ByteArray) : Nat := (l.map ByteArray.size).sum
theorem cntS_succ {l : List ByteArray} {k : Nat} {x : ByteArray} (hx : l[k]? = some x) : cntS (l.take (k + 1)) = cntS (l.take k) + x.size := by unfold cntS; rw [take_snoc hx]; simp
theorem cntS_take (l : List ByteArray) (k : Nat) : cntS (l.take k) ≤ cntS l := by
  have : l = l.take k ++ l.drop k := (List.take_append_drop k l).symm
  unfold cntS
  conv => rhs; rw [this]
  rw [List.map_append, List.sum_append]
  omega
def cntI1 (x : ItemD) : Nat := x.names.length + cntS x.names + x.marks.length
def cntI (l : List ItemD) : Nat := (l.map cntI1).sum
theorem cntI_succ {l : List ItemD} {k : Nat} {x : ItemD} (hx : l[k]? = some x) : cntI (l.take (k + 1)) = cntI (l.take k) + cntI1 x := by unfold cntI; rw [take_snoc hx]; simp
theorem cntI_take (l : List ItemD) (k : Nat) : cntI (l.take k) ≤ cntI l := by
  have : l = l.take k ++ l.drop k := (List.take_append_drop k l).symm
  unfold cntI
  conv => rhs; rw [this]
  rw [List.map_append, List.sum_append]
  omega
theorem le_sum_nat {l : List Nat} {a : Nat} (h : a ∈ l) : a ≤ l.sum := by
  induction l with
  | nil => cases h
  | cons b l ih => rw [List.sum_cons]; rcases List.mem_cons.1 h with rfl | h; · omega
                   · have := ih h; omega
theorem cntI_mem {l : List ItemD} {x : ItemD} (h : x ∈ l) : cntI1 x ≤ cntI l := by
  unfold cntI
  exact le_sum_nat (List.mem_map.2 ⟨x, h, rfl⟩)
theorem cntS_mem {l : List ByteArray} {x : ByteArray} (h : x ∈ l) : x.size ≤ cntS l := by
  unfold cntS
  exact le_sum_nat (List.mem_map.2 ⟨x, h, rfl⟩)
/-- an item's parts fit into memory -/
def ItFit (m : Nat) (x : ItemD) : Prop := x.names.length ≤ m ∧ (∀ s ∈ x.names, s.size ≤ m) ∧ x.marks.length ≤ m
theorem ItFit.mono {m m' : Nat} (h : m ≤ m') {x : ItemD} (hx : ItFit m x) : ItFit m' x := ⟨Nat.le_trans hx.1 h, fun s hs => Nat.le_trans (hx.2.1 s hs) h, Nat.le_trans hx.2.2 h⟩
theorem itFit_of {m : Nat} {x : ItemD} (h : cntI1 x ≤ m) : ItFit m x := by
  unfold cntI1 at h
  exact ⟨by omega, fun s hs => by have := cntS_mem hs; omega, by omega⟩
end Go.Proofs.Yteinekbgnleohaa
