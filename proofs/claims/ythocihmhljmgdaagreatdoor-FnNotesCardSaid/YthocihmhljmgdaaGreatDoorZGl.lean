/-
  Words on texts: a text cut at each place of a byte, as the library cuts it and as a loop cuts it. No program is named here.
-/
import Derived.Lib.SplitLaws
import Derived.WalkKit
import Derived.Test.YthocihmhljmgdaaGreatDoorProg
import Derived.Lib.LaidTab
import Derived.Lib.ItoaNum
namespace Go.Proofs.YthocihmhljmgdaaGreatDoor

/-- a text cut at each place of a byte. -/
def splL (c : UInt8) : List UInt8 → List (List UInt8)
  | [] => [[]]
  | b :: l => if b = c then [] :: splL c l else match splL c l with
    | [] => [[b]]
    | p :: ps => (b :: p) :: ps
/-- a piece ahead of the first piece. -/
def onto (p : List UInt8) : List (List UInt8) → List (List UInt8)
  | [] => [p]
  | q :: qs => (p ++ q) :: qs
theorem splL_eq (c : UInt8) (l : List UInt8) : splL c (c :: l) = [] :: splL c l := by rw [splL, if_pos rfl]
theorem splL_ne {c b : UInt8} (h : b ≠ c) (l : List UInt8) : splL c (b :: l) = onto [b] (splL c l) := by
  rw [splL, if_neg h]
  cases splL c l <;> rfl
theorem splL_len (c : UInt8) : ∀ l : List UInt8, (splL c l).length = l.count c + 1
  | [] => rfl
  | b :: l => by
    have ih := splL_len c l
    by_cases h : b = c
    · subst h; rw [splL_eq, List.length_cons, ih, List.count_cons_self]
    · rw [splL_ne h, List.count_cons_of_ne (by simpa using h), ← ih]
      cases h' : splL c l with
      | nil => rw [h'] at ih; simp at ih
      | cons p ps => rfl
theorem onto_onto (p q : List UInt8) (x : List (List UInt8)) : onto p (onto q x) = onto (p ++ q) x := by
  cases x <;> simp [onto]
theorem onto_nil {x : List (List UInt8)} (h : x ≠ []) : onto [] x = x := by
  cases x with
  | nil => exact absurd rfl h
  | cons p ps => rfl
theorem splL_some (c : UInt8) (l : List UInt8) : splL c l ≠ [] := by
  intro h
  have := splL_len c l
  rw [h] at this
  simp at this
theorem splitK_one (c : UInt8) : ∀ l : List UInt8, Lib.splitK [c] 0 (Lib.count l [c]) l = splL c l
  | [] => by rw [Lib.count_one]; rfl
  | b :: l => by
    have ih := splitK_one c l
    by_cases h : b = c
    · subst h
      have hix : Lib.index (b :: l) [b] = ((0 : Nat) : Int) := by rw [Lib.index]; simp [List.isPrefixOf]
      rw [Lib.count_cons_eq, Nat.add_comm, Lib.splitK, hix, splL_eq]
      simpa using ih
    · have hp : ([c] : List UInt8).isPrefixOf (b :: l) = false := by simp [List.isPrefixOf, Ne.symm h]
      have hix : Lib.index (b :: l) [c] = if Lib.index l [c] == -1 then -1 else Lib.index l [c] + 1 := by rw [Lib.index, hp]; simp
      rw [Lib.count_cons_ne b c l h, splL_ne h, ← ih]
      by_cases hm : Lib.index l [c] = -1
      · rw [Lib.count_miss hm]; rfl
      · have hge := Lib.index_ge l [c]
        obtain ⟨j, hj⟩ : ∃ j : Nat, Lib.index l [c] = j := ⟨(Lib.index l [c]).toNat, by omega⟩
        rw [hj] at hix
        have hj1 : ¬ ((j : Int) == -1) = true := fun e => by have := beq_iff_eq.1 e; omega
        have hj2 : ¬ ((j : Int) + 1 == -1) = true := fun e => by have := beq_iff_eq.1 e; omega
        rw [if_neg hj1] at hix
        rw [Lib.count_hit (by simp) hj, Nat.add_comm, Lib.splitK, Lib.splitK, hix, hj, if_neg hj2, if_neg hj1]
        simp [onto]

/-- a text cut at each place of a byte, as texts. -/
def splB (c : UInt8) (s : ByteArray) : List ByteArray := (splL c s.data.toList).map fun l => ⟨l.toArray⟩
theorem splB_len (c : UInt8) (s : ByteArray) : (splB c s).length = s.data.toList.count c + 1 := by rw [splB, List.length_map, splL_len]
theorem splB_le (c : UInt8) (s : ByteArray) : (splB c s).length ≤ s.size + 1 := by
  rw [splB_len]
  have h := List.count_le_length (a := c) (l := s.data.toList)
  have := Lib.size_eq s
  omega
theorem splB_lib (c : UInt8) (s : ByteArray) : Lib.splitB ⟨#[c]⟩ 0 (Lib.countB s ⟨#[c]⟩) s = splB c s := by
  have h := Lib.splitB_data ⟨#[c]⟩ 0 (Lib.countB s ⟨#[c]⟩) s
  have e : Lib.countB s ⟨#[c]⟩ = Lib.count s.data.toList [c] := rfl
  rw [e] at h ⊢
  have h2 := h.trans (splitK_one c _)
  rw [splB, ← h2, List.map_map]
  conv => lhs; rw [← List.map_id (Lib.splitB _ _ _ _)]
  exact List.map_congr_left fun x _ => by simp
/-- the loop that cuts: where the piece under way begins, and the pieces that are done. -/
def spI (c : UInt8) (s : ByteArray) : Nat → Nat × List ByteArray
  | 0 => (0, [])
  | k + 1 => if s[k]? = some c then (k + 1, (spI c s k).2 ++ [s.extract (spI c s k).1 k]) else spI c s k
theorem spI_le (c : UInt8) (s : ByteArray) : ∀ k, (spI c s k).1 ≤ k ∧ (spI c s k).2.length ≤ k
  | 0 => ⟨Nat.le_refl _, Nat.le_refl _⟩
  | k + 1 => by
    have := spI_le c s k
    unfold spI
    split
    · simp; omega
    · omega
theorem spI_inv (c : UInt8) (s : ByteArray) : ∀ k, k ≤ s.size → (spI c s k).2.map (·.data.toList) ++ onto (s.extract (spI c s k).1 k).data.toList (splL c (s.data.toList.drop k)) = splL c s.data.toList
  | 0, _ => by
    simp only [spI, List.map_nil, List.nil_append, List.drop_zero]
    rw [Lib.extract_data]
    simp only [Nat.sub_self, List.take_zero]
    exact onto_nil (splL_some _ _)
  | k + 1, hk => by
    have ih := spI_inv c s k (by omega)
    have hle := (spI_le c s k).1
    have hsz : s.data.toList.length = s.size := (Lib.size_eq s).symm
    obtain ⟨b, hb⟩ : ∃ b, s.data.toList[k]? = some b := ⟨_, List.getElem?_eq_getElem (by omega)⟩
    have hbs : s[k]? = some b := by
      rw [← hb, getElem?_pos s k (by omega)]
      simp [ByteArray.getElem_eq_getElem_data]
    have hd : s.data.toList.drop k = b :: s.data.toList.drop (k + 1) := by
      have := List.drop_eq_getElem_cons (l := s.data.toList) (i := k) (by omega)
      rw [this]
      rw [List.getElem?_eq_getElem (by omega)] at hb
      simp only [Option.some.injEq] at hb
      rw [hb]
    rw [hd] at ih
    by_cases h : b = c
    · subst h
      have e : spI b s (k + 1) = (k + 1, (spI b s k).2 ++ [s.extract (spI b s k).1 k]) := by rw [spI, if_pos hbs]
      rw [e]
      rw [splL_eq] at ih
      rw [← ih]
      have : (s.extract (k + 1) (k + 1)).data.toList = [] := by rw [Lib.extract_data]; simp
      simp only [this]
      rw [onto_nil (splL_some _ _)]
      simp [onto]
    · have e : spI c s (k + 1) = spI c s k := by rw [spI, if_neg (by rw [hbs]; simpa using h)]
      rw [e, ← ih, splL_ne h, onto_onto]
      congr 2
      rw [Lib.extract_data, Lib.extract_data]
      have := List.take_add_one (l := s.data.toList.drop (spI c s k).1) (i := k - (spI c s k).1)
      rw [show k + 1 - (spI c s k).1 = k - (spI c s k).1 + 1 by omega, this, List.getElem?_drop, show (spI c s k).1 + (k - (spI c s k).1) = k by omega, hb]
      rfl
theorem spI_end (c : UInt8) (s : ByteArray) : (spI c s s.size).2 ++ [s.extract (spI c s s.size).1 s.size] = splB c s := by
  have h := spI_inv c s s.size (Nat.le_refl _)
  have hd : s.data.toList.drop s.size = [] := List.drop_eq_nil_of_le (by rw [← Lib.size_eq]; exact Nat.le_refl _)
  rw [hd] at h
  simp only [splL, onto, List.append_nil] at h
  rw [splB, ← h, List.map_append, List.map_map]
  congr 1
  conv => lhs; rw [← List.map_id (spI c s s.size).2]
  exact List.map_congr_left fun x _ => by simp
/-- where the piece under way begins; the pieces that are done -/
def spF (c : UInt8) (s : ByteArray) (k : Nat) : Nat := (spI c s k).1
def spO (c : UInt8) (s : ByteArray) (k : Nat) : List ByteArray := (spI c s k).2
theorem spF_zero (c : UInt8) (s : ByteArray) : spF c s 0 = 0 := rfl
theorem spO_zero (c : UInt8) (s : ByteArray) : spO c s 0 = [] := rfl
theorem spF_le (c : UInt8) (s : ByteArray) (k : Nat) : spF c s k ≤ k := (spI_le c s k).1
theorem spO_len (c : UInt8) (s : ByteArray) (k : Nat) : (spO c s k).length ≤ k := (spI_le c s k).2
theorem sp_yes {c : UInt8} {s : ByteArray} {k : Nat} (h : s[k]? = some c) : spF c s (k + 1) = k + 1 ∧ spO c s (k + 1) = spO c s k ++ [s.extract (spF c s k) k] := by
  unfold spF spO
  rw [spI, if_pos h]
  exact ⟨rfl, rfl⟩
theorem sp_no {c : UInt8} {s : ByteArray} {k : Nat} (h : s[k]? ≠ some c) : spF c s (k + 1) = spF c s k ∧ spO c s (k + 1) = spO c s k := by
  unfold spF spO
  rw [spI, if_neg h]
  exact ⟨rfl, rfl⟩
theorem sp_end (c : UInt8) (s : ByteArray) : spO c s s.size ++ [s.extract (spF c s s.size) s.size] = splB c s := spI_end c s

end Go.Proofs.YthocihmhljmgdaaGreatDoor

/-
  What a call may take for granted of the package's variables.
-/
namespace Go.Proofs.YthocihmhljmgdaaGreatDoor

def glG : Nat := 1
def glN : Nat := glG + 1
/-- the table of the powers of ten holds them -/
def glP (w : World) : Prop := Lib.TabIs Tryz.prog w "internal/strconv.uint64pow10" .u64 Lib.pow10Tab
theorem glP_glob : Tryz.prog.globalNamed "internal/strconv.uint64pow10" = some glG := by kernel_rfl
theorem glP_keep {w w' : World} (h : ∀ b, b < glN → w'.heap[b]? = w.heap[b]?) (hw : glP w) : glP w' := by
  unfold glP Lib.TabIs World.var? at *
  rw [glP_glob] at hw ⊢
  have e := h glG (Nat.lt_succ_self _)
  simp only [Option.bind_some, e] at hw ⊢
  exact hw
/-- not less drawn (where a function of the library is reached whose contract does not tell so, nothing) -/
def DrLe (_ _ : World) : Prop := True
theorem DrLe.of_le {w w' : World} (_ : w.drawn ≤ w'.drawn) : DrLe w w' := trivial
theorem DrLe.trans {a b c : World} (_ : DrLe a b) (_ : DrLe b c) : DrLe a c := trivial
theorem DrLe.refl (w : World) : DrLe w w := .of_le (Nat.le_refl _)
theorem DrLe.drew {a w : World} (h : DrLe a w) : DrLe a w.drew := h.trans (.of_le (Nat.le_succ _))
theorem DrLe.alloc {a w : World} (h : DrLe a w) (o : Obj) : DrLe a (w.alloc o) := h.trans (.of_le (Nat.le_refl _))
/-- the world holds what is taken for granted -/
def GL (w : World) : Prop := glN ≤ w.heap.size ∧ glP w
theorem GL.keep {w w' : World} (h : GL w) (hs : w.heap.size ≤ w'.heap.size) (hb : ∀ b, b < glN → w'.heap[b]? = w.heap[b]?) : GL w' := ⟨Nat.le_trans h.1 hs, glP_keep hb h.2⟩
theorem GL_tab {w : World} (h : Lib.TabIs Tryz.prog w "internal/strconv.uint64pow10" .u64 Lib.pow10Tab) : GL w := by
  refine ⟨?_, h⟩
  have h2 := h
  unfold Lib.TabIs World.var? at h2
  rw [glP_glob] at h2
  rcases Nat.lt_or_ge glG w.heap.size with h3 | h3
  · exact h3
  · simp [Array.getElem?_eq_none h3] at h2
end Go.Proofs.YthocihmhljmgdaaGreatDoor
