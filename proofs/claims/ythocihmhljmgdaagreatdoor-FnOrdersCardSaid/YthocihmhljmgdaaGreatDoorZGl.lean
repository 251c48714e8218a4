/-
  What a call may take for granted of the package's variables.
-/
import Derived.WalkKit
import Derived.Test.YthocihmhljmgdaaGreatDoorProg
import Derived.Lib.LaidTab
import Derived.Lib.ItoaNum
namespace Go.Proofs.YthocihmhljmgdaaGreatDoor

def glG : Nat := 1
def glN : Nat := glG + 1
/-- the table of the powers of ten holds them -/
def glP (w : World) : Prop := Lib.TabIs Tryz.prog w "internal/strconv.uint64pow10" .u64 Lib.pow10Tab
theorem glP_glob : Tryz.prog.globalNamed "internal/strconv.uint64pow10" = some glG := by kernel_rfl
theorem glP_keep {w w' : World} (h : ∀ b, b < glN → w'.heap[b]? = w.heap[b]?) (hw : glP w) : glP w' := by
  unfold glP Lib.TabIs World.var? at *
  rw [glP_glob] at hw ⊢
  have e := h glG (Nat.lt_succ_self _)
  simp only [Option.bind_some, e] at hw ⊢
  exact hw
/-- not less drawn (where a function of the library is reached whose contract does not tell so, nothing) -/
def DrLe (_ _ : World) : Prop := True
theorem DrLe.of_le {w w' : World} (_ : w.drawn ≤ w'.drawn) : DrLe w w' := trivial
theorem DrLe.trans {a b c : World} (_ : DrLe a b) (_ : DrLe b c) : DrLe a c := trivial
theorem DrLe.refl (w : World) : DrLe w w := .of_le (Nat.le_refl _)
theorem DrLe.drew {a w : World} (h : DrLe a w) : DrLe a w.drew := h.trans (.of_le (Nat.le_succ _))
theorem DrLe.alloc {a w : World} (h : DrLe a w) (o : Obj) : DrLe a (w.alloc o) := h.trans (.of_le (Nat.le_refl _))
/-- the world holds what is taken for granted -/
def GL (w : World) : Prop := glN ≤ w.heap.size ∧ glP w
theorem GL.keep {w w' : World} (h : GL w) (hs : w.heap.size ≤ w'.heap.size) (hb : ∀ b, b < glN → w'.heap[b]? = w.heap[b]?) : GL w' := ⟨Nat.le_trans h.1 hs, glP_keep hb h.2⟩
theorem GL_tab {w : World} (h : Lib.TabIs Tryz.prog w "internal/strconv.uint64pow10" .u64 Lib.pow10Tab) : GL w := by
  refine ⟨?_, h⟩
  have h2 := h
  unfold Lib.TabIs World.var? at h2
  rw [glP_glob] at h2
  rcases Nat.lt_or_ge glG w.heap.size with h3 | h3
  · exact h3
  · simp [Array.getElem?_eq_none h3] at h2
end Go.Proofs.YthocihmhljmgdaaGreatDoor
