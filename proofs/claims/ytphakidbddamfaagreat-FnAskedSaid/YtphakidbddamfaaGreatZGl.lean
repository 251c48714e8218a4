/-
  What a call may take for granted of the package's variables.
-/
import Derived.WalkKit
namespace Go.Proofs.YtphakidbddamfaaGreat
def rL:Nat:=0
def wZ (_:World):Prop:=True
theorem vf {w w':World} (_:∀ b,b < rL→w'.heap[b]? = w.heap[b]?) (_:wZ w):wZ w':=trivial
def DrLe (w w':World):Prop:=w.drawn≤w'.drawn
theorem DrLe.of_le {w w':World} (h:w.drawn≤w'.drawn):DrLe w w':=h
theorem DrLe.trans {a b c:World} (h:DrLe a b) (k:DrLe b c):DrLe a c:=Nat.le_trans h k
theorem DrLe.refl (w:World):DrLe w w:=.of_le (Nat.le_refl _)
theorem DrLe.drew {a w:World} (h:DrLe a w):DrLe a w.drew:=h.trans (.of_le (Nat.le_succ _))
theorem DrLe.alloc {a w:World} (h:DrLe a w) (o:Obj):DrLe a (w.alloc o):=h.trans (.of_le (Nat.le_refl _))
def GL (w:World):Prop:=rL≤w.heap.size∧wZ w
theorem GL.keep {w w':World} (h:GL w) (hs:w.heap.size≤w'.heap.size) (hb:∀ b,b < rL→w'.heap[b]? = w.heap[b]?):GL w':=⟨Nat.le_trans h.1 hs,vf hb h.2⟩
theorem xe (w:World):GL w:=⟨Nat.zero_le _,trivial⟩
end Go.Proofs.YtphakidbddamfaaGreat
