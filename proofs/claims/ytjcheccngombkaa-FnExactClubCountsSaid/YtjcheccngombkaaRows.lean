/-
  No cell of these rows narrows 'for every input' (looked for: loops, veiled, ifaces, maps, wideKeys, modest, calm, conditions, laid).
  DERIVED. THE GIVEN ROWS OF THIS SEAT. 10 by the template 'for every input the law returns true; each argument reads behind the call as it read before'; 0 by the template 'total and deterministic' (their statements: YtjcheccngombkaaTotals.lean).
  GIVEN WITH THE SEED: the statements are not yours to turn. If you find one false, say at which input.
  Laid BY PROGRAM, IN A SANDBOX (cutbox-rows.mjs): the forced cells as the released guide's own fill.sh prints them over the translation 6c47348876cd2c3a… (all of the seat's roots in one cut). By AI agents, Wed Nov 11 2026. No macro, syntax, notation, axiom, sorry.
-/
import Derived.Test.YtjcheccngombkaaChecked
import GoSem.Claim
import GoSem.ClaimJoined
import GoSem.ClaimMapViews
import Derived.JoinedTies
import Derived.KernelRfl
namespace Go.Proofs.Ytjcheccngombkaa
/- THE CELL 'sum', in the pinned program and in every row, IS THE sha256 OF THE DUMP (.gsa) THAT YtjcheccngombkaaProg.lean LOADS. Nothing in Lean hashes anything: it is a label: what it is worth is what the hold of that sum in a sandbox is worth. -/
noncomputable def Try.pinned : Pinned := { name := "ytjcheccngombkaa", sum := "6c47348876cd2c3af522e6fe9e0327f484c1112e95fad583c8fd5af8d0ad76f5", checked := Try.checked }
namespace Rows
def none {H : Type} : Left H := { results := [], args := [] }

/-- 'laws.FnExactFeesLost': WHATEVER THE INPUT: true; the input reads as it did. -/
def fnExactFeesLostSpec : ChangeSpec := { name := "fnExactFeesLost", fn := fun _ => fun
  | [d1, d2] => { results := [.lit (.bool true)], args := [d1, d2] }
  | _ => none }
def fnExactFeesLostRow : OpenClaim := { program := "ytjcheccngombkaa", sum := "6c47348876cd2c3af522e6fe9e0327f484c1112e95fad583c8fd5af8d0ad76f5", func := "loop.example/g00912/laws.FnExactFeesLost", spec := "fnExactFeesLost", apart := false }
def FnExactFeesLostSaid : Prop := fnExactFeesLostRow.holds Try.pinned (OpenSpec.ofChange fnExactFeesLostSpec)

/-- ITS FALSE NEIGHBOUR: 'it returns false'. Refute it at one input. -/
def fnExactFeesLostWrong : ChangeSpec := { name := "fnExactFeesLost", fn := fun _ => fun
  | [d1, d2] => { results := [.lit (.bool false)], args := [d1, d2] }
  | _ => none }
def FnExactFeesLostWrongFalsely : Prop := fnExactFeesLostRow.holds Try.pinned (OpenSpec.ofChange fnExactFeesLostWrong)

/-- 'laws.FnExactTooLate': WHATEVER THE INPUT: true; the input reads as it did. -/
def fnExactTooLateSpec : ChangeSpec := { name := "fnExactTooLate", fn := fun _ => fun
  | [d1, d2, d3] => { results := [.lit (.bool true)], args := [d1, d2, d3] }
  | _ => none }
def fnExactTooLateRow : OpenClaim := { program := "ytjcheccngombkaa", sum := "6c47348876cd2c3af522e6fe9e0327f484c1112e95fad583c8fd5af8d0ad76f5", func := "loop.example/g00912/laws.FnExactTooLate", spec := "fnExactTooLate", unfollowed := true, recurses := true, apart := false }
def FnExactTooLateSaid : Prop := fnExactTooLateRow.holds Try.pinned (OpenSpec.ofChange fnExactTooLateSpec)

/-- ITS FALSE NEIGHBOUR: 'it returns false'. Refute it at one input. -/
def fnExactTooLateWrong : ChangeSpec := { name := "fnExactTooLate", fn := fun _ => fun
  | [d1, d2, d3] => { results := [.lit (.bool false)], args := [d1, d2, d3] }
  | _ => none }
def FnExactTooLateWrongFalsely : Prop := fnExactTooLateRow.holds Try.pinned (OpenSpec.ofChange fnExactTooLateWrong)

/-- 'laws.FnExactSubstitutesFor': WHATEVER THE INPUT: true; the input reads as it did. -/
def fnExactSubstitutesForSpec : ChangeSpec := { name := "fnExactSubstitutesFor", fn := fun _ => fun
  | [d1, d2, d3] => { results := [.lit (.bool true)], args := [d1, d2, d3] }
  | _ => none }
def fnExactSubstitutesForRow : OpenClaim := { program := "ytjcheccngombkaa", sum := "6c47348876cd2c3af522e6fe9e0327f484c1112e95fad583c8fd5af8d0ad76f5", func := "loop.example/g00912/laws.FnExactSubstitutesFor", spec := "fnExactSubstitutesFor", apart := false }
def FnExactSubstitutesForSaid : Prop := fnExactSubstitutesForRow.holds Try.pinned (OpenSpec.ofChange fnExactSubstitutesForSpec)

/-- ITS FALSE NEIGHBOUR: 'it returns false'. Refute it at one input. -/
def fnExactSubstitutesForWrong : ChangeSpec := { name := "fnExactSubstitutesFor", fn := fun _ => fun
  | [d1, d2, d3] => { results := [.lit (.bool false)], args := [d1, d2, d3] }
  | _ => none }
def FnExactSubstitutesForWrongFalsely : Prop := fnExactSubstitutesForRow.holds Try.pinned (OpenSpec.ofChange fnExactSubstitutesForWrong)

/-- 'laws.FnExactAreNotes': WHATEVER THE INPUT: true; the input reads as it did. -/
def fnExactAreNotesSpec : ChangeSpec := { name := "fnExactAreNotes", fn := fun _ => fun
  | [d] => { results := [.lit (.bool true)], args := [d] }
  | _ => none }
def fnExactAreNotesRow : OpenClaim := { program := "ytjcheccngombkaa", sum := "6c47348876cd2c3af522e6fe9e0327f484c1112e95fad583c8fd5af8d0ad76f5", func := "loop.example/g00912/laws.FnExactAreNotes", spec := "fnExactAreNotes", unfollowed := true, recurses := true, apart := false }
def FnExactAreNotesSaid : Prop := fnExactAreNotesRow.holds Try.pinned (OpenSpec.ofChange fnExactAreNotesSpec)

/-- ITS FALSE NEIGHBOUR: 'it returns false'. Refute it at one input. -/
def fnExactAreNotesWrong : ChangeSpec := { name := "fnExactAreNotes", fn := fun _ => fun
  | [d] => { results := [.lit (.bool false)], args := [d] }
  | _ => none }
def FnExactAreNotesWrongFalsely : Prop := fnExactAreNotesRow.holds Try.pinned (OpenSpec.ofChange fnExactAreNotesWrong)

/-- 'laws.FnExactUndoNote': WHATEVER THE INPUT: true; the input reads as it did. -/
def fnExactUndoNoteSpec : ChangeSpec := { name := "fnExactUndoNote", fn := fun _ => fun
  | [d1, d2] => { results := [.lit (.bool true)], args := [d1, d2] }
  | _ => none }
def fnExactUndoNoteRow : OpenClaim := { program := "ytjcheccngombkaa", sum := "6c47348876cd2c3af522e6fe9e0327f484c1112e95fad583c8fd5af8d0ad76f5", func := "loop.example/g00912/laws.FnExactUndoNote", spec := "fnExactUndoNote", unfollowed := true, recurses := true, apart := false }
def FnExactUndoNoteSaid : Prop := fnExactUndoNoteRow.holds Try.pinned (OpenSpec.ofChange fnExactUndoNoteSpec)

/-- ITS FALSE NEIGHBOUR: 'it returns false'. Refute it at one input. -/
def fnExactUndoNoteWrong : ChangeSpec := { name := "fnExactUndoNote", fn := fun _ => fun
  | [d1, d2] => { results := [.lit (.bool false)], args := [d1, d2] }
  | _ => none }
def FnExactUndoNoteWrongFalsely : Prop := fnExactUndoNoteRow.holds Try.pinned (OpenSpec.ofChange fnExactUndoNoteWrong)

/-- 'laws.FnExactFieldChanges': WHATEVER THE INPUT: true; the input reads as it did. -/
def fnExactFieldChangesSpec : ChangeSpec := { name := "fnExactFieldChanges", fn := fun _ => fun
  | [d1, d2] => { results := [.lit (.bool true)], args := [d1, d2] }
  | _ => none }
def fnExactFieldChangesRow : OpenClaim := { program := "ytjcheccngombkaa", sum := "6c47348876cd2c3af522e6fe9e0327f484c1112e95fad583c8fd5af8d0ad76f5", func := "loop.example/g00912/laws.FnExactFieldChanges", spec := "fnExactFieldChanges", apart := false }
def FnExactFieldChangesSaid : Prop := fnExactFieldChangesRow.holds Try.pinned (OpenSpec.ofChange fnExactFieldChangesSpec)

/-- ITS FALSE NEIGHBOUR: 'it returns false'. Refute it at one input. -/
def fnExactFieldChangesWrong : ChangeSpec := { name := "fnExactFieldChanges", fn := fun _ => fun
  | [d1, d2] => { results := [.lit (.bool false)], args := [d1, d2] }
  | _ => none }
def FnExactFieldChangesWrongFalsely : Prop := fnExactFieldChangesRow.holds Try.pinned (OpenSpec.ofChange fnExactFieldChangesWrong)

/-- 'laws.FnExactClubCounts': WHATEVER THE INPUT: true; the input reads as it did. -/
def fnExactClubCountsSpec : ChangeSpec := { name := "fnExactClubCounts", fn := fun _ => fun
  | [d1, d2] => { results := [.lit (.bool true)], args := [d1, d2] }
  | _ => none }
def fnExactClubCountsRow : OpenClaim := { program := "ytjcheccngombkaa", sum := "6c47348876cd2c3af522e6fe9e0327f484c1112e95fad583c8fd5af8d0ad76f5", func := "loop.example/g00912/laws.FnExactClubCounts", spec := "fnExactClubCounts", unfollowed := true, recurses := true, apart := false }
def FnExactClubCountsSaid : Prop := fnExactClubCountsRow.holds Try.pinned (OpenSpec.ofChange fnExactClubCountsSpec)

/-- ITS FALSE NEIGHBOUR: 'it returns false'. Refute it at one input. -/
def fnExactClubCountsWrong : ChangeSpec := { name := "fnExactClubCounts", fn := fun _ => fun
  | [d1, d2] => { results := [.lit (.bool false)], args := [d1, d2] }
  | _ => none }
def FnExactClubCountsWrongFalsely : Prop := fnExactClubCountsRow.holds Try.pinned (OpenSpec.ofChange fnExactClubCountsWrong)

/-- 'laws.FnExactOrderAfter': WHATEVER THE INPUT: true; the input reads as it did. -/
def fnExactOrderAfterSpec : ChangeSpec := { name := "fnExactOrderAfter", fn := fun _ => fun
  | [d1, d2, d3] => { results := [.lit (.bool true)], args := [d1, d2, d3] }
  | _ => none }
def fnExactOrderAfterRow : OpenClaim := { program := "ytjcheccngombkaa", sum := "6c47348876cd2c3af522e6fe9e0327f484c1112e95fad583c8fd5af8d0ad76f5", func := "loop.example/g00912/laws.FnExactOrderAfter", spec := "fnExactOrderAfter", unfollowed := true, recurses := true, apart := false }
def FnExactOrderAfterSaid : Prop := fnExactOrderAfterRow.holds Try.pinned (OpenSpec.ofChange fnExactOrderAfterSpec)

/-- ITS FALSE NEIGHBOUR: 'it returns false'. Refute it at one input. -/
def fnExactOrderAfterWrong : ChangeSpec := { name := "fnExactOrderAfter", fn := fun _ => fun
  | [d1, d2, d3] => { results := [.lit (.bool false)], args := [d1, d2, d3] }
  | _ => none }
def FnExactOrderAfterWrongFalsely : Prop := fnExactOrderAfterRow.holds Try.pinned (OpenSpec.ofChange fnExactOrderAfterWrong)

/-- 'laws.FnExactGapsIn': WHATEVER THE INPUT: true; the input reads as it did. -/
def fnExactGapsInSpec : ChangeSpec := { name := "fnExactGapsIn", fn := fun _ => fun
  | [d1, d2, d3] => { results := [.lit (.bool true)], args := [d1, d2, d3] }
  | _ => none }
def fnExactGapsInRow : OpenClaim := { program := "ytjcheccngombkaa", sum := "6c47348876cd2c3af522e6fe9e0327f484c1112e95fad583c8fd5af8d0ad76f5", func := "loop.example/g00912/laws.FnExactGapsIn", spec := "fnExactGapsIn", unfollowed := true, recurses := true, apart := false }
def FnExactGapsInSaid : Prop := fnExactGapsInRow.holds Try.pinned (OpenSpec.ofChange fnExactGapsInSpec)

/-- ITS FALSE NEIGHBOUR: 'it returns false'. Refute it at one input. -/
def fnExactGapsInWrong : ChangeSpec := { name := "fnExactGapsIn", fn := fun _ => fun
  | [d1, d2, d3] => { results := [.lit (.bool false)], args := [d1, d2, d3] }
  | _ => none }
def FnExactGapsInWrongFalsely : Prop := fnExactGapsInRow.holds Try.pinned (OpenSpec.ofChange fnExactGapsInWrong)

/-- 'laws.FnExactCloseGaps': WHATEVER THE INPUT: true; the input reads as it did. -/
def fnExactCloseGapsSpec : ChangeSpec := { name := "fnExactCloseGaps", fn := fun _ => fun
  | [d1, d2, d3, d4] => { results := [.lit (.bool true)], args := [d1, d2, d3, d4] }
  | _ => none }
def fnExactCloseGapsRow : OpenClaim := { program := "ytjcheccngombkaa", sum := "6c47348876cd2c3af522e6fe9e0327f484c1112e95fad583c8fd5af8d0ad76f5", func := "loop.example/g00912/laws.FnExactCloseGaps", spec := "fnExactCloseGaps", unfollowed := true, recurses := true, apart := false }
def FnExactCloseGapsSaid : Prop := fnExactCloseGapsRow.holds Try.pinned (OpenSpec.ofChange fnExactCloseGapsSpec)

/-- ITS FALSE NEIGHBOUR: 'it returns false'. Refute it at one input. -/
def fnExactCloseGapsWrong : ChangeSpec := { name := "fnExactCloseGaps", fn := fun _ => fun
  | [d1, d2, d3, d4] => { results := [.lit (.bool false)], args := [d1, d2, d3, d4] }
  | _ => none }
def FnExactCloseGapsWrongFalsely : Prop := fnExactCloseGapsRow.holds Try.pinned (OpenSpec.ofChange fnExactCloseGapsWrong)

/- THE SECOND FORM. 'bulk': how many values and letters a reading holds, each counted each time it is reached (what is shared counts as often as it is met; a slice's spare places count too). A statement '..UptoSaid' is the law's where the arguments, and the package variables that the reading takes, are together of bulk at most 1048576: NARROWER than '..Said'. Prove '..Said' where nothing that the law and all that it calls make is longer than what came in: it says more and counts as full. Else prove '..UptoSaid'. A law counts once. -/
mutual
def uptoBulk {H : Type} : DataW H → Nat
  | .lit (.string bytes) => bytes.length + 1
  | .lit _ => 1
  | .nil => 1
  | .ptr d => uptoBulk d + 1
  | .slice elems spare => uptoBulkAll elems + uptoBulkAll spare + 1
  | .agg parts => uptoBulkAll parts + 1
  | .iface _ d => uptoBulk d + 1
  | .map entries => uptoBulkEntries entries + 1
  | .held _ => 1
def uptoBulkAll {H : Type} : List (DataW H) → Nat
  | [] => 0
  | d :: r => uptoBulk d + uptoBulkAll r
def uptoBulkEntries {H : Type} : List (Lit × DataW H) → Nat
  | [] => 0
  | x :: r => uptoBulkEntry x + uptoBulkEntries r
def uptoBulkEntry {H : Type} : Lit × DataW H → Nat
  | (.string bytes, d) => bytes.length + uptoBulk d + 1
  | (_, d) => uptoBulk d + 1
 end
def uptoSmall : (H : Type) → List (DataW H) → Bool := fun _ ds => decide (uptoBulkAll ds ≤ 1048576)
def OpenSpec.upto (s : _root_.Go.ChangeSpec) : _root_.Go.OpenSpec := { _root_.Go.OpenSpec.ofChange s with cond := some uptoSmall }

/-- 'laws.FnExactFeesLost', WHERE WHAT IT READS IS OF BULK AT MOST 1048576: true; the input reads as it did. -/
def fnExactFeesLostUptoRow : OpenClaim := { program := "ytjcheccngombkaa", sum := "6c47348876cd2c3af522e6fe9e0327f484c1112e95fad583c8fd5af8d0ad76f5", func := "loop.example/g00912/laws.FnExactFeesLost", spec := "fnExactFeesLost", apart := false, narrowed := true }
def FnExactFeesLostUptoSaid : Prop := fnExactFeesLostUptoRow.holds Try.pinned (OpenSpec.upto fnExactFeesLostSpec)

/-- 'laws.FnExactTooLate', WHERE WHAT IT READS IS OF BULK AT MOST 1048576: true; the input reads as it did. -/
def fnExactTooLateUptoRow : OpenClaim := { program := "ytjcheccngombkaa", sum := "6c47348876cd2c3af522e6fe9e0327f484c1112e95fad583c8fd5af8d0ad76f5", func := "loop.example/g00912/laws.FnExactTooLate", spec := "fnExactTooLate", unfollowed := true, recurses := true, apart := false, narrowed := true }
def FnExactTooLateUptoSaid : Prop := fnExactTooLateUptoRow.holds Try.pinned (OpenSpec.upto fnExactTooLateSpec)

/-- 'laws.FnExactSubstitutesFor', WHERE WHAT IT READS IS OF BULK AT MOST 1048576: true; the input reads as it did. -/
def fnExactSubstitutesForUptoRow : OpenClaim := { program := "ytjcheccngombkaa", sum := "6c47348876cd2c3af522e6fe9e0327f484c1112e95fad583c8fd5af8d0ad76f5", func := "loop.example/g00912/laws.FnExactSubstitutesFor", spec := "fnExactSubstitutesFor", apart := false, narrowed := true }
def FnExactSubstitutesForUptoSaid : Prop := fnExactSubstitutesForUptoRow.holds Try.pinned (OpenSpec.upto fnExactSubstitutesForSpec)

/-- 'laws.FnExactAreNotes', WHERE WHAT IT READS IS OF BULK AT MOST 1048576: true; the input reads as it did. -/
def fnExactAreNotesUptoRow : OpenClaim := { program := "ytjcheccngombkaa", sum := "6c47348876cd2c3af522e6fe9e0327f484c1112e95fad583c8fd5af8d0ad76f5", func := "loop.example/g00912/laws.FnExactAreNotes", spec := "fnExactAreNotes", unfollowed := true, recurses := true, apart := false, narrowed := true }
def FnExactAreNotesUptoSaid : Prop := fnExactAreNotesUptoRow.holds Try.pinned (OpenSpec.upto fnExactAreNotesSpec)

/-- 'laws.FnExactUndoNote', WHERE WHAT IT READS IS OF BULK AT MOST 1048576: true; the input reads as it did. -/
def fnExactUndoNoteUptoRow : OpenClaim := { program := "ytjcheccngombkaa", sum := "6c47348876cd2c3af522e6fe9e0327f484c1112e95fad583c8fd5af8d0ad76f5", func := "loop.example/g00912/laws.FnExactUndoNote", spec := "fnExactUndoNote", unfollowed := true, recurses := true, apart := false, narrowed := true }
def FnExactUndoNoteUptoSaid : Prop := fnExactUndoNoteUptoRow.holds Try.pinned (OpenSpec.upto fnExactUndoNoteSpec)

/-- 'laws.FnExactFieldChanges', WHERE WHAT IT READS IS OF BULK AT MOST 1048576: true; the input reads as it did. -/
def fnExactFieldChangesUptoRow : OpenClaim := { program := "ytjcheccngombkaa", sum := "6c47348876cd2c3af522e6fe9e0327f484c1112e95fad583c8fd5af8d0ad76f5", func := "loop.example/g00912/laws.FnExactFieldChanges", spec := "fnExactFieldChanges", apart := false, narrowed := true }
def FnExactFieldChangesUptoSaid : Prop := fnExactFieldChangesUptoRow.holds Try.pinned (OpenSpec.upto fnExactFieldChangesSpec)

/-- 'laws.FnExactClubCounts', WHERE WHAT IT READS IS OF BULK AT MOST 1048576: true; the input reads as it did. -/
def fnExactClubCountsUptoRow : OpenClaim := { program := "ytjcheccngombkaa", sum := "6c47348876cd2c3af522e6fe9e0327f484c1112e95fad583c8fd5af8d0ad76f5", func := "loop.example/g00912/laws.FnExactClubCounts", spec := "fnExactClubCounts", unfollowed := true, recurses := true, apart := false, narrowed := true }
def FnExactClubCountsUptoSaid : Prop := fnExactClubCountsUptoRow.holds Try.pinned (OpenSpec.upto fnExactClubCountsSpec)

/-- 'laws.FnExactOrderAfter', WHERE WHAT IT READS IS OF BULK AT MOST 1048576: true; the input reads as it did. -/
def fnExactOrderAfterUptoRow : OpenClaim := { program := "ytjcheccngombkaa", sum := "6c47348876cd2c3af522e6fe9e0327f484c1112e95fad583c8fd5af8d0ad76f5", func := "loop.example/g00912/laws.FnExactOrderAfter", spec := "fnExactOrderAfter", unfollowed := true, recurses := true, apart := false, narrowed := true }
def FnExactOrderAfterUptoSaid : Prop := fnExactOrderAfterUptoRow.holds Try.pinned (OpenSpec.upto fnExactOrderAfterSpec)

/-- 'laws.FnExactGapsIn', WHERE WHAT IT READS IS OF BULK AT MOST 1048576: true; the input reads as it did. -/
def fnExactGapsInUptoRow : OpenClaim := { program := "ytjcheccngombkaa", sum := "6c47348876cd2c3af522e6fe9e0327f484c1112e95fad583c8fd5af8d0ad76f5", func := "loop.example/g00912/laws.FnExactGapsIn", spec := "fnExactGapsIn", unfollowed := true, recurses := true, apart := false, narrowed := true }
def FnExactGapsInUptoSaid : Prop := fnExactGapsInUptoRow.holds Try.pinned (OpenSpec.upto fnExactGapsInSpec)

/-- 'laws.FnExactCloseGaps', WHERE WHAT IT READS IS OF BULK AT MOST 1048576: true; the input reads as it did. -/
def fnExactCloseGapsUptoRow : OpenClaim := { program := "ytjcheccngombkaa", sum := "6c47348876cd2c3af522e6fe9e0327f484c1112e95fad583c8fd5af8d0ad76f5", func := "loop.example/g00912/laws.FnExactCloseGaps", spec := "fnExactCloseGaps", unfollowed := true, recurses := true, apart := false, narrowed := true }
def FnExactCloseGapsUptoSaid : Prop := fnExactCloseGapsUptoRow.holds Try.pinned (OpenSpec.upto fnExactCloseGapsSpec)

end Rows
end Go.Proofs.Ytjcheccngombkaa
