/-
  No cell of these rows narrows 'for every input' (looked for: loops, veiled, ifaces, maps, wideKeys, modest, calm, conditions, laid).
  DERIVED. THE GIVEN ROWS OF THIS SEAT. 12 by the template 'for every input the law returns true; each argument reads behind the call as it read before'; 0 by the template 'total and deterministic' (their statements: YtnhkekjkniobpaaTotals.lean).
  GIVEN WITH THE SEED: the statements are not yours to turn. If you find one false, say at which input.
  Laid BY PROGRAM, IN A SANDBOX (cutbox-rows.mjs): the forced cells as the released guide's own fill.sh prints them over the translation d0cf4cb52cee13ed… (all of the seat's roots in one cut). By AI agents, Wed Nov 11 2026. No macro, syntax, notation, axiom, sorry.
-/
import Derived.Test.YtnhkekjkniobpaaChecked
import GoSem.Claim
import GoSem.ClaimJoined
import GoSem.ClaimMapViews
import Derived.JoinedTies
import Derived.KernelRfl
namespace Go.Proofs.Ytnhkekjkniobpaa
/- THE CELL 'sum', in the pinned program and in every row, IS THE sha256 OF THE DUMP (.gsa) THAT YtnhkekjkniobpaaProg.lean LOADS. Nothing in Lean hashes anything: it is a label: what it is worth is what the hold of that sum in a sandbox is worth. -/
noncomputable def Try.pinned : Pinned := { name := "ytnhkekjkniobpaa", sum := "d0cf4cb52cee13ed4994ad3b6b1506b838df1ee214c4a8407e4114c9715511ae", checked := Try.checked }
namespace Rows
def none {H : Type} : Left H := { results := [], args := [] }

/-- 'laws.FnExactTotalOfResult': WHATEVER THE INPUT: true; the input reads as it did. -/
def fnExactTotalOfResultSpec : ChangeSpec := { name := "fnExactTotalOfResult", fn := fun _ => fun
  | [d] => { results := [.lit (.bool true)], args := [d] }
  | _ => none }
def fnExactTotalOfResultRow : OpenClaim := { program := "ytnhkekjkniobpaa", sum := "d0cf4cb52cee13ed4994ad3b6b1506b838df1ee214c4a8407e4114c9715511ae", func := "loop.example/g00912/laws.FnExactTotalOfResult", spec := "fnExactTotalOfResult", apart := false }
def FnExactTotalOfResultSaid : Prop := fnExactTotalOfResultRow.holds Try.pinned (OpenSpec.ofChange fnExactTotalOfResultSpec)

/-- ITS FALSE NEIGHBOUR: 'it returns false'. Refute it at one input. -/
def fnExactTotalOfResultWrong : ChangeSpec := { name := "fnExactTotalOfResult", fn := fun _ => fun
  | [d] => { results := [.lit (.bool false)], args := [d] }
  | _ => none }
def FnExactTotalOfResultWrongFalsely : Prop := fnExactTotalOfResultRow.holds Try.pinned (OpenSpec.ofChange fnExactTotalOfResultWrong)

/-- 'laws.FnExactAreResults': WHATEVER THE INPUT: true; the input reads as it did. -/
def fnExactAreResultsSpec : ChangeSpec := { name := "fnExactAreResults", fn := fun _ => fun
  | [d] => { results := [.lit (.bool true)], args := [d] }
  | _ => none }
def fnExactAreResultsRow : OpenClaim := { program := "ytnhkekjkniobpaa", sum := "d0cf4cb52cee13ed4994ad3b6b1506b838df1ee214c4a8407e4114c9715511ae", func := "loop.example/g00912/laws.FnExactAreResults", spec := "fnExactAreResults", apart := false }
def FnExactAreResultsSaid : Prop := fnExactAreResultsRow.holds Try.pinned (OpenSpec.ofChange fnExactAreResultsSpec)

/-- ITS FALSE NEIGHBOUR: 'it returns false'. Refute it at one input. -/
def fnExactAreResultsWrong : ChangeSpec := { name := "fnExactAreResults", fn := fun _ => fun
  | [d] => { results := [.lit (.bool false)], args := [d] }
  | _ => none }
def FnExactAreResultsWrongFalsely : Prop := fnExactAreResultsRow.holds Try.pinned (OpenSpec.ofChange fnExactAreResultsWrong)

/-- 'laws.FnExactCompareResults': WHATEVER THE INPUT: true; the input reads as it did. -/
def fnExactCompareResultsSpec : ChangeSpec := { name := "fnExactCompareResults", fn := fun _ => fun
  | [d1, d2] => { results := [.lit (.bool true)], args := [d1, d2] }
  | _ => none }
def fnExactCompareResultsRow : OpenClaim := { program := "ytnhkekjkniobpaa", sum := "d0cf4cb52cee13ed4994ad3b6b1506b838df1ee214c4a8407e4114c9715511ae", func := "loop.example/g00912/laws.FnExactCompareResults", spec := "fnExactCompareResults", apart := false }
def FnExactCompareResultsSaid : Prop := fnExactCompareResultsRow.holds Try.pinned (OpenSpec.ofChange fnExactCompareResultsSpec)

/-- ITS FALSE NEIGHBOUR: 'it returns false'. Refute it at one input. -/
def fnExactCompareResultsWrong : ChangeSpec := { name := "fnExactCompareResults", fn := fun _ => fun
  | [d1, d2] => { results := [.lit (.bool false)], args := [d1, d2] }
  | _ => none }
def FnExactCompareResultsWrongFalsely : Prop := fnExactCompareResultsRow.holds Try.pinned (OpenSpec.ofChange fnExactCompareResultsWrong)

/-- 'laws.FnExactFlipsOf': WHATEVER THE INPUT: true; the input reads as it did. -/
def fnExactFlipsOfSpec : ChangeSpec := { name := "fnExactFlipsOf", fn := fun _ => fun
  | [d1, d2] => { results := [.lit (.bool true)], args := [d1, d2] }
  | _ => none }
def fnExactFlipsOfRow : OpenClaim := { program := "ytnhkekjkniobpaa", sum := "d0cf4cb52cee13ed4994ad3b6b1506b838df1ee214c4a8407e4114c9715511ae", func := "loop.example/g00912/laws.FnExactFlipsOf", spec := "fnExactFlipsOf", apart := false }
def FnExactFlipsOfSaid : Prop := fnExactFlipsOfRow.holds Try.pinned (OpenSpec.ofChange fnExactFlipsOfSpec)

/-- ITS FALSE NEIGHBOUR: 'it returns false'. Refute it at one input. -/
def fnExactFlipsOfWrong : ChangeSpec := { name := "fnExactFlipsOf", fn := fun _ => fun
  | [d1, d2] => { results := [.lit (.bool false)], args := [d1, d2] }
  | _ => none }
def FnExactFlipsOfWrongFalsely : Prop := fnExactFlipsOfRow.holds Try.pinned (OpenSpec.ofChange fnExactFlipsOfWrong)

/-- 'laws.FnExactPlacesIn': WHATEVER THE INPUT: true; the input reads as it did. -/
def fnExactPlacesInSpec : ChangeSpec := { name := "fnExactPlacesIn", fn := fun _ => fun
  | [d1, d2] => { results := [.lit (.bool true)], args := [d1, d2] }
  | _ => none }
def fnExactPlacesInRow : OpenClaim := { program := "ytnhkekjkniobpaa", sum := "d0cf4cb52cee13ed4994ad3b6b1506b838df1ee214c4a8407e4114c9715511ae", func := "loop.example/g00912/laws.FnExactPlacesIn", spec := "fnExactPlacesIn", apart := false }
def FnExactPlacesInSaid : Prop := fnExactPlacesInRow.holds Try.pinned (OpenSpec.ofChange fnExactPlacesInSpec)

/-- ITS FALSE NEIGHBOUR: 'it returns false'. Refute it at one input. -/
def fnExactPlacesInWrong : ChangeSpec := { name := "fnExactPlacesIn", fn := fun _ => fun
  | [d1, d2] => { results := [.lit (.bool false)], args := [d1, d2] }
  | _ => none }
def FnExactPlacesInWrongFalsely : Prop := fnExactPlacesInRow.holds Try.pinned (OpenSpec.ofChange fnExactPlacesInWrong)

/-- 'laws.FnExactPlacesOfResults': WHATEVER THE INPUT: true; the input reads as it did. -/
def fnExactPlacesOfResultsSpec : ChangeSpec := { name := "fnExactPlacesOfResults", fn := fun _ => fun
  | [d] => { results := [.lit (.bool true)], args := [d] }
  | _ => none }
def fnExactPlacesOfResultsRow : OpenClaim := { program := "ytnhkekjkniobpaa", sum := "d0cf4cb52cee13ed4994ad3b6b1506b838df1ee214c4a8407e4114c9715511ae", func := "loop.example/g00912/laws.FnExactPlacesOfResults", spec := "fnExactPlacesOfResults", apart := false }
def FnExactPlacesOfResultsSaid : Prop := fnExactPlacesOfResultsRow.holds Try.pinned (OpenSpec.ofChange fnExactPlacesOfResultsSpec)

/-- ITS FALSE NEIGHBOUR: 'it returns false'. Refute it at one input. -/
def fnExactPlacesOfResultsWrong : ChangeSpec := { name := "fnExactPlacesOfResults", fn := fun _ => fun
  | [d] => { results := [.lit (.bool false)], args := [d] }
  | _ => none }
def FnExactPlacesOfResultsWrongFalsely : Prop := fnExactPlacesOfResultsRow.holds Try.pinned (OpenSpec.ofChange fnExactPlacesOfResultsWrong)

/-- 'laws.FnExactTiedWith': WHATEVER THE INPUT: true; the input reads as it did. -/
def fnExactTiedWithSpec : ChangeSpec := { name := "fnExactTiedWith", fn := fun _ => fun
  | [d1, d2] => { results := [.lit (.bool true)], args := [d1, d2] }
  | _ => none }
def fnExactTiedWithRow : OpenClaim := { program := "ytnhkekjkniobpaa", sum := "d0cf4cb52cee13ed4994ad3b6b1506b838df1ee214c4a8407e4114c9715511ae", func := "loop.example/g00912/laws.FnExactTiedWith", spec := "fnExactTiedWith", unfollowed := true, recurses := true, apart := false }
def FnExactTiedWithSaid : Prop := fnExactTiedWithRow.holds Try.pinned (OpenSpec.ofChange fnExactTiedWithSpec)

/-- ITS FALSE NEIGHBOUR: 'it returns false'. Refute it at one input. -/
def fnExactTiedWithWrong : ChangeSpec := { name := "fnExactTiedWith", fn := fun _ => fun
  | [d1, d2] => { results := [.lit (.bool false)], args := [d1, d2] }
  | _ => none }
def FnExactTiedWithWrongFalsely : Prop := fnExactTiedWithRow.holds Try.pinned (OpenSpec.ofChange fnExactTiedWithWrong)

/-- 'laws.FnExactOrderOfResults': WHATEVER THE INPUT: true; the input reads as it did. -/
def fnExactOrderOfResultsSpec : ChangeSpec := { name := "fnExactOrderOfResults", fn := fun _ => fun
  | [d] => { results := [.lit (.bool true)], args := [d] }
  | _ => none }
def fnExactOrderOfResultsRow : OpenClaim := { program := "ytnhkekjkniobpaa", sum := "d0cf4cb52cee13ed4994ad3b6b1506b838df1ee214c4a8407e4114c9715511ae", func := "loop.example/g00912/laws.FnExactOrderOfResults", spec := "fnExactOrderOfResults", unfollowed := true, recurses := true, apart := false }
def FnExactOrderOfResultsSaid : Prop := fnExactOrderOfResultsRow.holds Try.pinned (OpenSpec.ofChange fnExactOrderOfResultsSpec)

/-- ITS FALSE NEIGHBOUR: 'it returns false'. Refute it at one input. -/
def fnExactOrderOfResultsWrong : ChangeSpec := { name := "fnExactOrderOfResults", fn := fun _ => fun
  | [d] => { results := [.lit (.bool false)], args := [d] }
  | _ => none }
def FnExactOrderOfResultsWrongFalsely : Prop := fnExactOrderOfResultsRow.holds Try.pinned (OpenSpec.ofChange fnExactOrderOfResultsWrong)

/-- 'laws.FnExactSetScore': WHATEVER THE INPUT: true; the input reads as it did. -/
def fnExactSetScoreSpec : ChangeSpec := { name := "fnExactSetScore", fn := fun _ => fun
  | [d1, d2, d3, d4] => { results := [.lit (.bool true)], args := [d1, d2, d3, d4] }
  | _ => none }
def fnExactSetScoreRow : OpenClaim := { program := "ytnhkekjkniobpaa", sum := "d0cf4cb52cee13ed4994ad3b6b1506b838df1ee214c4a8407e4114c9715511ae", func := "loop.example/g00912/laws.FnExactSetScore", spec := "fnExactSetScore", apart := false }
def FnExactSetScoreSaid : Prop := fnExactSetScoreRow.holds Try.pinned (OpenSpec.ofChange fnExactSetScoreSpec)

/-- ITS FALSE NEIGHBOUR: 'it returns false'. Refute it at one input. -/
def fnExactSetScoreWrong : ChangeSpec := { name := "fnExactSetScore", fn := fun _ => fun
  | [d1, d2, d3, d4] => { results := [.lit (.bool false)], args := [d1, d2, d3, d4] }
  | _ => none }
def FnExactSetScoreWrongFalsely : Prop := fnExactSetScoreRow.holds Try.pinned (OpenSpec.ofChange fnExactSetScoreWrong)

/-- 'laws.FnExactNeededFor': WHATEVER THE INPUT: true; the input reads as it did. -/
def fnExactNeededForSpec : ChangeSpec := { name := "fnExactNeededFor", fn := fun _ => fun
  | [d1, d2, d3, d4] => { results := [.lit (.bool true)], args := [d1, d2, d3, d4] }
  | _ => none }
def fnExactNeededForRow : OpenClaim := { program := "ytnhkekjkniobpaa", sum := "d0cf4cb52cee13ed4994ad3b6b1506b838df1ee214c4a8407e4114c9715511ae", func := "loop.example/g00912/laws.FnExactNeededFor", spec := "fnExactNeededFor", apart := false }
def FnExactNeededForSaid : Prop := fnExactNeededForRow.holds Try.pinned (OpenSpec.ofChange fnExactNeededForSpec)

/-- ITS FALSE NEIGHBOUR: 'it returns false'. Refute it at one input. -/
def fnExactNeededForWrong : ChangeSpec := { name := "fnExactNeededFor", fn := fun _ => fun
  | [d1, d2, d3, d4] => { results := [.lit (.bool false)], args := [d1, d2, d3, d4] }
  | _ => none }
def FnExactNeededForWrongFalsely : Prop := fnExactNeededForRow.holds Try.pinned (OpenSpec.ofChange fnExactNeededForWrong)

/-- 'laws.FnExactSafeScore': WHATEVER THE INPUT: true; the input reads as it did. -/
def fnExactSafeScoreSpec : ChangeSpec := { name := "fnExactSafeScore", fn := fun _ => fun
  | [d1, d2, d3, d4] => { results := [.lit (.bool true)], args := [d1, d2, d3, d4] }
  | _ => none }
def fnExactSafeScoreRow : OpenClaim := { program := "ytnhkekjkniobpaa", sum := "d0cf4cb52cee13ed4994ad3b6b1506b838df1ee214c4a8407e4114c9715511ae", func := "loop.example/g00912/laws.FnExactSafeScore", spec := "fnExactSafeScore", apart := false }
def FnExactSafeScoreSaid : Prop := fnExactSafeScoreRow.holds Try.pinned (OpenSpec.ofChange fnExactSafeScoreSpec)

/-- ITS FALSE NEIGHBOUR: 'it returns false'. Refute it at one input. -/
def fnExactSafeScoreWrong : ChangeSpec := { name := "fnExactSafeScore", fn := fun _ => fun
  | [d1, d2, d3, d4] => { results := [.lit (.bool false)], args := [d1, d2, d3, d4] }
  | _ => none }
def FnExactSafeScoreWrongFalsely : Prop := fnExactSafeScoreRow.holds Try.pinned (OpenSpec.ofChange fnExactSafeScoreWrong)

/-- 'laws.FnExactResultsAfter': WHATEVER THE INPUT: true; the input reads as it did. -/
def fnExactResultsAfterSpec : ChangeSpec := { name := "fnExactResultsAfter", fn := fun _ => fun
  | [d1, d2] => { results := [.lit (.bool true)], args := [d1, d2] }
  | _ => none }
def fnExactResultsAfterRow : OpenClaim := { program := "ytnhkekjkniobpaa", sum := "d0cf4cb52cee13ed4994ad3b6b1506b838df1ee214c4a8407e4114c9715511ae", func := "loop.example/g00912/laws.FnExactResultsAfter", spec := "fnExactResultsAfter", unfollowed := true, recurses := true, apart := false }
def FnExactResultsAfterSaid : Prop := fnExactResultsAfterRow.holds Try.pinned (OpenSpec.ofChange fnExactResultsAfterSpec)

/-- ITS FALSE NEIGHBOUR: 'it returns false'. Refute it at one input. -/
def fnExactResultsAfterWrong : ChangeSpec := { name := "fnExactResultsAfter", fn := fun _ => fun
  | [d1, d2] => { results := [.lit (.bool false)], args := [d1, d2] }
  | _ => none }
def FnExactResultsAfterWrongFalsely : Prop := fnExactResultsAfterRow.holds Try.pinned (OpenSpec.ofChange fnExactResultsAfterWrong)

/- THE SECOND FORM. 'bulk': how many values and letters a reading holds, each counted each time it is reached (what is shared counts as often as it is met; a slice's spare places count too). A statement '..UptoSaid' is the law's where the arguments, and the package variables that the reading takes, are together of bulk at most 1048576: NARROWER than '..Said'. Prove '..Said' where nothing that the law and all that it calls make is longer than what came in: it says more and counts as full. Else prove '..UptoSaid'. A law counts once. -/
mutual
def uptoBulk {H : Type} : DataW H → Nat
  | .lit (.string bytes) => bytes.length + 1
  | .lit _ => 1
  | .nil => 1
  | .ptr d => uptoBulk d + 1
  | .slice elems spare => uptoBulkAll elems + uptoBulkAll spare + 1
  | .agg parts => uptoBulkAll parts + 1
  | .iface _ d => uptoBulk d + 1
  | .map entries => uptoBulkEntries entries + 1
  | .held _ => 1
def uptoBulkAll {H : Type} : List (DataW H) → Nat
  | [] => 0
  | d :: r => uptoBulk d + uptoBulkAll r
def uptoBulkEntries {H : Type} : List (Lit × DataW H) → Nat
  | [] => 0
  | x :: r => uptoBulkEntry x + uptoBulkEntries r
def uptoBulkEntry {H : Type} : Lit × DataW H → Nat
  | (.string bytes, d) => bytes.length + uptoBulk d + 1
  | (_, d) => uptoBulk d + 1
 end
def uptoSmall : (H : Type) → List (DataW H) → Bool := fun _ ds => decide (uptoBulkAll ds ≤ 1048576)
def OpenSpec.upto (s : _root_.Go.ChangeSpec) : _root_.Go.OpenSpec := { _root_.Go.OpenSpec.ofChange s with cond := some uptoSmall }

/-- 'laws.FnExactTotalOfResult', WHERE WHAT IT READS IS OF BULK AT MOST 1048576: true; the input reads as it did. -/
def fnExactTotalOfResultUptoRow : OpenClaim := { program := "ytnhkekjkniobpaa", sum := "d0cf4cb52cee13ed4994ad3b6b1506b838df1ee214c4a8407e4114c9715511ae", func := "loop.example/g00912/laws.FnExactTotalOfResult", spec := "fnExactTotalOfResult", apart := false, narrowed := true }
def FnExactTotalOfResultUptoSaid : Prop := fnExactTotalOfResultUptoRow.holds Try.pinned (OpenSpec.upto fnExactTotalOfResultSpec)

/-- 'laws.FnExactAreResults', WHERE WHAT IT READS IS OF BULK AT MOST 1048576: true; the input reads as it did. -/
def fnExactAreResultsUptoRow : OpenClaim := { program := "ytnhkekjkniobpaa", sum := "d0cf4cb52cee13ed4994ad3b6b1506b838df1ee214c4a8407e4114c9715511ae", func := "loop.example/g00912/laws.FnExactAreResults", spec := "fnExactAreResults", apart := false, narrowed := true }
def FnExactAreResultsUptoSaid : Prop := fnExactAreResultsUptoRow.holds Try.pinned (OpenSpec.upto fnExactAreResultsSpec)

/-- 'laws.FnExactCompareResults', WHERE WHAT IT READS IS OF BULK AT MOST 1048576: true; the input reads as it did. -/
def fnExactCompareResultsUptoRow : OpenClaim := { program := "ytnhkekjkniobpaa", sum := "d0cf4cb52cee13ed4994ad3b6b1506b838df1ee214c4a8407e4114c9715511ae", func := "loop.example/g00912/laws.FnExactCompareResults", spec := "fnExactCompareResults", apart := false, narrowed := true }
def FnExactCompareResultsUptoSaid : Prop := fnExactCompareResultsUptoRow.holds Try.pinned (OpenSpec.upto fnExactCompareResultsSpec)

/-- 'laws.FnExactFlipsOf', WHERE WHAT IT READS IS OF BULK AT MOST 1048576: true; the input reads as it did. -/
def fnExactFlipsOfUptoRow : OpenClaim := { program := "ytnhkekjkniobpaa", sum := "d0cf4cb52cee13ed4994ad3b6b1506b838df1ee214c4a8407e4114c9715511ae", func := "loop.example/g00912/laws.FnExactFlipsOf", spec := "fnExactFlipsOf", apart := false, narrowed := true }
def FnExactFlipsOfUptoSaid : Prop := fnExactFlipsOfUptoRow.holds Try.pinned (OpenSpec.upto fnExactFlipsOfSpec)

/-- 'laws.FnExactPlacesIn', WHERE WHAT IT READS IS OF BULK AT MOST 1048576: true; the input reads as it did. -/
def fnExactPlacesInUptoRow : OpenClaim := { program := "ytnhkekjkniobpaa", sum := "d0cf4cb52cee13ed4994ad3b6b1506b838df1ee214c4a8407e4114c9715511ae", func := "loop.example/g00912/laws.FnExactPlacesIn", spec := "fnExactPlacesIn", apart := false, narrowed := true }
def FnExactPlacesInUptoSaid : Prop := fnExactPlacesInUptoRow.holds Try.pinned (OpenSpec.upto fnExactPlacesInSpec)

/-- 'laws.FnExactPlacesOfResults', WHERE WHAT IT READS IS OF BULK AT MOST 1048576: true; the input reads as it did. -/
def fnExactPlacesOfResultsUptoRow : OpenClaim := { program := "ytnhkekjkniobpaa", sum := "d0cf4cb52cee13ed4994ad3b6b1506b838df1ee214c4a8407e4114c9715511ae", func := "loop.example/g00912/laws.FnExactPlacesOfResults", spec := "fnExactPlacesOfResults", apart := false, narrowed := true }
def FnExactPlacesOfResultsUptoSaid : Prop := fnExactPlacesOfResultsUptoRow.holds Try.pinned (OpenSpec.upto fnExactPlacesOfResultsSpec)

/-- 'laws.FnExactTiedWith', WHERE WHAT IT READS IS OF BULK AT MOST 1048576: true; the input reads as it did. -/
def fnExactTiedWithUptoRow : OpenClaim := { program := "ytnhkekjkniobpaa", sum := "d0cf4cb52cee13ed4994ad3b6b1506b838df1ee214c4a8407e4114c9715511ae", func := "loop.example/g00912/laws.FnExactTiedWith", spec := "fnExactTiedWith", unfollowed := true, recurses := true, apart := false, narrowed := true }
def FnExactTiedWithUptoSaid : Prop := fnExactTiedWithUptoRow.holds Try.pinned (OpenSpec.upto fnExactTiedWithSpec)

/-- 'laws.FnExactOrderOfResults', WHERE WHAT IT READS IS OF BULK AT MOST 1048576: true; the input reads as it did. -/
def fnExactOrderOfResultsUptoRow : OpenClaim := { program := "ytnhkekjkniobpaa", sum := "d0cf4cb52cee13ed4994ad3b6b1506b838df1ee214c4a8407e4114c9715511ae", func := "loop.example/g00912/laws.FnExactOrderOfResults", spec := "fnExactOrderOfResults", unfollowed := true, recurses := true, apart := false, narrowed := true }
def FnExactOrderOfResultsUptoSaid : Prop := fnExactOrderOfResultsUptoRow.holds Try.pinned (OpenSpec.upto fnExactOrderOfResultsSpec)

/-- 'laws.FnExactSetScore', WHERE WHAT IT READS IS OF BULK AT MOST 1048576: true; the input reads as it did. -/
def fnExactSetScoreUptoRow : OpenClaim := { program := "ytnhkekjkniobpaa", sum := "d0cf4cb52cee13ed4994ad3b6b1506b838df1ee214c4a8407e4114c9715511ae", func := "loop.example/g00912/laws.FnExactSetScore", spec := "fnExactSetScore", apart := false, narrowed := true }
def FnExactSetScoreUptoSaid : Prop := fnExactSetScoreUptoRow.holds Try.pinned (OpenSpec.upto fnExactSetScoreSpec)

/-- 'laws.FnExactNeededFor', WHERE WHAT IT READS IS OF BULK AT MOST 1048576: true; the input reads as it did. -/
def fnExactNeededForUptoRow : OpenClaim := { program := "ytnhkekjkniobpaa", sum := "d0cf4cb52cee13ed4994ad3b6b1506b838df1ee214c4a8407e4114c9715511ae", func := "loop.example/g00912/laws.FnExactNeededFor", spec := "fnExactNeededFor", apart := false, narrowed := true }
def FnExactNeededForUptoSaid : Prop := fnExactNeededForUptoRow.holds Try.pinned (OpenSpec.upto fnExactNeededForSpec)

/-- 'laws.FnExactSafeScore', WHERE WHAT IT READS IS OF BULK AT MOST 1048576: true; the input reads as it did. -/
def fnExactSafeScoreUptoRow : OpenClaim := { program := "ytnhkekjkniobpaa", sum := "d0cf4cb52cee13ed4994ad3b6b1506b838df1ee214c4a8407e4114c9715511ae", func := "loop.example/g00912/laws.FnExactSafeScore", spec := "fnExactSafeScore", apart := false, narrowed := true }
def FnExactSafeScoreUptoSaid : Prop := fnExactSafeScoreUptoRow.holds Try.pinned (OpenSpec.upto fnExactSafeScoreSpec)

/-- 'laws.FnExactResultsAfter', WHERE WHAT IT READS IS OF BULK AT MOST 1048576: true; the input reads as it did. -/
def fnExactResultsAfterUptoRow : OpenClaim := { program := "ytnhkekjkniobpaa", sum := "d0cf4cb52cee13ed4994ad3b6b1506b838df1ee214c4a8407e4114c9715511ae", func := "loop.example/g00912/laws.FnExactResultsAfter", spec := "fnExactResultsAfter", unfollowed := true, recurses := true, apart := false, narrowed := true }
def FnExactResultsAfterUptoSaid : Prop := fnExactResultsAfterUptoRow.holds Try.pinned (OpenSpec.upto fnExactResultsAfterSpec)

end Rows
end Go.Proofs.Ytnhkekjkniobpaa
