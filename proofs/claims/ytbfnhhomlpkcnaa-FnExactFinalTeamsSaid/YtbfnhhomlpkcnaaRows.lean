/-
  No cell of these rows narrows 'for every input' (looked for: loops, veiled, ifaces, maps, wideKeys, modest, calm, conditions, laid).
  DERIVED. THE GIVEN ROWS OF THIS SEAT. 12 by the template 'for every input the law returns true; each argument reads behind the call as it read before'; 0 by the template 'total and deterministic' (their statements: YtbfnhhomlpkcnaaTotals.lean).
  GIVEN WITH THE SEED: the statements are not yours to turn. If you find one false, say at which input.
  Laid BY PROGRAM, IN A SANDBOX (cutbox-rows.mjs): the forced cells as the released guide's own fill.sh prints them over the translation 1a3f003e90931eb2… (all of the seat's roots in one cut). By AI agents, Wed Nov 11 2026. No macro, syntax, notation, axiom, sorry.
-/
import Derived.Test.YtbfnhhomlpkcnaaChecked
import GoSem.Claim
import GoSem.ClaimJoined
import GoSem.ClaimMapViews
import Derived.JoinedTies
import Derived.KernelRfl
namespace Go.Proofs.Ytbfnhhomlpkcnaa
/- THE CELL 'sum', in the pinned program and in every row, IS THE sha256 OF THE DUMP (.gsa) THAT YtbfnhhomlpkcnaaProg.lean LOADS. Nothing in Lean hashes anything: it is a label: what it is worth is what the hold of that sum in a sandbox is worth. -/
noncomputable def Try.pinned : Pinned := { name := "ytbfnhhomlpkcnaa", sum := "1a3f003e90931eb276785c925f13b6b879829a484acbb28bd68c686d4dce5731", checked := Try.checked }
namespace Rows
def none {H : Type} : Left H := { results := [], args := [] }

/-- 'laws.FnExactAreFinishes': WHATEVER THE INPUT: true; the input reads as it did. -/
def fnExactAreFinishesSpec : ChangeSpec := { name := "fnExactAreFinishes", fn := fun _ => fun
  | [d] => { results := [.lit (.bool true)], args := [d] }
  | _ => none }
def fnExactAreFinishesRow : OpenClaim := { program := "ytbfnhhomlpkcnaa", sum := "1a3f003e90931eb276785c925f13b6b879829a484acbb28bd68c686d4dce5731", func := "loop.example/g00912/laws.FnExactAreFinishes", spec := "fnExactAreFinishes", apart := false }
def FnExactAreFinishesSaid : Prop := fnExactAreFinishesRow.holds Try.pinned (OpenSpec.ofChange fnExactAreFinishesSpec)

/-- ITS FALSE NEIGHBOUR: 'it returns false'. Refute it at one input. -/
def fnExactAreFinishesWrong : ChangeSpec := { name := "fnExactAreFinishes", fn := fun _ => fun
  | [d] => { results := [.lit (.bool false)], args := [d] }
  | _ => none }
def FnExactAreFinishesWrongFalsely : Prop := fnExactAreFinishesRow.holds Try.pinned (OpenSpec.ofChange fnExactAreFinishesWrong)

/-- 'laws.FnExactAreDisciplines': WHATEVER THE INPUT: true; the input reads as it did. -/
def fnExactAreDisciplinesSpec : ChangeSpec := { name := "fnExactAreDisciplines", fn := fun _ => fun
  | [d] => { results := [.lit (.bool true)], args := [d] }
  | _ => none }
def fnExactAreDisciplinesRow : OpenClaim := { program := "ytbfnhhomlpkcnaa", sum := "1a3f003e90931eb276785c925f13b6b879829a484acbb28bd68c686d4dce5731", func := "loop.example/g00912/laws.FnExactAreDisciplines", spec := "fnExactAreDisciplines", apart := false }
def FnExactAreDisciplinesSaid : Prop := fnExactAreDisciplinesRow.holds Try.pinned (OpenSpec.ofChange fnExactAreDisciplinesSpec)

/-- ITS FALSE NEIGHBOUR: 'it returns false'. Refute it at one input. -/
def fnExactAreDisciplinesWrong : ChangeSpec := { name := "fnExactAreDisciplines", fn := fun _ => fun
  | [d] => { results := [.lit (.bool false)], args := [d] }
  | _ => none }
def FnExactAreDisciplinesWrongFalsely : Prop := fnExactAreDisciplinesRow.holds Try.pinned (OpenSpec.ofChange fnExactAreDisciplinesWrong)

/-- 'laws.FnExactDoublePoints': WHATEVER THE INPUT: true; the input reads as it did. -/
def fnExactDoublePointsSpec : ChangeSpec := { name := "fnExactDoublePoints", fn := fun _ => fun
  | [d] => { results := [.lit (.bool true)], args := [d] }
  | _ => none }
def fnExactDoublePointsRow : OpenClaim := { program := "ytbfnhhomlpkcnaa", sum := "1a3f003e90931eb276785c925f13b6b879829a484acbb28bd68c686d4dce5731", func := "loop.example/g00912/laws.FnExactDoublePoints", spec := "fnExactDoublePoints", apart := false }
def FnExactDoublePointsSaid : Prop := fnExactDoublePointsRow.holds Try.pinned (OpenSpec.ofChange fnExactDoublePointsSpec)

/-- ITS FALSE NEIGHBOUR: 'it returns false'. Refute it at one input. -/
def fnExactDoublePointsWrong : ChangeSpec := { name := "fnExactDoublePoints", fn := fun _ => fun
  | [d] => { results := [.lit (.bool false)], args := [d] }
  | _ => none }
def FnExactDoublePointsWrongFalsely : Prop := fnExactDoublePointsRow.holds Try.pinned (OpenSpec.ofChange fnExactDoublePointsWrong)

/-- 'laws.FnExactMostReach': WHATEVER THE INPUT: true; the input reads as it did. -/
def fnExactMostReachSpec : ChangeSpec := { name := "fnExactMostReach", fn := fun _ => fun
  | [d1, d2, d3] => { results := [.lit (.bool true)], args := [d1, d2, d3] }
  | _ => none }
def fnExactMostReachRow : OpenClaim := { program := "ytbfnhhomlpkcnaa", sum := "1a3f003e90931eb276785c925f13b6b879829a484acbb28bd68c686d4dce5731", func := "loop.example/g00912/laws.FnExactMostReach", spec := "fnExactMostReach", recurses := true, apart := false }
def FnExactMostReachSaid : Prop := fnExactMostReachRow.holds Try.pinned (OpenSpec.ofChange fnExactMostReachSpec)

/-- ITS FALSE NEIGHBOUR: 'it returns false'. Refute it at one input. -/
def fnExactMostReachWrong : ChangeSpec := { name := "fnExactMostReach", fn := fun _ => fun
  | [d1, d2, d3] => { results := [.lit (.bool false)], args := [d1, d2, d3] }
  | _ => none }
def FnExactMostReachWrongFalsely : Prop := fnExactMostReachRow.holds Try.pinned (OpenSpec.ofChange fnExactMostReachWrong)

/-- 'laws.FnExactTeamPoints': WHATEVER THE INPUT: true; the input reads as it did. -/
def fnExactTeamPointsSpec : ChangeSpec := { name := "fnExactTeamPoints", fn := fun _ => fun
  | [d1, d2] => { results := [.lit (.bool true)], args := [d1, d2] }
  | _ => none }
def fnExactTeamPointsRow : OpenClaim := { program := "ytbfnhhomlpkcnaa", sum := "1a3f003e90931eb276785c925f13b6b879829a484acbb28bd68c686d4dce5731", func := "loop.example/g00912/laws.FnExactTeamPoints", spec := "fnExactTeamPoints", recurses := true, apart := false }
def FnExactTeamPointsSaid : Prop := fnExactTeamPointsRow.holds Try.pinned (OpenSpec.ofChange fnExactTeamPointsSpec)

/-- ITS FALSE NEIGHBOUR: 'it returns false'. Refute it at one input. -/
def fnExactTeamPointsWrong : ChangeSpec := { name := "fnExactTeamPoints", fn := fun _ => fun
  | [d1, d2] => { results := [.lit (.bool false)], args := [d1, d2] }
  | _ => none }
def FnExactTeamPointsWrongFalsely : Prop := fnExactTeamPointsRow.holds Try.pinned (OpenSpec.ofChange fnExactTeamPointsWrong)

/-- 'laws.FnExactCanStillWin': WHATEVER THE INPUT: true; the input reads as it did. -/
def fnExactCanStillWinSpec : ChangeSpec := { name := "fnExactCanStillWin", fn := fun _ => fun
  | [d1, d2, d3] => { results := [.lit (.bool true)], args := [d1, d2, d3] }
  | _ => none }
def fnExactCanStillWinRow : OpenClaim := { program := "ytbfnhhomlpkcnaa", sum := "1a3f003e90931eb276785c925f13b6b879829a484acbb28bd68c686d4dce5731", func := "loop.example/g00912/laws.FnExactCanStillWin", spec := "fnExactCanStillWin", recurses := true, apart := false }
def FnExactCanStillWinSaid : Prop := fnExactCanStillWinRow.holds Try.pinned (OpenSpec.ofChange fnExactCanStillWinSpec)

/-- ITS FALSE NEIGHBOUR: 'it returns false'. Refute it at one input. -/
def fnExactCanStillWinWrong : ChangeSpec := { name := "fnExactCanStillWin", fn := fun _ => fun
  | [d1, d2, d3] => { results := [.lit (.bool false)], args := [d1, d2, d3] }
  | _ => none }
def FnExactCanStillWinWrongFalsely : Prop := fnExactCanStillWinRow.holds Try.pinned (OpenSpec.ofChange fnExactCanStillWinWrong)

/-- 'laws.FnExactCompareTeams': WHATEVER THE INPUT: true; the input reads as it did. -/
def fnExactCompareTeamsSpec : ChangeSpec := { name := "fnExactCompareTeams", fn := fun _ => fun
  | [d1, d2, d3] => { results := [.lit (.bool true)], args := [d1, d2, d3] }
  | _ => none }
def fnExactCompareTeamsRow : OpenClaim := { program := "ytbfnhhomlpkcnaa", sum := "1a3f003e90931eb276785c925f13b6b879829a484acbb28bd68c686d4dce5731", func := "loop.example/g00912/laws.FnExactCompareTeams", spec := "fnExactCompareTeams", recurses := true, apart := false }
def FnExactCompareTeamsSaid : Prop := fnExactCompareTeamsRow.holds Try.pinned (OpenSpec.ofChange fnExactCompareTeamsSpec)

/-- ITS FALSE NEIGHBOUR: 'it returns false'. Refute it at one input. -/
def fnExactCompareTeamsWrong : ChangeSpec := { name := "fnExactCompareTeams", fn := fun _ => fun
  | [d1, d2, d3] => { results := [.lit (.bool false)], args := [d1, d2, d3] }
  | _ => none }
def FnExactCompareTeamsWrongFalsely : Prop := fnExactCompareTeamsRow.holds Try.pinned (OpenSpec.ofChange fnExactCompareTeamsWrong)

/-- 'laws.FnExactTeamTotals': WHATEVER THE INPUT: true; the input reads as it did. -/
def fnExactTeamTotalsSpec : ChangeSpec := { name := "fnExactTeamTotals", fn := fun _ => fun
  | [d] => { results := [.lit (.bool true)], args := [d] }
  | _ => none }
def fnExactTeamTotalsRow : OpenClaim := { program := "ytbfnhhomlpkcnaa", sum := "1a3f003e90931eb276785c925f13b6b879829a484acbb28bd68c686d4dce5731", func := "loop.example/g00912/laws.FnExactTeamTotals", spec := "fnExactTeamTotals", recurses := true, apart := false }
def FnExactTeamTotalsSaid : Prop := fnExactTeamTotalsRow.holds Try.pinned (OpenSpec.ofChange fnExactTeamTotalsSpec)

/-- ITS FALSE NEIGHBOUR: 'it returns false'. Refute it at one input. -/
def fnExactTeamTotalsWrong : ChangeSpec := { name := "fnExactTeamTotals", fn := fun _ => fun
  | [d] => { results := [.lit (.bool false)], args := [d] }
  | _ => none }
def FnExactTeamTotalsWrongFalsely : Prop := fnExactTeamTotalsRow.holds Try.pinned (OpenSpec.ofChange fnExactTeamTotalsWrong)

/-- 'laws.FnExactTeamPlaces': WHATEVER THE INPUT: true; the input reads as it did. -/
def fnExactTeamPlacesSpec : ChangeSpec := { name := "fnExactTeamPlaces", fn := fun _ => fun
  | [d] => { results := [.lit (.bool true)], args := [d] }
  | _ => none }
def fnExactTeamPlacesRow : OpenClaim := { program := "ytbfnhhomlpkcnaa", sum := "1a3f003e90931eb276785c925f13b6b879829a484acbb28bd68c686d4dce5731", func := "loop.example/g00912/laws.FnExactTeamPlaces", spec := "fnExactTeamPlaces", recurses := true, apart := false }
def FnExactTeamPlacesSaid : Prop := fnExactTeamPlacesRow.holds Try.pinned (OpenSpec.ofChange fnExactTeamPlacesSpec)

/-- ITS FALSE NEIGHBOUR: 'it returns false'. Refute it at one input. -/
def fnExactTeamPlacesWrong : ChangeSpec := { name := "fnExactTeamPlaces", fn := fun _ => fun
  | [d] => { results := [.lit (.bool false)], args := [d] }
  | _ => none }
def FnExactTeamPlacesWrongFalsely : Prop := fnExactTeamPlacesRow.holds Try.pinned (OpenSpec.ofChange fnExactTeamPlacesWrong)

/-- 'laws.FnExactFinalTeams': WHATEVER THE INPUT: true; the input reads as it did. -/
def fnExactFinalTeamsSpec : ChangeSpec := { name := "fnExactFinalTeams", fn := fun _ => fun
  | [d1, d2] => { results := [.lit (.bool true)], args := [d1, d2] }
  | _ => none }
def fnExactFinalTeamsRow : OpenClaim := { program := "ytbfnhhomlpkcnaa", sum := "1a3f003e90931eb276785c925f13b6b879829a484acbb28bd68c686d4dce5731", func := "loop.example/g00912/laws.FnExactFinalTeams", spec := "fnExactFinalTeams", recurses := true, apart := false }
def FnExactFinalTeamsSaid : Prop := fnExactFinalTeamsRow.holds Try.pinned (OpenSpec.ofChange fnExactFinalTeamsSpec)

/-- ITS FALSE NEIGHBOUR: 'it returns false'. Refute it at one input. -/
def fnExactFinalTeamsWrong : ChangeSpec := { name := "fnExactFinalTeams", fn := fun _ => fun
  | [d1, d2] => { results := [.lit (.bool false)], args := [d1, d2] }
  | _ => none }
def FnExactFinalTeamsWrongFalsely : Prop := fnExactFinalTeamsRow.holds Try.pinned (OpenSpec.ofChange fnExactFinalTeamsWrong)

/-- 'laws.FnTeams': WHATEVER THE INPUT: true; the input reads as it did. -/
def fnTeamsSpec : ChangeSpec := { name := "fnTeams", fn := fun _ => fun
  | [d1, d2] => { results := [.lit (.bool true)], args := [d1, d2] }
  | _ => none }
def fnTeamsRow : OpenClaim := { program := "ytbfnhhomlpkcnaa", sum := "1a3f003e90931eb276785c925f13b6b879829a484acbb28bd68c686d4dce5731", func := "loop.example/g00912/laws.FnTeams", spec := "fnTeams", recurses := true, apart := false }
def FnTeamsSaid : Prop := fnTeamsRow.holds Try.pinned (OpenSpec.ofChange fnTeamsSpec)

/-- ITS FALSE NEIGHBOUR: 'it returns false'. Refute it at one input. -/
def fnTeamsWrong : ChangeSpec := { name := "fnTeams", fn := fun _ => fun
  | [d1, d2] => { results := [.lit (.bool false)], args := [d1, d2] }
  | _ => none }
def FnTeamsWrongFalsely : Prop := fnTeamsRow.holds Try.pinned (OpenSpec.ofChange fnTeamsWrong)

/-- 'laws.FnFinals': WHATEVER THE INPUT: true; the input reads as it did. -/
def fnFinalsSpec : ChangeSpec := { name := "fnFinals", fn := fun _ => fun
  | [d1, d2] => { results := [.lit (.bool true)], args := [d1, d2] }
  | _ => none }
def fnFinalsRow : OpenClaim := { program := "ytbfnhhomlpkcnaa", sum := "1a3f003e90931eb276785c925f13b6b879829a484acbb28bd68c686d4dce5731", func := "loop.example/g00912/laws.FnFinals", spec := "fnFinals", recurses := true, apart := false }
def FnFinalsSaid : Prop := fnFinalsRow.holds Try.pinned (OpenSpec.ofChange fnFinalsSpec)

/-- ITS FALSE NEIGHBOUR: 'it returns false'. Refute it at one input. -/
def fnFinalsWrong : ChangeSpec := { name := "fnFinals", fn := fun _ => fun
  | [d1, d2] => { results := [.lit (.bool false)], args := [d1, d2] }
  | _ => none }
def FnFinalsWrongFalsely : Prop := fnFinalsRow.holds Try.pinned (OpenSpec.ofChange fnFinalsWrong)

/- THE SECOND FORM. 'bulk': how many values and letters a reading holds, each counted each time it is reached (what is shared counts as often as it is met; a slice's spare places count too). A statement '..UptoSaid' is the law's where the arguments, and the package variables that the reading takes, are together of bulk at most 1048576: NARROWER than '..Said'. Prove '..Said' where nothing that the law and all that it calls make is longer than what came in: it says more and counts as full. Else prove '..UptoSaid'. A law counts once. -/
mutual
def uptoBulk {H : Type} : DataW H → Nat
  | .lit (.string bytes) => bytes.length + 1
  | .lit _ => 1
  | .nil => 1
  | .ptr d => uptoBulk d + 1
  | .slice elems spare => uptoBulkAll elems + uptoBulkAll spare + 1
  | .agg parts => uptoBulkAll parts + 1
  | .iface _ d => uptoBulk d + 1
  | .map entries => uptoBulkEntries entries + 1
  | .held _ => 1
def uptoBulkAll {H : Type} : List (DataW H) → Nat
  | [] => 0
  | d :: r => uptoBulk d + uptoBulkAll r
def uptoBulkEntries {H : Type} : List (Lit × DataW H) → Nat
  | [] => 0
  | x :: r => uptoBulkEntry x + uptoBulkEntries r
def uptoBulkEntry {H : Type} : Lit × DataW H → Nat
  | (.string bytes, d) => bytes.length + uptoBulk d + 1
  | (_, d) => uptoBulk d + 1
 end
def uptoSmall : (H : Type) → List (DataW H) → Bool := fun _ ds => decide (uptoBulkAll ds ≤ 1048576)
def OpenSpec.upto (s : _root_.Go.ChangeSpec) : _root_.Go.OpenSpec := { _root_.Go.OpenSpec.ofChange s with cond := some uptoSmall }

/-- 'laws.FnExactAreFinishes', WHERE WHAT IT READS IS OF BULK AT MOST 1048576: true; the input reads as it did. -/
def fnExactAreFinishesUptoRow : OpenClaim := { program := "ytbfnhhomlpkcnaa", sum := "1a3f003e90931eb276785c925f13b6b879829a484acbb28bd68c686d4dce5731", func := "loop.example/g00912/laws.FnExactAreFinishes", spec := "fnExactAreFinishes", apart := false, narrowed := true }
def FnExactAreFinishesUptoSaid : Prop := fnExactAreFinishesUptoRow.holds Try.pinned (OpenSpec.upto fnExactAreFinishesSpec)

/-- 'laws.FnExactAreDisciplines', WHERE WHAT IT READS IS OF BULK AT MOST 1048576: true; the input reads as it did. -/
def fnExactAreDisciplinesUptoRow : OpenClaim := { program := "ytbfnhhomlpkcnaa", sum := "1a3f003e90931eb276785c925f13b6b879829a484acbb28bd68c686d4dce5731", func := "loop.example/g00912/laws.FnExactAreDisciplines", spec := "fnExactAreDisciplines", apart := false, narrowed := true }
def FnExactAreDisciplinesUptoSaid : Prop := fnExactAreDisciplinesUptoRow.holds Try.pinned (OpenSpec.upto fnExactAreDisciplinesSpec)

/-- 'laws.FnExactDoublePoints', WHERE WHAT IT READS IS OF BULK AT MOST 1048576: true; the input reads as it did. -/
def fnExactDoublePointsUptoRow : OpenClaim := { program := "ytbfnhhomlpkcnaa", sum := "1a3f003e90931eb276785c925f13b6b879829a484acbb28bd68c686d4dce5731", func := "loop.example/g00912/laws.FnExactDoublePoints", spec := "fnExactDoublePoints", apart := false, narrowed := true }
def FnExactDoublePointsUptoSaid : Prop := fnExactDoublePointsUptoRow.holds Try.pinned (OpenSpec.upto fnExactDoublePointsSpec)

/-- 'laws.FnExactMostReach', WHERE WHAT IT READS IS OF BULK AT MOST 1048576: true; the input reads as it did. -/
def fnExactMostReachUptoRow : OpenClaim := { program := "ytbfnhhomlpkcnaa", sum := "1a3f003e90931eb276785c925f13b6b879829a484acbb28bd68c686d4dce5731", func := "loop.example/g00912/laws.FnExactMostReach", spec := "fnExactMostReach", recurses := true, apart := false, narrowed := true }
def FnExactMostReachUptoSaid : Prop := fnExactMostReachUptoRow.holds Try.pinned (OpenSpec.upto fnExactMostReachSpec)

/-- 'laws.FnExactTeamPoints', WHERE WHAT IT READS IS OF BULK AT MOST 1048576: true; the input reads as it did. -/
def fnExactTeamPointsUptoRow : OpenClaim := { program := "ytbfnhhomlpkcnaa", sum := "1a3f003e90931eb276785c925f13b6b879829a484acbb28bd68c686d4dce5731", func := "loop.example/g00912/laws.FnExactTeamPoints", spec := "fnExactTeamPoints", recurses := true, apart := false, narrowed := true }
def FnExactTeamPointsUptoSaid : Prop := fnExactTeamPointsUptoRow.holds Try.pinned (OpenSpec.upto fnExactTeamPointsSpec)

/-- 'laws.FnExactCanStillWin', WHERE WHAT IT READS IS OF BULK AT MOST 1048576: true; the input reads as it did. -/
def fnExactCanStillWinUptoRow : OpenClaim := { program := "ytbfnhhomlpkcnaa", sum := "1a3f003e90931eb276785c925f13b6b879829a484acbb28bd68c686d4dce5731", func := "loop.example/g00912/laws.FnExactCanStillWin", spec := "fnExactCanStillWin", recurses := true, apart := false, narrowed := true }
def FnExactCanStillWinUptoSaid : Prop := fnExactCanStillWinUptoRow.holds Try.pinned (OpenSpec.upto fnExactCanStillWinSpec)

/-- 'laws.FnExactCompareTeams', WHERE WHAT IT READS IS OF BULK AT MOST 1048576: true; the input reads as it did. -/
def fnExactCompareTeamsUptoRow : OpenClaim := { program := "ytbfnhhomlpkcnaa", sum := "1a3f003e90931eb276785c925f13b6b879829a484acbb28bd68c686d4dce5731", func := "loop.example/g00912/laws.FnExactCompareTeams", spec := "fnExactCompareTeams", recurses := true, apart := false, narrowed := true }
def FnExactCompareTeamsUptoSaid : Prop := fnExactCompareTeamsUptoRow.holds Try.pinned (OpenSpec.upto fnExactCompareTeamsSpec)

/-- 'laws.FnExactTeamTotals', WHERE WHAT IT READS IS OF BULK AT MOST 1048576: true; the input reads as it did. -/
def fnExactTeamTotalsUptoRow : OpenClaim := { program := "ytbfnhhomlpkcnaa", sum := "1a3f003e90931eb276785c925f13b6b879829a484acbb28bd68c686d4dce5731", func := "loop.example/g00912/laws.FnExactTeamTotals", spec := "fnExactTeamTotals", recurses := true, apart := false, narrowed := true }
def FnExactTeamTotalsUptoSaid : Prop := fnExactTeamTotalsUptoRow.holds Try.pinned (OpenSpec.upto fnExactTeamTotalsSpec)

/-- 'laws.FnExactTeamPlaces', WHERE WHAT IT READS IS OF BULK AT MOST 1048576: true; the input reads as it did. -/
def fnExactTeamPlacesUptoRow : OpenClaim := { program := "ytbfnhhomlpkcnaa", sum := "1a3f003e90931eb276785c925f13b6b879829a484acbb28bd68c686d4dce5731", func := "loop.example/g00912/laws.FnExactTeamPlaces", spec := "fnExactTeamPlaces", recurses := true, apart := false, narrowed := true }
def FnExactTeamPlacesUptoSaid : Prop := fnExactTeamPlacesUptoRow.holds Try.pinned (OpenSpec.upto fnExactTeamPlacesSpec)

/-- 'laws.FnExactFinalTeams', WHERE WHAT IT READS IS OF BULK AT MOST 1048576: true; the input reads as it did. -/
def fnExactFinalTeamsUptoRow : OpenClaim := { program := "ytbfnhhomlpkcnaa", sum := "1a3f003e90931eb276785c925f13b6b879829a484acbb28bd68c686d4dce5731", func := "loop.example/g00912/laws.FnExactFinalTeams", spec := "fnExactFinalTeams", recurses := true, apart := false, narrowed := true }
def FnExactFinalTeamsUptoSaid : Prop := fnExactFinalTeamsUptoRow.holds Try.pinned (OpenSpec.upto fnExactFinalTeamsSpec)

/-- 'laws.FnTeams', WHERE WHAT IT READS IS OF BULK AT MOST 1048576: true; the input reads as it did. -/
def fnTeamsUptoRow : OpenClaim := { program := "ytbfnhhomlpkcnaa", sum := "1a3f003e90931eb276785c925f13b6b879829a484acbb28bd68c686d4dce5731", func := "loop.example/g00912/laws.FnTeams", spec := "fnTeams", recurses := true, apart := false, narrowed := true }
def FnTeamsUptoSaid : Prop := fnTeamsUptoRow.holds Try.pinned (OpenSpec.upto fnTeamsSpec)

/-- 'laws.FnFinals', WHERE WHAT IT READS IS OF BULK AT MOST 1048576: true; the input reads as it did. -/
def fnFinalsUptoRow : OpenClaim := { program := "ytbfnhhomlpkcnaa", sum := "1a3f003e90931eb276785c925f13b6b879829a484acbb28bd68c686d4dce5731", func := "loop.example/g00912/laws.FnFinals", spec := "fnFinals", recurses := true, apart := false, narrowed := true }
def FnFinalsUptoSaid : Prop := fnFinalsUptoRow.holds Try.pinned (OpenSpec.upto fnFinalsSpec)

end Rows
end Go.Proofs.Ytbfnhhomlpkcnaa
