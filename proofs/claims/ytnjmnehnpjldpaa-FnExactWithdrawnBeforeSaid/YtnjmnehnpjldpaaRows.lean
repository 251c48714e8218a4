/-
  No cell of these rows narrows 'for every input' (looked for: loops, veiled, ifaces, maps, wideKeys, modest, calm, conditions, laid).
  DERIVED. THE GIVEN ROWS OF THIS SEAT. 7 by the template 'for every input the law returns true; each argument reads behind the call as it read before'; 0 by the template 'total and deterministic' (their statements: YtnjmnehnpjldpaaTotals.lean).
  GIVEN WITH THE SEED: the statements are not yours to turn. If you find one false, say at which input.
  Laid BY PROGRAM, IN A SANDBOX (cutbox-rows.mjs): the forced cells as the released guide's own fill.sh prints them over the translation 96a61e963e9e5c5f… (all of the seat's roots in one cut). By AI agents, Wed Nov 11 2026. No macro, syntax, notation, axiom, sorry.
-/
import Derived.Test.YtnjmnehnpjldpaaChecked
import GoSem.Claim
import GoSem.ClaimJoined
import GoSem.ClaimMapViews
import Derived.JoinedTies
import Derived.KernelRfl
namespace Go.Proofs.Ytnjmnehnpjldpaa
/- THE CELL 'sum', in the pinned program and in every row, IS THE sha256 OF THE DUMP (.gsa) THAT YtnjmnehnpjldpaaProg.lean LOADS. Nothing in Lean hashes anything: it is a label: what it is worth is what the hold of that sum in a sandbox is worth. -/
noncomputable def Try.pinned : Pinned := { name := "ytnjmnehnpjldpaa", sum := "96a61e963e9e5c5fb4a9839bdd6054942e51e0989f274342ce374675f25410a2", checked := Try.checked }
namespace Rows
def none {H : Type} : Left H := { results := [], args := [] }

/-- 'laws.FnExactAreClubs': WHATEVER THE INPUT: true; the input reads as it did. -/
def fnExactAreClubsSpec : ChangeSpec := { name := "fnExactAreClubs", fn := fun _ => fun
  | [d1, d2] => { results := [.lit (.bool true)], args := [d1, d2] }
  | _ => none }
def fnExactAreClubsRow : OpenClaim := { program := "ytnjmnehnpjldpaa", sum := "96a61e963e9e5c5fb4a9839bdd6054942e51e0989f274342ce374675f25410a2", func := "loop.example/g00912/laws.FnExactAreClubs", spec := "fnExactAreClubs", apart := false }
def FnExactAreClubsSaid : Prop := fnExactAreClubsRow.holds Try.pinned (OpenSpec.ofChange fnExactAreClubsSpec)

/-- ITS FALSE NEIGHBOUR: 'it returns false'. Refute it at one input. -/
def fnExactAreClubsWrong : ChangeSpec := { name := "fnExactAreClubs", fn := fun _ => fun
  | [d1, d2] => { results := [.lit (.bool false)], args := [d1, d2] }
  | _ => none }
def FnExactAreClubsWrongFalsely : Prop := fnExactAreClubsRow.holds Try.pinned (OpenSpec.ofChange fnExactAreClubsWrong)

/-- 'laws.FnExactWithdrawnBefore': WHATEVER THE INPUT: true; the input reads as it did. -/
def fnExactWithdrawnBeforeSpec : ChangeSpec := { name := "fnExactWithdrawnBefore", fn := fun _ => fun
  | [d1, d2] => { results := [.lit (.bool true)], args := [d1, d2] }
  | _ => none }
def fnExactWithdrawnBeforeRow : OpenClaim := { program := "ytnjmnehnpjldpaa", sum := "96a61e963e9e5c5fb4a9839bdd6054942e51e0989f274342ce374675f25410a2", func := "loop.example/g00912/laws.FnExactWithdrawnBefore", spec := "fnExactWithdrawnBefore", unfollowed := true, recurses := true, apart := false }
def FnExactWithdrawnBeforeSaid : Prop := fnExactWithdrawnBeforeRow.holds Try.pinned (OpenSpec.ofChange fnExactWithdrawnBeforeSpec)

/-- ITS FALSE NEIGHBOUR: 'it returns false'. Refute it at one input. -/
def fnExactWithdrawnBeforeWrong : ChangeSpec := { name := "fnExactWithdrawnBefore", fn := fun _ => fun
  | [d1, d2] => { results := [.lit (.bool false)], args := [d1, d2] }
  | _ => none }
def FnExactWithdrawnBeforeWrongFalsely : Prop := fnExactWithdrawnBeforeRow.holds Try.pinned (OpenSpec.ofChange fnExactWithdrawnBeforeWrong)

/-- 'laws.FnExactDirectAndRest': WHATEVER THE INPUT: true; the input reads as it did. -/
def fnExactDirectAndRestSpec : ChangeSpec := { name := "fnExactDirectAndRest", fn := fun _ => fun
  | [d1, d2, d3] => { results := [.lit (.bool true)], args := [d1, d2, d3] }
  | _ => none }
def fnExactDirectAndRestRow : OpenClaim := { program := "ytnjmnehnpjldpaa", sum := "96a61e963e9e5c5fb4a9839bdd6054942e51e0989f274342ce374675f25410a2", func := "loop.example/g00912/laws.FnExactDirectAndRest", spec := "fnExactDirectAndRest", unfollowed := true, recurses := true, apart := false }
def FnExactDirectAndRestSaid : Prop := fnExactDirectAndRestRow.holds Try.pinned (OpenSpec.ofChange fnExactDirectAndRestSpec)

/-- ITS FALSE NEIGHBOUR: 'it returns false'. Refute it at one input. -/
def fnExactDirectAndRestWrong : ChangeSpec := { name := "fnExactDirectAndRest", fn := fun _ => fun
  | [d1, d2, d3] => { results := [.lit (.bool false)], args := [d1, d2, d3] }
  | _ => none }
def FnExactDirectAndRestWrongFalsely : Prop := fnExactDirectAndRestRow.holds Try.pinned (OpenSpec.ofChange fnExactDirectAndRestWrong)

/-- 'laws.FnExactQualifiedFor': WHATEVER THE INPUT: true; the input reads as it did. -/
def fnExactQualifiedForSpec : ChangeSpec := { name := "fnExactQualifiedFor", fn := fun _ => fun
  | [d1, d2] => { results := [.lit (.bool true)], args := [d1, d2] }
  | _ => none }
def fnExactQualifiedForRow : OpenClaim := { program := "ytnjmnehnpjldpaa", sum := "96a61e963e9e5c5fb4a9839bdd6054942e51e0989f274342ce374675f25410a2", func := "loop.example/g00912/laws.FnExactQualifiedFor", spec := "fnExactQualifiedFor", unfollowed := true, recurses := true, apart := false }
def FnExactQualifiedForSaid : Prop := fnExactQualifiedForRow.holds Try.pinned (OpenSpec.ofChange fnExactQualifiedForSpec)

/-- ITS FALSE NEIGHBOUR: 'it returns false'. Refute it at one input. -/
def fnExactQualifiedForWrong : ChangeSpec := { name := "fnExactQualifiedFor", fn := fun _ => fun
  | [d1, d2] => { results := [.lit (.bool false)], args := [d1, d2] }
  | _ => none }
def FnExactQualifiedForWrongFalsely : Prop := fnExactQualifiedForRow.holds Try.pinned (OpenSpec.ofChange fnExactQualifiedForWrong)

/-- 'laws.FnExactEdgeOf': WHATEVER THE INPUT: true; the input reads as it did. -/
def fnExactEdgeOfSpec : ChangeSpec := { name := "fnExactEdgeOf", fn := fun _ => fun
  | [d1, d2] => { results := [.lit (.bool true)], args := [d1, d2] }
  | _ => none }
def fnExactEdgeOfRow : OpenClaim := { program := "ytnjmnehnpjldpaa", sum := "96a61e963e9e5c5fb4a9839bdd6054942e51e0989f274342ce374675f25410a2", func := "loop.example/g00912/laws.FnExactEdgeOf", spec := "fnExactEdgeOf", unfollowed := true, recurses := true, apart := false }
def FnExactEdgeOfSaid : Prop := fnExactEdgeOfRow.holds Try.pinned (OpenSpec.ofChange fnExactEdgeOfSpec)

/-- ITS FALSE NEIGHBOUR: 'it returns false'. Refute it at one input. -/
def fnExactEdgeOfWrong : ChangeSpec := { name := "fnExactEdgeOf", fn := fun _ => fun
  | [d1, d2] => { results := [.lit (.bool false)], args := [d1, d2] }
  | _ => none }
def FnExactEdgeOfWrongFalsely : Prop := fnExactEdgeOfRow.holds Try.pinned (OpenSpec.ofChange fnExactEdgeOfWrong)

/-- 'laws.FnExactReservesOf': WHATEVER THE INPUT: true; the input reads as it did. -/
def fnExactReservesOfSpec : ChangeSpec := { name := "fnExactReservesOf", fn := fun _ => fun
  | [d1, d2, d3, d4] => { results := [.lit (.bool true)], args := [d1, d2, d3, d4] }
  | _ => none }
def fnExactReservesOfRow : OpenClaim := { program := "ytnjmnehnpjldpaa", sum := "96a61e963e9e5c5fb4a9839bdd6054942e51e0989f274342ce374675f25410a2", func := "loop.example/g00912/laws.FnExactReservesOf", spec := "fnExactReservesOf", unfollowed := true, recurses := true, apart := false }
def FnExactReservesOfSaid : Prop := fnExactReservesOfRow.holds Try.pinned (OpenSpec.ofChange fnExactReservesOfSpec)

/-- ITS FALSE NEIGHBOUR: 'it returns false'. Refute it at one input. -/
def fnExactReservesOfWrong : ChangeSpec := { name := "fnExactReservesOf", fn := fun _ => fun
  | [d1, d2, d3, d4] => { results := [.lit (.bool false)], args := [d1, d2, d3, d4] }
  | _ => none }
def FnExactReservesOfWrongFalsely : Prop := fnExactReservesOfRow.holds Try.pinned (OpenSpec.ofChange fnExactReservesOfWrong)

/-- 'laws.FnExactWithQuota': WHATEVER THE INPUT: true; the input reads as it did. -/
def fnExactWithQuotaSpec : ChangeSpec := { name := "fnExactWithQuota", fn := fun _ => fun
  | [d1, d2, d3, d4] => { results := [.lit (.bool true)], args := [d1, d2, d3, d4] }
  | _ => none }
def fnExactWithQuotaRow : OpenClaim := { program := "ytnjmnehnpjldpaa", sum := "96a61e963e9e5c5fb4a9839bdd6054942e51e0989f274342ce374675f25410a2", func := "loop.example/g00912/laws.FnExactWithQuota", spec := "fnExactWithQuota", unfollowed := true, recurses := true, apart := false }
def FnExactWithQuotaSaid : Prop := fnExactWithQuotaRow.holds Try.pinned (OpenSpec.ofChange fnExactWithQuotaSpec)

/-- ITS FALSE NEIGHBOUR: 'it returns false'. Refute it at one input. -/
def fnExactWithQuotaWrong : ChangeSpec := { name := "fnExactWithQuota", fn := fun _ => fun
  | [d1, d2, d3, d4] => { results := [.lit (.bool false)], args := [d1, d2, d3, d4] }
  | _ => none }
def FnExactWithQuotaWrongFalsely : Prop := fnExactWithQuotaRow.holds Try.pinned (OpenSpec.ofChange fnExactWithQuotaWrong)

/- THE SECOND FORM. 'bulk': how many values and letters a reading holds, each counted each time it is reached (what is shared counts as often as it is met; a slice's spare places count too). A statement '..UptoSaid' is the law's where the arguments, and the package variables that the reading takes, are together of bulk at most 1048576: NARROWER than '..Said'. Prove '..Said' where nothing that the law and all that it calls make is longer than what came in: it says more and counts as full. Else prove '..UptoSaid'. A law counts once. -/
mutual
def uptoBulk {H : Type} : DataW H → Nat
  | .lit (.string bytes) => bytes.length + 1
  | .lit _ => 1
  | .nil => 1
  | .ptr d => uptoBulk d + 1
  | .slice elems spare => uptoBulkAll elems + uptoBulkAll spare + 1
  | .agg parts => uptoBulkAll parts + 1
  | .iface _ d => uptoBulk d + 1
  | .map entries => uptoBulkEntries entries + 1
  | .held _ => 1
def uptoBulkAll {H : Type} : List (DataW H) → Nat
  | [] => 0
  | d :: r => uptoBulk d + uptoBulkAll r
def uptoBulkEntries {H : Type} : List (Lit × DataW H) → Nat
  | [] => 0
  | x :: r => uptoBulkEntry x + uptoBulkEntries r
def uptoBulkEntry {H : Type} : Lit × DataW H → Nat
  | (.string bytes, d) => bytes.length + uptoBulk d + 1
  | (_, d) => uptoBulk d + 1
 end
def uptoSmall : (H : Type) → List (DataW H) → Bool := fun _ ds => decide (uptoBulkAll ds ≤ 1048576)
def OpenSpec.upto (s : _root_.Go.ChangeSpec) : _root_.Go.OpenSpec := { _root_.Go.OpenSpec.ofChange s with cond := some uptoSmall }

/-- 'laws.FnExactAreClubs', WHERE WHAT IT READS IS OF BULK AT MOST 1048576: true; the input reads as it did. -/
def fnExactAreClubsUptoRow : OpenClaim := { program := "ytnjmnehnpjldpaa", sum := "96a61e963e9e5c5fb4a9839bdd6054942e51e0989f274342ce374675f25410a2", func := "loop.example/g00912/laws.FnExactAreClubs", spec := "fnExactAreClubs", apart := false, narrowed := true }
def FnExactAreClubsUptoSaid : Prop := fnExactAreClubsUptoRow.holds Try.pinned (OpenSpec.upto fnExactAreClubsSpec)

/-- 'laws.FnExactWithdrawnBefore', WHERE WHAT IT READS IS OF BULK AT MOST 1048576: true; the input reads as it did. -/
def fnExactWithdrawnBeforeUptoRow : OpenClaim := { program := "ytnjmnehnpjldpaa", sum := "96a61e963e9e5c5fb4a9839bdd6054942e51e0989f274342ce374675f25410a2", func := "loop.example/g00912/laws.FnExactWithdrawnBefore", spec := "fnExactWithdrawnBefore", unfollowed := true, recurses := true, apart := false, narrowed := true }
def FnExactWithdrawnBeforeUptoSaid : Prop := fnExactWithdrawnBeforeUptoRow.holds Try.pinned (OpenSpec.upto fnExactWithdrawnBeforeSpec)

/-- 'laws.FnExactDirectAndRest', WHERE WHAT IT READS IS OF BULK AT MOST 1048576: true; the input reads as it did. -/
def fnExactDirectAndRestUptoRow : OpenClaim := { program := "ytnjmnehnpjldpaa", sum := "96a61e963e9e5c5fb4a9839bdd6054942e51e0989f274342ce374675f25410a2", func := "loop.example/g00912/laws.FnExactDirectAndRest", spec := "fnExactDirectAndRest", unfollowed := true, recurses := true, apart := false, narrowed := true }
def FnExactDirectAndRestUptoSaid : Prop := fnExactDirectAndRestUptoRow.holds Try.pinned (OpenSpec.upto fnExactDirectAndRestSpec)

/-- 'laws.FnExactQualifiedFor', WHERE WHAT IT READS IS OF BULK AT MOST 1048576: true; the input reads as it did. -/
def fnExactQualifiedForUptoRow : OpenClaim := { program := "ytnjmnehnpjldpaa", sum := "96a61e963e9e5c5fb4a9839bdd6054942e51e0989f274342ce374675f25410a2", func := "loop.example/g00912/laws.FnExactQualifiedFor", spec := "fnExactQualifiedFor", unfollowed := true, recurses := true, apart := false, narrowed := true }
def FnExactQualifiedForUptoSaid : Prop := fnExactQualifiedForUptoRow.holds Try.pinned (OpenSpec.upto fnExactQualifiedForSpec)

/-- 'laws.FnExactEdgeOf', WHERE WHAT IT READS IS OF BULK AT MOST 1048576: true; the input reads as it did. -/
def fnExactEdgeOfUptoRow : OpenClaim := { program := "ytnjmnehnpjldpaa", sum := "96a61e963e9e5c5fb4a9839bdd6054942e51e0989f274342ce374675f25410a2", func := "loop.example/g00912/laws.FnExactEdgeOf", spec := "fnExactEdgeOf", unfollowed := true, recurses := true, apart := false, narrowed := true }
def FnExactEdgeOfUptoSaid : Prop := fnExactEdgeOfUptoRow.holds Try.pinned (OpenSpec.upto fnExactEdgeOfSpec)

/-- 'laws.FnExactReservesOf', WHERE WHAT IT READS IS OF BULK AT MOST 1048576: true; the input reads as it did. -/
def fnExactReservesOfUptoRow : OpenClaim := { program := "ytnjmnehnpjldpaa", sum := "96a61e963e9e5c5fb4a9839bdd6054942e51e0989f274342ce374675f25410a2", func := "loop.example/g00912/laws.FnExactReservesOf", spec := "fnExactReservesOf", unfollowed := true, recurses := true, apart := false, narrowed := true }
def FnExactReservesOfUptoSaid : Prop := fnExactReservesOfUptoRow.holds Try.pinned (OpenSpec.upto fnExactReservesOfSpec)

/-- 'laws.FnExactWithQuota', WHERE WHAT IT READS IS OF BULK AT MOST 1048576: true; the input reads as it did. -/
def fnExactWithQuotaUptoRow : OpenClaim := { program := "ytnjmnehnpjldpaa", sum := "96a61e963e9e5c5fb4a9839bdd6054942e51e0989f274342ce374675f25410a2", func := "loop.example/g00912/laws.FnExactWithQuota", spec := "fnExactWithQuota", unfollowed := true, recurses := true, apart := false, narrowed := true }
def FnExactWithQuotaUptoSaid : Prop := fnExactWithQuotaUptoRow.holds Try.pinned (OpenSpec.upto fnExactWithQuotaSpec)

end Rows
end Go.Proofs.Ytnjmnehnpjldpaa
