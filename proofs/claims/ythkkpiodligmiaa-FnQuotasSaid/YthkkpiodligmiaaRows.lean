/-
  No cell of these rows narrows 'for every input' (looked for: loops, veiled, ifaces, maps, wideKeys, modest, calm, conditions, laid).
  DERIVED. THE GIVEN ROWS OF THIS SEAT. 4 by the template 'for every input the law returns true; each argument reads behind the call as it read before'; 0 by the template 'total and deterministic' (their statements: YthkkpiodligmiaaTotals.lean).
  GIVEN WITH THE SEED: the statements are not yours to turn. If you find one false, say at which input.
  Laid BY PROGRAM, IN A SANDBOX (cutbox-rows.mjs): the forced cells as the released guide's own fill.sh prints them over the translation 58e94d33d640dcc7… (all of the seat's roots in one cut). By AI agents, Wed Nov 11 2026. No macro, syntax, notation, axiom, sorry.
-/
import Derived.Test.YthkkpiodligmiaaChecked
import GoSem.Claim
import GoSem.ClaimJoined
import GoSem.ClaimMapViews
import Derived.JoinedTies
import Derived.KernelRfl
namespace Go.Proofs.Ythkkpiodligmiaa
/- THE CELL 'sum', in the pinned program and in every row, IS THE sha256 OF THE DUMP (.gsa) THAT YthkkpiodligmiaaProg.lean LOADS. Nothing in Lean hashes anything: it is a label: what it is worth is what the hold of that sum in a sandbox is worth. -/
noncomputable def Try.pinned : Pinned := { name := "ythkkpiodligmiaa", sum := "58e94d33d640dcc7dd53e779871da2456f10eb31dae9fe5241d07e92fe3e26cf", checked := Try.checked }
namespace Rows
def none {H : Type} : Left H := { results := [], args := [] }

/-- 'laws.FnRanked': WHATEVER THE INPUT: true; the input reads as it did. -/
def fnRankedSpec : ChangeSpec := { name := "fnRanked", fn := fun _ => fun
  | [d1, d2] => { results := [.lit (.bool true)], args := [d1, d2] }
  | _ => none }
def fnRankedRow : OpenClaim := { program := "ythkkpiodligmiaa", sum := "58e94d33d640dcc7dd53e779871da2456f10eb31dae9fe5241d07e92fe3e26cf", func := "loop.example/g00912/laws.FnRanked", spec := "fnRanked", unfollowed := true, recurses := true, apart := false }
def FnRankedSaid : Prop := fnRankedRow.holds Try.pinned (OpenSpec.ofChange fnRankedSpec)

/-- ITS FALSE NEIGHBOUR: 'it returns false'. Refute it at one input. -/
def fnRankedWrong : ChangeSpec := { name := "fnRanked", fn := fun _ => fun
  | [d1, d2] => { results := [.lit (.bool false)], args := [d1, d2] }
  | _ => none }
def FnRankedWrongFalsely : Prop := fnRankedRow.holds Try.pinned (OpenSpec.ofChange fnRankedWrong)

/-- 'laws.FnNeeded': WHATEVER THE INPUT: true; the input reads as it did. -/
def fnNeededSpec : ChangeSpec := { name := "fnNeeded", fn := fun _ => fun
  | [d1, d2] => { results := [.lit (.bool true)], args := [d1, d2] }
  | _ => none }
def fnNeededRow : OpenClaim := { program := "ythkkpiodligmiaa", sum := "58e94d33d640dcc7dd53e779871da2456f10eb31dae9fe5241d07e92fe3e26cf", func := "loop.example/g00912/laws.FnNeeded", spec := "fnNeeded", apart := false }
def FnNeededSaid : Prop := fnNeededRow.holds Try.pinned (OpenSpec.ofChange fnNeededSpec)

/-- ITS FALSE NEIGHBOUR: 'it returns false'. Refute it at one input. -/
def fnNeededWrong : ChangeSpec := { name := "fnNeeded", fn := fun _ => fun
  | [d1, d2] => { results := [.lit (.bool false)], args := [d1, d2] }
  | _ => none }
def FnNeededWrongFalsely : Prop := fnNeededRow.holds Try.pinned (OpenSpec.ofChange fnNeededWrong)

/-- 'laws.FnQualified': WHATEVER THE INPUT: true; the input reads as it did. -/
def fnQualifiedSpec : ChangeSpec := { name := "fnQualified", fn := fun _ => fun
  | [d1, d2] => { results := [.lit (.bool true)], args := [d1, d2] }
  | _ => none }
def fnQualifiedRow : OpenClaim := { program := "ythkkpiodligmiaa", sum := "58e94d33d640dcc7dd53e779871da2456f10eb31dae9fe5241d07e92fe3e26cf", func := "loop.example/g00912/laws.FnQualified", spec := "fnQualified", unfollowed := true, recurses := true, apart := false }
def FnQualifiedSaid : Prop := fnQualifiedRow.holds Try.pinned (OpenSpec.ofChange fnQualifiedSpec)

/-- ITS FALSE NEIGHBOUR: 'it returns false'. Refute it at one input. -/
def fnQualifiedWrong : ChangeSpec := { name := "fnQualified", fn := fun _ => fun
  | [d1, d2] => { results := [.lit (.bool false)], args := [d1, d2] }
  | _ => none }
def FnQualifiedWrongFalsely : Prop := fnQualifiedRow.holds Try.pinned (OpenSpec.ofChange fnQualifiedWrong)

/-- 'laws.FnQuotas': WHATEVER THE INPUT: true; the input reads as it did. -/
def fnQuotasSpec : ChangeSpec := { name := "fnQuotas", fn := fun _ => fun
  | [d1, d2] => { results := [.lit (.bool true)], args := [d1, d2] }
  | _ => none }
def fnQuotasRow : OpenClaim := { program := "ythkkpiodligmiaa", sum := "58e94d33d640dcc7dd53e779871da2456f10eb31dae9fe5241d07e92fe3e26cf", func := "loop.example/g00912/laws.FnQuotas", spec := "fnQuotas", unfollowed := true, recurses := true, apart := false }
def FnQuotasSaid : Prop := fnQuotasRow.holds Try.pinned (OpenSpec.ofChange fnQuotasSpec)

/-- ITS FALSE NEIGHBOUR: 'it returns false'. Refute it at one input. -/
def fnQuotasWrong : ChangeSpec := { name := "fnQuotas", fn := fun _ => fun
  | [d1, d2] => { results := [.lit (.bool false)], args := [d1, d2] }
  | _ => none }
def FnQuotasWrongFalsely : Prop := fnQuotasRow.holds Try.pinned (OpenSpec.ofChange fnQuotasWrong)

/- THE SECOND FORM. 'bulk': how many values and letters a reading holds, each counted each time it is reached (what is shared counts as often as it is met; a slice's spare places count too). A statement '..UptoSaid' is the law's where the arguments, and the package variables that the reading takes, are together of bulk at most 1048576: NARROWER than '..Said'. Prove '..Said' where nothing that the law and all that it calls make is longer than what came in: it says more and counts as full. Else prove '..UptoSaid'. A law counts once. -/
mutual
def uptoBulk {H : Type} : DataW H → Nat
  | .lit (.string bytes) => bytes.length + 1
  | .lit _ => 1
  | .nil => 1
  | .ptr d => uptoBulk d + 1
  | .slice elems spare => uptoBulkAll elems + uptoBulkAll spare + 1
  | .agg parts => uptoBulkAll parts + 1
  | .iface _ d => uptoBulk d + 1
  | .map entries => uptoBulkEntries entries + 1
  | .held _ => 1
def uptoBulkAll {H : Type} : List (DataW H) → Nat
  | [] => 0
  | d :: r => uptoBulk d + uptoBulkAll r
def uptoBulkEntries {H : Type} : List (Lit × DataW H) → Nat
  | [] => 0
  | x :: r => uptoBulkEntry x + uptoBulkEntries r
def uptoBulkEntry {H : Type} : Lit × DataW H → Nat
  | (.string bytes, d) => bytes.length + uptoBulk d + 1
  | (_, d) => uptoBulk d + 1
 end
def uptoSmall : (H : Type) → List (DataW H) → Bool := fun _ ds => decide (uptoBulkAll ds ≤ 1048576)
def OpenSpec.upto (s : _root_.Go.ChangeSpec) : _root_.Go.OpenSpec := { _root_.Go.OpenSpec.ofChange s with cond := some uptoSmall }

/-- 'laws.FnRanked', WHERE WHAT IT READS IS OF BULK AT MOST 1048576: true; the input reads as it did. -/
def fnRankedUptoRow : OpenClaim := { program := "ythkkpiodligmiaa", sum := "58e94d33d640dcc7dd53e779871da2456f10eb31dae9fe5241d07e92fe3e26cf", func := "loop.example/g00912/laws.FnRanked", spec := "fnRanked", unfollowed := true, recurses := true, apart := false, narrowed := true }
def FnRankedUptoSaid : Prop := fnRankedUptoRow.holds Try.pinned (OpenSpec.upto fnRankedSpec)

/-- 'laws.FnNeeded', WHERE WHAT IT READS IS OF BULK AT MOST 1048576: true; the input reads as it did. -/
def fnNeededUptoRow : OpenClaim := { program := "ythkkpiodligmiaa", sum := "58e94d33d640dcc7dd53e779871da2456f10eb31dae9fe5241d07e92fe3e26cf", func := "loop.example/g00912/laws.FnNeeded", spec := "fnNeeded", apart := false, narrowed := true }
def FnNeededUptoSaid : Prop := fnNeededUptoRow.holds Try.pinned (OpenSpec.upto fnNeededSpec)

/-- 'laws.FnQualified', WHERE WHAT IT READS IS OF BULK AT MOST 1048576: true; the input reads as it did. -/
def fnQualifiedUptoRow : OpenClaim := { program := "ythkkpiodligmiaa", sum := "58e94d33d640dcc7dd53e779871da2456f10eb31dae9fe5241d07e92fe3e26cf", func := "loop.example/g00912/laws.FnQualified", spec := "fnQualified", unfollowed := true, recurses := true, apart := false, narrowed := true }
def FnQualifiedUptoSaid : Prop := fnQualifiedUptoRow.holds Try.pinned (OpenSpec.upto fnQualifiedSpec)

/-- 'laws.FnQuotas', WHERE WHAT IT READS IS OF BULK AT MOST 1048576: true; the input reads as it did. -/
def fnQuotasUptoRow : OpenClaim := { program := "ythkkpiodligmiaa", sum := "58e94d33d640dcc7dd53e779871da2456f10eb31dae9fe5241d07e92fe3e26cf", func := "loop.example/g00912/laws.FnQuotas", spec := "fnQuotas", unfollowed := true, recurses := true, apart := false, narrowed := true }
def FnQuotasUptoSaid : Prop := fnQuotasUptoRow.holds Try.pinned (OpenSpec.upto fnQuotasSpec)

end Rows
end Go.Proofs.Ythkkpiodligmiaa
