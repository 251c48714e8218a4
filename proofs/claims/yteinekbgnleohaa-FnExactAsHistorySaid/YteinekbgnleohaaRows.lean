/-
  No cell of these rows narrows 'for every input' (looked for: loops, veiled, ifaces, maps, wideKeys, modest, calm, conditions, laid).
  DERIVED. THE GIVEN ROWS OF THIS SEAT. 3 by the template 'for every input the law returns true; each argument reads behind the call as it read before'; 0 by the template 'total and deterministic' (their statements: YteinekbgnleohaaTotals.lean).
  GIVEN WITH THE SEED: the statements are not yours to turn. If you find one false, say at which input.
  Laid BY PROGRAM, IN A SANDBOX (cutbox-rows.mjs): the forced cells as the released guide's own fill.sh prints them over the translation 2e4becac8a9094f3… (all of the seat's roots in one cut). By AI agents, Wed Nov 11 2026. No macro, syntax, notation, axiom, sorry.
-/
import Derived.Test.YteinekbgnleohaaChecked
import GoSem.Claim
import GoSem.ClaimJoined
import GoSem.ClaimMapViews
import Derived.JoinedTies
import Derived.KernelRfl
namespace Go.Proofs.Yteinekbgnleohaa
/- THE CELL 'sum', in the pinned program and in every row, IS THE sha256 OF THE DUMP (.gsa) THAT YteinekbgnleohaaProg.lean LOADS. Nothing in Lean hashes anything: it is a label: what it is worth is what the hold of that sum in a sandbox is worth. -/
noncomputable def Try.pinned : Pinned := { name := "yteinekbgnleohaa", sum := "2e4becac8a9094f3237060a20928396dc9beddcc3fb17790d38f6cb0433b8370", checked := Try.checked }
namespace Rows
def none {H : Type} : Left H := { results := [], args := [] }

/-- 'laws.FnExactAreInquiries': WHATEVER THE INPUT: true; the input reads as it did. -/
def fnExactAreInquiriesSpec : ChangeSpec := { name := "fnExactAreInquiries", fn := fun _ => fun
  | [d1, d2] => { results := [.lit (.bool true)], args := [d1, d2] }
  | _ => none }
def fnExactAreInquiriesRow : OpenClaim := { program := "yteinekbgnleohaa", sum := "2e4becac8a9094f3237060a20928396dc9beddcc3fb17790d38f6cb0433b8370", func := "loop.example/g00912/laws.FnExactAreInquiries", spec := "fnExactAreInquiries", apart := false }
def FnExactAreInquiriesSaid : Prop := fnExactAreInquiriesRow.holds Try.pinned (OpenSpec.ofChange fnExactAreInquiriesSpec)

/-- ITS FALSE NEIGHBOUR: 'it returns false'. Refute it at one input. -/
def fnExactAreInquiriesWrong : ChangeSpec := { name := "fnExactAreInquiries", fn := fun _ => fun
  | [d1, d2] => { results := [.lit (.bool false)], args := [d1, d2] }
  | _ => none }
def FnExactAreInquiriesWrongFalsely : Prop := fnExactAreInquiriesRow.holds Try.pinned (OpenSpec.ofChange fnExactAreInquiriesWrong)

/-- 'laws.FnExactItemsAfter': WHATEVER THE INPUT: true; the input reads as it did. -/
def fnExactItemsAfterSpec : ChangeSpec := { name := "fnExactItemsAfter", fn := fun _ => fun
  | [d1, d2] => { results := [.lit (.bool true)], args := [d1, d2] }
  | _ => none }
def fnExactItemsAfterRow : OpenClaim := { program := "yteinekbgnleohaa", sum := "2e4becac8a9094f3237060a20928396dc9beddcc3fb17790d38f6cb0433b8370", func := "loop.example/g00912/laws.FnExactItemsAfter", spec := "fnExactItemsAfter", apart := false }
def FnExactItemsAfterSaid : Prop := fnExactItemsAfterRow.holds Try.pinned (OpenSpec.ofChange fnExactItemsAfterSpec)

/-- ITS FALSE NEIGHBOUR: 'it returns false'. Refute it at one input. -/
def fnExactItemsAfterWrong : ChangeSpec := { name := "fnExactItemsAfter", fn := fun _ => fun
  | [d1, d2] => { results := [.lit (.bool false)], args := [d1, d2] }
  | _ => none }
def FnExactItemsAfterWrongFalsely : Prop := fnExactItemsAfterRow.holds Try.pinned (OpenSpec.ofChange fnExactItemsAfterWrong)

/-- 'laws.FnExactAsHistory': WHATEVER THE INPUT: true; the input reads as it did. -/
def fnExactAsHistorySpec : ChangeSpec := { name := "fnExactAsHistory", fn := fun _ => fun
  | [d1, d2] => { results := [.lit (.bool true)], args := [d1, d2] }
  | _ => none }
def fnExactAsHistoryRow : OpenClaim := { program := "yteinekbgnleohaa", sum := "2e4becac8a9094f3237060a20928396dc9beddcc3fb17790d38f6cb0433b8370", func := "loop.example/g00912/laws.FnExactAsHistory", spec := "fnExactAsHistory", apart := false }
def FnExactAsHistorySaid : Prop := fnExactAsHistoryRow.holds Try.pinned (OpenSpec.ofChange fnExactAsHistorySpec)

/-- ITS FALSE NEIGHBOUR: 'it returns false'. Refute it at one input. -/
def fnExactAsHistoryWrong : ChangeSpec := { name := "fnExactAsHistory", fn := fun _ => fun
  | [d1, d2] => { results := [.lit (.bool false)], args := [d1, d2] }
  | _ => none }
def FnExactAsHistoryWrongFalsely : Prop := fnExactAsHistoryRow.holds Try.pinned (OpenSpec.ofChange fnExactAsHistoryWrong)

/- THE SECOND FORM. 'bulk': how many values and letters a reading holds, each counted each time it is reached (what is shared counts as often as it is met; a slice's spare places count too). A statement '..UptoSaid' is the law's where the arguments, and the package variables that the reading takes, are together of bulk at most 1048576: NARROWER than '..Said'. Prove '..Said' where nothing that the law and all that it calls make is longer than what came in: it says more and counts as full. Else prove '..UptoSaid'. A law counts once. -/
mutual
def uptoBulk {H : Type} : DataW H → Nat
  | .lit (.string bytes) => bytes.length + 1
  | .lit _ => 1
  | .nil => 1
  | .ptr d => uptoBulk d + 1
  | .slice elems spare => uptoBulkAll elems + uptoBulkAll spare + 1
  | .agg parts => uptoBulkAll parts + 1
  | .iface _ d => uptoBulk d + 1
  | .map entries => uptoBulkEntries entries + 1
  | .held _ => 1
def uptoBulkAll {H : Type} : List (DataW H) → Nat
  | [] => 0
  | d :: r => uptoBulk d + uptoBulkAll r
def uptoBulkEntries {H : Type} : List (Lit × DataW H) → Nat
  | [] => 0
  | x :: r => uptoBulkEntry x + uptoBulkEntries r
def uptoBulkEntry {H : Type} : Lit × DataW H → Nat
  | (.string bytes, d) => bytes.length + uptoBulk d + 1
  | (_, d) => uptoBulk d + 1
 end
def uptoSmall : (H : Type) → List (DataW H) → Bool := fun _ ds => decide (uptoBulkAll ds ≤ 1048576)
def OpenSpec.upto (s : _root_.Go.ChangeSpec) : _root_.Go.OpenSpec := { _root_.Go.OpenSpec.ofChange s with cond := some uptoSmall }

/-- 'laws.FnExactAreInquiries', WHERE WHAT IT READS IS OF BULK AT MOST 1048576: true; the input reads as it did. -/
def fnExactAreInquiriesUptoRow : OpenClaim := { program := "yteinekbgnleohaa", sum := "2e4becac8a9094f3237060a20928396dc9beddcc3fb17790d38f6cb0433b8370", func := "loop.example/g00912/laws.FnExactAreInquiries", spec := "fnExactAreInquiries", apart := false, narrowed := true }
def FnExactAreInquiriesUptoSaid : Prop := fnExactAreInquiriesUptoRow.holds Try.pinned (OpenSpec.upto fnExactAreInquiriesSpec)

/-- 'laws.FnExactItemsAfter', WHERE WHAT IT READS IS OF BULK AT MOST 1048576: true; the input reads as it did. -/
def fnExactItemsAfterUptoRow : OpenClaim := { program := "yteinekbgnleohaa", sum := "2e4becac8a9094f3237060a20928396dc9beddcc3fb17790d38f6cb0433b8370", func := "loop.example/g00912/laws.FnExactItemsAfter", spec := "fnExactItemsAfter", apart := false, narrowed := true }
def FnExactItemsAfterUptoSaid : Prop := fnExactItemsAfterUptoRow.holds Try.pinned (OpenSpec.upto fnExactItemsAfterSpec)

/-- 'laws.FnExactAsHistory', WHERE WHAT IT READS IS OF BULK AT MOST 1048576: true; the input reads as it did. -/
def fnExactAsHistoryUptoRow : OpenClaim := { program := "yteinekbgnleohaa", sum := "2e4becac8a9094f3237060a20928396dc9beddcc3fb17790d38f6cb0433b8370", func := "loop.example/g00912/laws.FnExactAsHistory", spec := "fnExactAsHistory", apart := false, narrowed := true }
def FnExactAsHistoryUptoSaid : Prop := fnExactAsHistoryUptoRow.holds Try.pinned (OpenSpec.upto fnExactAsHistorySpec)

end Rows
end Go.Proofs.Yteinekbgnleohaa
