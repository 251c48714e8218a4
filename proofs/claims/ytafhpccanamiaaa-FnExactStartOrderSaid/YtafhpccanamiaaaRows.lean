/-
  No cell of these rows narrows 'for every input' (looked for: loops, veiled, ifaces, maps, wideKeys, modest, calm, conditions, laid).
  DERIVED. THE GIVEN ROWS OF THIS SEAT. 7 by the template 'for every input the law returns true; each argument reads behind the call as it read before'; 0 by the template 'total and deterministic' (their statements: YtafhpccanamiaaaTotals.lean).
  GIVEN WITH THE SEED: the statements are not yours to turn. If you find one false, say at which input.
  Laid BY PROGRAM, IN A SANDBOX (cutbox-rows.mjs): the forced cells as the released guide's own fill.sh prints them over the translation 2a96420954f497e6… (all of the seat's roots in one cut). By AI agents, Wed Nov 11 2026. No macro, syntax, notation, axiom, sorry.
-/
import Derived.Test.YtafhpccanamiaaaChecked
import GoSem.Claim
import GoSem.ClaimJoined
import GoSem.ClaimMapViews
import Derived.JoinedTies
import Derived.KernelRfl
namespace Go.Proofs.Ytafhpccanamiaaa
/- THE CELL 'sum', in the pinned program and in every row, IS THE sha256 OF THE DUMP (.gsa) THAT YtafhpccanamiaaaProg.lean LOADS. Nothing in Lean hashes anything: it is a label: what it is worth is what the hold of that sum in a sandbox is worth. -/
noncomputable def Try.pinned : Pinned := { name := "ytafhpccanamiaaa", sum := "2a96420954f497e6b875b54aff523ed8216119876a2ec5535318a6ddd4a184f1", checked := Try.checked }
namespace Rows
def none {H : Type} : Left H := { results := [], args := [] }

/-- 'laws.FnExactAreInquiries': WHATEVER THE INPUT: true; the input reads as it did. -/
def fnExactAreInquiriesSpec : ChangeSpec := { name := "fnExactAreInquiries", fn := fun _ => fun
  | [d1, d2] => { results := [.lit (.bool true)], args := [d1, d2] }
  | _ => none }
def fnExactAreInquiriesRow : OpenClaim := { program := "ytafhpccanamiaaa", sum := "2a96420954f497e6b875b54aff523ed8216119876a2ec5535318a6ddd4a184f1", func := "loop.example/g00912/laws.FnExactAreInquiries", spec := "fnExactAreInquiries", apart := false }
def FnExactAreInquiriesSaid : Prop := fnExactAreInquiriesRow.holds Try.pinned (OpenSpec.ofChange fnExactAreInquiriesSpec)

/-- ITS FALSE NEIGHBOUR: 'it returns false'. Refute it at one input. -/
def fnExactAreInquiriesWrong : ChangeSpec := { name := "fnExactAreInquiries", fn := fun _ => fun
  | [d1, d2] => { results := [.lit (.bool false)], args := [d1, d2] }
  | _ => none }
def FnExactAreInquiriesWrongFalsely : Prop := fnExactAreInquiriesRow.holds Try.pinned (OpenSpec.ofChange fnExactAreInquiriesWrong)

/-- 'laws.FnExactItemsAfter': WHATEVER THE INPUT: true; the input reads as it did. -/
def fnExactItemsAfterSpec : ChangeSpec := { name := "fnExactItemsAfter", fn := fun _ => fun
  | [d1, d2] => { results := [.lit (.bool true)], args := [d1, d2] }
  | _ => none }
def fnExactItemsAfterRow : OpenClaim := { program := "ytafhpccanamiaaa", sum := "2a96420954f497e6b875b54aff523ed8216119876a2ec5535318a6ddd4a184f1", func := "loop.example/g00912/laws.FnExactItemsAfter", spec := "fnExactItemsAfter", apart := false }
def FnExactItemsAfterSaid : Prop := fnExactItemsAfterRow.holds Try.pinned (OpenSpec.ofChange fnExactItemsAfterSpec)

/-- ITS FALSE NEIGHBOUR: 'it returns false'. Refute it at one input. -/
def fnExactItemsAfterWrong : ChangeSpec := { name := "fnExactItemsAfter", fn := fun _ => fun
  | [d1, d2] => { results := [.lit (.bool false)], args := [d1, d2] }
  | _ => none }
def FnExactItemsAfterWrongFalsely : Prop := fnExactItemsAfterRow.holds Try.pinned (OpenSpec.ofChange fnExactItemsAfterWrong)

/-- 'laws.FnExactAsHistory': WHATEVER THE INPUT: true; the input reads as it did. -/
def fnExactAsHistorySpec : ChangeSpec := { name := "fnExactAsHistory", fn := fun _ => fun
  | [d1, d2] => { results := [.lit (.bool true)], args := [d1, d2] }
  | _ => none }
def fnExactAsHistoryRow : OpenClaim := { program := "ytafhpccanamiaaa", sum := "2a96420954f497e6b875b54aff523ed8216119876a2ec5535318a6ddd4a184f1", func := "loop.example/g00912/laws.FnExactAsHistory", spec := "fnExactAsHistory", apart := false }
def FnExactAsHistorySaid : Prop := fnExactAsHistoryRow.holds Try.pinned (OpenSpec.ofChange fnExactAsHistorySpec)

/-- ITS FALSE NEIGHBOUR: 'it returns false'. Refute it at one input. -/
def fnExactAsHistoryWrong : ChangeSpec := { name := "fnExactAsHistory", fn := fun _ => fun
  | [d1, d2] => { results := [.lit (.bool false)], args := [d1, d2] }
  | _ => none }
def FnExactAsHistoryWrongFalsely : Prop := fnExactAsHistoryRow.holds Try.pinned (OpenSpec.ofChange fnExactAsHistoryWrong)

/-- 'laws.FnExactRankGroups': WHATEVER THE INPUT: true; the input reads as it did. -/
def fnExactRankGroupsSpec : ChangeSpec := { name := "fnExactRankGroups", fn := fun _ => fun
  | [d1, d2] => { results := [.lit (.bool true)], args := [d1, d2] }
  | _ => none }
def fnExactRankGroupsRow : OpenClaim := { program := "ytafhpccanamiaaa", sum := "2a96420954f497e6b875b54aff523ed8216119876a2ec5535318a6ddd4a184f1", func := "loop.example/g00912/laws.FnExactRankGroups", spec := "fnExactRankGroups", unfollowed := true, recurses := true, apart := false }
def FnExactRankGroupsSaid : Prop := fnExactRankGroupsRow.holds Try.pinned (OpenSpec.ofChange fnExactRankGroupsSpec)

/-- ITS FALSE NEIGHBOUR: 'it returns false'. Refute it at one input. -/
def fnExactRankGroupsWrong : ChangeSpec := { name := "fnExactRankGroups", fn := fun _ => fun
  | [d1, d2] => { results := [.lit (.bool false)], args := [d1, d2] }
  | _ => none }
def FnExactRankGroupsWrongFalsely : Prop := fnExactRankGroupsRow.holds Try.pinned (OpenSpec.ofChange fnExactRankGroupsWrong)

/-- 'laws.FnExactIsStartOrder': WHATEVER THE INPUT: true; the input reads as it did. -/
def fnExactIsStartOrderSpec : ChangeSpec := { name := "fnExactIsStartOrder", fn := fun _ => fun
  | [d1, d2, d3] => { results := [.lit (.bool true)], args := [d1, d2, d3] }
  | _ => none }
def fnExactIsStartOrderRow : OpenClaim := { program := "ytafhpccanamiaaa", sum := "2a96420954f497e6b875b54aff523ed8216119876a2ec5535318a6ddd4a184f1", func := "loop.example/g00912/laws.FnExactIsStartOrder", spec := "fnExactIsStartOrder", unfollowed := true, recurses := true, apart := false }
def FnExactIsStartOrderSaid : Prop := fnExactIsStartOrderRow.holds Try.pinned (OpenSpec.ofChange fnExactIsStartOrderSpec)

/-- ITS FALSE NEIGHBOUR: 'it returns false'. Refute it at one input. -/
def fnExactIsStartOrderWrong : ChangeSpec := { name := "fnExactIsStartOrder", fn := fun _ => fun
  | [d1, d2, d3] => { results := [.lit (.bool false)], args := [d1, d2, d3] }
  | _ => none }
def FnExactIsStartOrderWrongFalsely : Prop := fnExactIsStartOrderRow.holds Try.pinned (OpenSpec.ofChange fnExactIsStartOrderWrong)

/-- 'laws.FnExactStartOrder': WHATEVER THE INPUT: true; the input reads as it did. -/
def fnExactStartOrderSpec : ChangeSpec := { name := "fnExactStartOrder", fn := fun _ => fun
  | [d1, d2, d3] => { results := [.lit (.bool true)], args := [d1, d2, d3] }
  | _ => none }
def fnExactStartOrderRow : OpenClaim := { program := "ytafhpccanamiaaa", sum := "2a96420954f497e6b875b54aff523ed8216119876a2ec5535318a6ddd4a184f1", func := "loop.example/g00912/laws.FnExactStartOrder", spec := "fnExactStartOrder", unfollowed := true, recurses := true, apart := false }
def FnExactStartOrderSaid : Prop := fnExactStartOrderRow.holds Try.pinned (OpenSpec.ofChange fnExactStartOrderSpec)

/-- ITS FALSE NEIGHBOUR: 'it returns false'. Refute it at one input. -/
def fnExactStartOrderWrong : ChangeSpec := { name := "fnExactStartOrder", fn := fun _ => fun
  | [d1, d2, d3] => { results := [.lit (.bool false)], args := [d1, d2, d3] }
  | _ => none }
def FnExactStartOrderWrongFalsely : Prop := fnExactStartOrderRow.holds Try.pinned (OpenSpec.ofChange fnExactStartOrderWrong)

/-- 'laws.FnExactExchangeStarts': WHATEVER THE INPUT: true; the input reads as it did. -/
def fnExactExchangeStartsSpec : ChangeSpec := { name := "fnExactExchangeStarts", fn := fun _ => fun
  | [d1, d2, d3, d4, d5] => { results := [.lit (.bool true)], args := [d1, d2, d3, d4, d5] }
  | _ => none }
def fnExactExchangeStartsRow : OpenClaim := { program := "ytafhpccanamiaaa", sum := "2a96420954f497e6b875b54aff523ed8216119876a2ec5535318a6ddd4a184f1", func := "loop.example/g00912/laws.FnExactExchangeStarts", spec := "fnExactExchangeStarts", unfollowed := true, recurses := true, apart := false }
def FnExactExchangeStartsSaid : Prop := fnExactExchangeStartsRow.holds Try.pinned (OpenSpec.ofChange fnExactExchangeStartsSpec)

/-- ITS FALSE NEIGHBOUR: 'it returns false'. Refute it at one input. -/
def fnExactExchangeStartsWrong : ChangeSpec := { name := "fnExactExchangeStarts", fn := fun _ => fun
  | [d1, d2, d3, d4, d5] => { results := [.lit (.bool false)], args := [d1, d2, d3, d4, d5] }
  | _ => none }
def FnExactExchangeStartsWrongFalsely : Prop := fnExactExchangeStartsRow.holds Try.pinned (OpenSpec.ofChange fnExactExchangeStartsWrong)

/- THE SECOND FORM. 'bulk': how many values and letters a reading holds, each counted each time it is reached (what is shared counts as often as it is met; a slice's spare places count too). A statement '..UptoSaid' is the law's where the arguments, and the package variables that the reading takes, are together of bulk at most 1048576: NARROWER than '..Said'. Prove '..Said' where nothing that the law and all that it calls make is longer than what came in: it says more and counts as full. Else prove '..UptoSaid'. A law counts once. -/
mutual
def uptoBulk {H : Type} : DataW H → Nat
  | .lit (.string bytes) => bytes.length + 1
  | .lit _ => 1
  | .nil => 1
  | .ptr d => uptoBulk d + 1
  | .slice elems spare => uptoBulkAll elems + uptoBulkAll spare + 1
  | .agg parts => uptoBulkAll parts + 1
  | .iface _ d => uptoBulk d + 1
  | .map entries => uptoBulkEntries entries + 1
  | .held _ => 1
def uptoBulkAll {H : Type} : List (DataW H) → Nat
  | [] => 0
  | d :: r => uptoBulk d + uptoBulkAll r
def uptoBulkEntries {H : Type} : List (Lit × DataW H) → Nat
  | [] => 0
  | x :: r => uptoBulkEntry x + uptoBulkEntries r
def uptoBulkEntry {H : Type} : Lit × DataW H → Nat
  | (.string bytes, d) => bytes.length + uptoBulk d + 1
  | (_, d) => uptoBulk d + 1
 end
def uptoSmall : (H : Type) → List (DataW H) → Bool := fun _ ds => decide (uptoBulkAll ds ≤ 1048576)
def OpenSpec.upto (s : _root_.Go.ChangeSpec) : _root_.Go.OpenSpec := { _root_.Go.OpenSpec.ofChange s with cond := some uptoSmall }

/-- 'laws.FnExactAreInquiries', WHERE WHAT IT READS IS OF BULK AT MOST 1048576: true; the input reads as it did. -/
def fnExactAreInquiriesUptoRow : OpenClaim := { program := "ytafhpccanamiaaa", sum := "2a96420954f497e6b875b54aff523ed8216119876a2ec5535318a6ddd4a184f1", func := "loop.example/g00912/laws.FnExactAreInquiries", spec := "fnExactAreInquiries", apart := false, narrowed := true }
def FnExactAreInquiriesUptoSaid : Prop := fnExactAreInquiriesUptoRow.holds Try.pinned (OpenSpec.upto fnExactAreInquiriesSpec)

/-- 'laws.FnExactItemsAfter', WHERE WHAT IT READS IS OF BULK AT MOST 1048576: true; the input reads as it did. -/
def fnExactItemsAfterUptoRow : OpenClaim := { program := "ytafhpccanamiaaa", sum := "2a96420954f497e6b875b54aff523ed8216119876a2ec5535318a6ddd4a184f1", func := "loop.example/g00912/laws.FnExactItemsAfter", spec := "fnExactItemsAfter", apart := false, narrowed := true }
def FnExactItemsAfterUptoSaid : Prop := fnExactItemsAfterUptoRow.holds Try.pinned (OpenSpec.upto fnExactItemsAfterSpec)

/-- 'laws.FnExactAsHistory', WHERE WHAT IT READS IS OF BULK AT MOST 1048576: true; the input reads as it did. -/
def fnExactAsHistoryUptoRow : OpenClaim := { program := "ytafhpccanamiaaa", sum := "2a96420954f497e6b875b54aff523ed8216119876a2ec5535318a6ddd4a184f1", func := "loop.example/g00912/laws.FnExactAsHistory", spec := "fnExactAsHistory", apart := false, narrowed := true }
def FnExactAsHistoryUptoSaid : Prop := fnExactAsHistoryUptoRow.holds Try.pinned (OpenSpec.upto fnExactAsHistorySpec)

/-- 'laws.FnExactRankGroups', WHERE WHAT IT READS IS OF BULK AT MOST 1048576: true; the input reads as it did. -/
def fnExactRankGroupsUptoRow : OpenClaim := { program := "ytafhpccanamiaaa", sum := "2a96420954f497e6b875b54aff523ed8216119876a2ec5535318a6ddd4a184f1", func := "loop.example/g00912/laws.FnExactRankGroups", spec := "fnExactRankGroups", unfollowed := true, recurses := true, apart := false, narrowed := true }
def FnExactRankGroupsUptoSaid : Prop := fnExactRankGroupsUptoRow.holds Try.pinned (OpenSpec.upto fnExactRankGroupsSpec)

/-- 'laws.FnExactIsStartOrder', WHERE WHAT IT READS IS OF BULK AT MOST 1048576: true; the input reads as it did. -/
def fnExactIsStartOrderUptoRow : OpenClaim := { program := "ytafhpccanamiaaa", sum := "2a96420954f497e6b875b54aff523ed8216119876a2ec5535318a6ddd4a184f1", func := "loop.example/g00912/laws.FnExactIsStartOrder", spec := "fnExactIsStartOrder", unfollowed := true, recurses := true, apart := false, narrowed := true }
def FnExactIsStartOrderUptoSaid : Prop := fnExactIsStartOrderUptoRow.holds Try.pinned (OpenSpec.upto fnExactIsStartOrderSpec)

/-- 'laws.FnExactStartOrder', WHERE WHAT IT READS IS OF BULK AT MOST 1048576: true; the input reads as it did. -/
def fnExactStartOrderUptoRow : OpenClaim := { program := "ytafhpccanamiaaa", sum := "2a96420954f497e6b875b54aff523ed8216119876a2ec5535318a6ddd4a184f1", func := "loop.example/g00912/laws.FnExactStartOrder", spec := "fnExactStartOrder", unfollowed := true, recurses := true, apart := false, narrowed := true }
def FnExactStartOrderUptoSaid : Prop := fnExactStartOrderUptoRow.holds Try.pinned (OpenSpec.upto fnExactStartOrderSpec)

/-- 'laws.FnExactExchangeStarts', WHERE WHAT IT READS IS OF BULK AT MOST 1048576: true; the input reads as it did. -/
def fnExactExchangeStartsUptoRow : OpenClaim := { program := "ytafhpccanamiaaa", sum := "2a96420954f497e6b875b54aff523ed8216119876a2ec5535318a6ddd4a184f1", func := "loop.example/g00912/laws.FnExactExchangeStarts", spec := "fnExactExchangeStarts", unfollowed := true, recurses := true, apart := false, narrowed := true }
def FnExactExchangeStartsUptoSaid : Prop := fnExactExchangeStartsUptoRow.holds Try.pinned (OpenSpec.upto fnExactExchangeStartsSpec)

end Rows
end Go.Proofs.Ytafhpccanamiaaa
