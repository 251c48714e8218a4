/-
  No cell of these rows narrows 'for every input' (looked for: loops, veiled, ifaces, maps, wideKeys, modest, calm, conditions, laid).
  DERIVED. THE GIVEN ROWS OF THIS SEAT. 6 by the template 'for every input the law returns true; each argument reads behind the call as it read before'; 0 by the template 'total and deterministic' (their statements: YtphakidbddamfaaGreatTotals.lean).
  GIVEN WITH THE SEED: the statements are not yours to turn. If you find one false, say at which input.
  Laid BY PROGRAM, IN A SANDBOX (cutbox-rows.mjs): the forced cells as the released guide's own fill.sh prints them over the translation 132bd9e7148edc53… (all of the seat's roots in one cut). By AI agents, Wed Nov 11 2026. No macro, syntax, notation, axiom, sorry.
-/
import Derived.Test.YtphakidbddamfaaGreatChecked
import GoSem.Claim
import GoSem.ClaimJoined
import GoSem.ClaimMapViews
import Derived.JoinedTies
import Derived.KernelRfl
namespace Go.Proofs.YtphakidbddamfaaGreat
/- THE CELL 'sum', in the pinned program and in every row, IS THE sha256 OF THE DUMP (.gsa) THAT YtphakidbddamfaaGreatProg.lean LOADS. Nothing in Lean hashes anything: it is a label: what it is worth is what the hold of that sum in a sandbox is worth. -/
noncomputable def Tryz.pinned : Pinned := { name := "ytphakidbddamfaagreat", sum := "132bd9e7148edc5396f616a333d088132c69f00ddecb1975d7663e43a963ac5d", checked := Tryz.checked }
namespace Rows
def none {H : Type} : Left H := { results := [], args := [] }

/-- 'laws.FnExactInquiryGain': WHATEVER THE INPUT: true; the input reads as it did. -/
def fnExactInquiryGainSpec : ChangeSpec := { name := "fnExactInquiryGain", fn := fun _ => fun
  | [d1, d2, d3, d4] => { results := [.lit (.bool true)], args := [d1, d2, d3, d4] }
  | _ => none }
def fnExactInquiryGainRow : OpenClaim := { program := "ytphakidbddamfaagreat", sum := "132bd9e7148edc5396f616a333d088132c69f00ddecb1975d7663e43a963ac5d", func := "loop.example/g00912/laws.FnExactInquiryGain", spec := "fnExactInquiryGain", unfollowed := true, recurses := true, plainKeys := false, apart := false }
def FnExactInquiryGainSaid : Prop := fnExactInquiryGainRow.holds Tryz.pinned (OpenSpec.ofChange fnExactInquiryGainSpec)

/-- ITS FALSE NEIGHBOUR: 'it returns false'. Refute it at one input. -/
def fnExactInquiryGainWrong : ChangeSpec := { name := "fnExactInquiryGain", fn := fun _ => fun
  | [d1, d2, d3, d4] => { results := [.lit (.bool false)], args := [d1, d2, d3, d4] }
  | _ => none }
def FnExactInquiryGainWrongFalsely : Prop := fnExactInquiryGainRow.holds Tryz.pinned (OpenSpec.ofChange fnExactInquiryGainWrong)

/-- 'laws.FnExactScoreAfter': WHATEVER THE INPUT: true; the input reads as it did. -/
def fnExactScoreAfterSpec : ChangeSpec := { name := "fnExactScoreAfter", fn := fun _ => fun
  | [d1, d2, d3, d4] => { results := [.lit (.bool true)], args := [d1, d2, d3, d4] }
  | _ => none }
def fnExactScoreAfterRow : OpenClaim := { program := "ytphakidbddamfaagreat", sum := "132bd9e7148edc5396f616a333d088132c69f00ddecb1975d7663e43a963ac5d", func := "loop.example/g00912/laws.FnExactScoreAfter", spec := "fnExactScoreAfter", unfollowed := true, recurses := true, plainKeys := false, apart := false }
def FnExactScoreAfterSaid : Prop := fnExactScoreAfterRow.holds Tryz.pinned (OpenSpec.ofChange fnExactScoreAfterSpec)

/-- ITS FALSE NEIGHBOUR: 'it returns false'. Refute it at one input. -/
def fnExactScoreAfterWrong : ChangeSpec := { name := "fnExactScoreAfter", fn := fun _ => fun
  | [d1, d2, d3, d4] => { results := [.lit (.bool false)], args := [d1, d2, d3, d4] }
  | _ => none }
def FnExactScoreAfterWrongFalsely : Prop := fnExactScoreAfterRow.holds Tryz.pinned (OpenSpec.ofChange fnExactScoreAfterWrong)

/-- 'laws.FnExactBestInquiry': WHATEVER THE INPUT: true; the input reads as it did. -/
def fnExactBestInquirySpec : ChangeSpec := { name := "fnExactBestInquiry", fn := fun _ => fun
  | [d1, d2, d3] => { results := [.lit (.bool true)], args := [d1, d2, d3] }
  | _ => none }
def fnExactBestInquiryRow : OpenClaim := { program := "ytphakidbddamfaagreat", sum := "132bd9e7148edc5396f616a333d088132c69f00ddecb1975d7663e43a963ac5d", func := "loop.example/g00912/laws.FnExactBestInquiry", spec := "fnExactBestInquiry", unfollowed := true, recurses := true, plainKeys := false, apart := false }
def FnExactBestInquirySaid : Prop := fnExactBestInquiryRow.holds Tryz.pinned (OpenSpec.ofChange fnExactBestInquirySpec)

/-- ITS FALSE NEIGHBOUR: 'it returns false'. Refute it at one input. -/
def fnExactBestInquiryWrong : ChangeSpec := { name := "fnExactBestInquiry", fn := fun _ => fun
  | [d1, d2, d3] => { results := [.lit (.bool false)], args := [d1, d2, d3] }
  | _ => none }
def FnExactBestInquiryWrongFalsely : Prop := fnExactBestInquiryRow.holds Tryz.pinned (OpenSpec.ofChange fnExactBestInquiryWrong)

/-- 'laws.FnExactWinningInquiries': WHATEVER THE INPUT: true; the input reads as it did. -/
def fnExactWinningInquiriesSpec : ChangeSpec := { name := "fnExactWinningInquiries", fn := fun _ => fun
  | [d1, d2, d3, d4] => { results := [.lit (.bool true)], args := [d1, d2, d3, d4] }
  | _ => none }
def fnExactWinningInquiriesRow : OpenClaim := { program := "ytphakidbddamfaagreat", sum := "132bd9e7148edc5396f616a333d088132c69f00ddecb1975d7663e43a963ac5d", func := "loop.example/g00912/laws.FnExactWinningInquiries", spec := "fnExactWinningInquiries", unfollowed := true, recurses := true, plainKeys := false, apart := false }
def FnExactWinningInquiriesSaid : Prop := fnExactWinningInquiriesRow.holds Tryz.pinned (OpenSpec.ofChange fnExactWinningInquiriesSpec)

/-- ITS FALSE NEIGHBOUR: 'it returns false'. Refute it at one input. -/
def fnExactWinningInquiriesWrong : ChangeSpec := { name := "fnExactWinningInquiries", fn := fun _ => fun
  | [d1, d2, d3, d4] => { results := [.lit (.bool false)], args := [d1, d2, d3, d4] }
  | _ => none }
def FnExactWinningInquiriesWrongFalsely : Prop := fnExactWinningInquiriesRow.holds Tryz.pinned (OpenSpec.ofChange fnExactWinningInquiriesWrong)

/-- 'laws.FnAsked': WHATEVER THE INPUT: true; the input reads as it did. -/
def fnAskedSpec : ChangeSpec := { name := "fnAsked", fn := fun _ => fun
  | [d1, d2] => { results := [.lit (.bool true)], args := [d1, d2] }
  | _ => none }
def fnAskedRow : OpenClaim := { program := "ytphakidbddamfaagreat", sum := "132bd9e7148edc5396f616a333d088132c69f00ddecb1975d7663e43a963ac5d", func := "loop.example/g00912/laws.FnAsked", spec := "fnAsked", unfollowed := true, recurses := true, plainKeys := false, apart := false }
def FnAskedSaid : Prop := fnAskedRow.holds Tryz.pinned (OpenSpec.ofChange fnAskedSpec)

/-- ITS FALSE NEIGHBOUR: 'it returns false'. Refute it at one input. -/
def fnAskedWrong : ChangeSpec := { name := "fnAsked", fn := fun _ => fun
  | [d1, d2] => { results := [.lit (.bool false)], args := [d1, d2] }
  | _ => none }
def FnAskedWrongFalsely : Prop := fnAskedRow.holds Tryz.pinned (OpenSpec.ofChange fnAskedWrong)

/-- 'laws.FnInquiries': WHATEVER THE INPUT: true; the input reads as it did. -/
def fnInquiriesSpec : ChangeSpec := { name := "fnInquiries", fn := fun _ => fun
  | [d1, d2] => { results := [.lit (.bool true)], args := [d1, d2] }
  | _ => none }
def fnInquiriesRow : OpenClaim := { program := "ytphakidbddamfaagreat", sum := "132bd9e7148edc5396f616a333d088132c69f00ddecb1975d7663e43a963ac5d", func := "loop.example/g00912/laws.FnInquiries", spec := "fnInquiries", unfollowed := true, recurses := true, plainKeys := false, apart := false }
def FnInquiriesSaid : Prop := fnInquiriesRow.holds Tryz.pinned (OpenSpec.ofChange fnInquiriesSpec)

/-- ITS FALSE NEIGHBOUR: 'it returns false'. Refute it at one input. -/
def fnInquiriesWrong : ChangeSpec := { name := "fnInquiries", fn := fun _ => fun
  | [d1, d2] => { results := [.lit (.bool false)], args := [d1, d2] }
  | _ => none }
def FnInquiriesWrongFalsely : Prop := fnInquiriesRow.holds Tryz.pinned (OpenSpec.ofChange fnInquiriesWrong)

/- THE SECOND FORM. 'bulk': how many values and letters a reading holds, each counted each time it is reached (what is shared counts as often as it is met; a slice's spare places count too). A statement '..UptoSaid' is the law's where the arguments, and the package variables that the reading takes, are together of bulk at most 1048576: NARROWER than '..Said'. Prove '..Said' where nothing that the law and all that it calls make is longer than what came in: it says more and counts as full. Else prove '..UptoSaid'. A law counts once. -/
mutual
def uptoBulk {H : Type} : DataW H → Nat
  | .lit (.string bytes) => bytes.length + 1
  | .lit _ => 1
  | .nil => 1
  | .ptr d => uptoBulk d + 1
  | .slice elems spare => uptoBulkAll elems + uptoBulkAll spare + 1
  | .agg parts => uptoBulkAll parts + 1
  | .iface _ d => uptoBulk d + 1
  | .map entries => uptoBulkEntries entries + 1
  | .held _ => 1
def uptoBulkAll {H : Type} : List (DataW H) → Nat
  | [] => 0
  | d :: r => uptoBulk d + uptoBulkAll r
def uptoBulkEntries {H : Type} : List (Lit × DataW H) → Nat
  | [] => 0
  | x :: r => uptoBulkEntry x + uptoBulkEntries r
def uptoBulkEntry {H : Type} : Lit × DataW H → Nat
  | (.string bytes, d) => bytes.length + uptoBulk d + 1
  | (_, d) => uptoBulk d + 1
 end
def uptoSmall : (H : Type) → List (DataW H) → Bool := fun _ ds => decide (uptoBulkAll ds ≤ 1048576)
def OpenSpec.upto (s : _root_.Go.ChangeSpec) : _root_.Go.OpenSpec := { _root_.Go.OpenSpec.ofChange s with cond := some uptoSmall }

/-- 'laws.FnExactInquiryGain', WHERE WHAT IT READS IS OF BULK AT MOST 1048576: true; the input reads as it did. -/
def fnExactInquiryGainUptoRow : OpenClaim := { program := "ytphakidbddamfaagreat", sum := "132bd9e7148edc5396f616a333d088132c69f00ddecb1975d7663e43a963ac5d", func := "loop.example/g00912/laws.FnExactInquiryGain", spec := "fnExactInquiryGain", unfollowed := true, recurses := true, plainKeys := false, apart := false, narrowed := true }
def FnExactInquiryGainUptoSaid : Prop := fnExactInquiryGainUptoRow.holds Tryz.pinned (OpenSpec.upto fnExactInquiryGainSpec)

/-- 'laws.FnExactScoreAfter', WHERE WHAT IT READS IS OF BULK AT MOST 1048576: true; the input reads as it did. -/
def fnExactScoreAfterUptoRow : OpenClaim := { program := "ytphakidbddamfaagreat", sum := "132bd9e7148edc5396f616a333d088132c69f00ddecb1975d7663e43a963ac5d", func := "loop.example/g00912/laws.FnExactScoreAfter", spec := "fnExactScoreAfter", unfollowed := true, recurses := true, plainKeys := false, apart := false, narrowed := true }
def FnExactScoreAfterUptoSaid : Prop := fnExactScoreAfterUptoRow.holds Tryz.pinned (OpenSpec.upto fnExactScoreAfterSpec)

/-- 'laws.FnExactBestInquiry', WHERE WHAT IT READS IS OF BULK AT MOST 1048576: true; the input reads as it did. -/
def fnExactBestInquiryUptoRow : OpenClaim := { program := "ytphakidbddamfaagreat", sum := "132bd9e7148edc5396f616a333d088132c69f00ddecb1975d7663e43a963ac5d", func := "loop.example/g00912/laws.FnExactBestInquiry", spec := "fnExactBestInquiry", unfollowed := true, recurses := true, plainKeys := false, apart := false, narrowed := true }
def FnExactBestInquiryUptoSaid : Prop := fnExactBestInquiryUptoRow.holds Tryz.pinned (OpenSpec.upto fnExactBestInquirySpec)

/-- 'laws.FnExactWinningInquiries', WHERE WHAT IT READS IS OF BULK AT MOST 1048576: true; the input reads as it did. -/
def fnExactWinningInquiriesUptoRow : OpenClaim := { program := "ytphakidbddamfaagreat", sum := "132bd9e7148edc5396f616a333d088132c69f00ddecb1975d7663e43a963ac5d", func := "loop.example/g00912/laws.FnExactWinningInquiries", spec := "fnExactWinningInquiries", unfollowed := true, recurses := true, plainKeys := false, apart := false, narrowed := true }
def FnExactWinningInquiriesUptoSaid : Prop := fnExactWinningInquiriesUptoRow.holds Tryz.pinned (OpenSpec.upto fnExactWinningInquiriesSpec)

/-- 'laws.FnAsked', WHERE WHAT IT READS IS OF BULK AT MOST 1048576: true; the input reads as it did. -/
def fnAskedUptoRow : OpenClaim := { program := "ytphakidbddamfaagreat", sum := "132bd9e7148edc5396f616a333d088132c69f00ddecb1975d7663e43a963ac5d", func := "loop.example/g00912/laws.FnAsked", spec := "fnAsked", unfollowed := true, recurses := true, plainKeys := false, apart := false, narrowed := true }
def FnAskedUptoSaid : Prop := fnAskedUptoRow.holds Tryz.pinned (OpenSpec.upto fnAskedSpec)

/-- 'laws.FnInquiries', WHERE WHAT IT READS IS OF BULK AT MOST 1048576: true; the input reads as it did. -/
def fnInquiriesUptoRow : OpenClaim := { program := "ytphakidbddamfaagreat", sum := "132bd9e7148edc5396f616a333d088132c69f00ddecb1975d7663e43a963ac5d", func := "loop.example/g00912/laws.FnInquiries", spec := "fnInquiries", unfollowed := true, recurses := true, plainKeys := false, apart := false, narrowed := true }
def FnInquiriesUptoSaid : Prop := fnInquiriesUptoRow.holds Tryz.pinned (OpenSpec.upto fnInquiriesSpec)

end Rows
end Go.Proofs.YtphakidbddamfaaGreat
