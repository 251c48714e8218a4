/-
  DERIVED. GIVEN WITH THE SEED: THE CARDS: each row of YtjgpbbdapjjmiaaDoorRows.lean that lists a variable, with what it lists TIED to the program's text (the seventh form; the later family's looks); each row that meets fmt, with fmt's text TOLD by the authors' own Lean function (tested against real Go, not proved from fmt's source: count such statements apart). THE CARD IS WHAT COUNTS. Prove the row's statement (the work); the ties are given (YtjgpbbdapjjmiaaDoorTie.lean); close each card by the builder's one call (the guide's Derived/Test/ToyasCard.lean, 'card_holds'). Laid BY PROGRAM, IN A SANDBOX (cutbox-door.mjs). By AI agents, Wed Nov 11 2026. No macro, syntax, notation, axiom, sorry.
-/
import Derived.Test.YtjgpbbdapjjmiaaDoorRows
import GoSem.ClaimSeven
namespace Go.Proofs.YtjgpbbdapjjmiaaDoor
namespace Rows

/-- THE TIED CARD OF 'laws.FnExactDifferLines'. -/
def fnExactDifferLinesCard : Claim7 := { stood := { row := fnExactDifferLinesRow, standIns := [], harness := (true, "b13020d87cdb0caccb1e521094d7aed025f136040deae930bfc9befcef6eca7a"), looks := false }, kinds := [], alts := [], laidByText := true, laidKinds := [.data, .pinned], laidTests := true, laidLooks := .later }
def FnExactDifferLinesCardSaid : Prop := Claim7.holds Tryd.pinned (.plain (OpenSpec.ofChange fnExactDifferLinesSpec)) fnExactDifferLinesCard

/-- THE TIED CARD OF 'laws.FnExactNotesText'. -/
def fnExactNotesTextCard : Claim7 := { stood := { row := fnExactNotesTextRow, standIns := [], harness := (true, "b13020d87cdb0caccb1e521094d7aed025f136040deae930bfc9befcef6eca7a"), looks := false }, kinds := [], alts := [], laidByText := true, laidKinds := [.data, .data, .data], laidTests := true, laidLooks := .later }
def FnExactNotesTextCardSaid : Prop := Claim7.holds Tryd.pinned (.plain (OpenSpec.ofChange fnExactNotesTextSpec)) fnExactNotesTextCard

/-- THE TIED CARD OF 'laws.FnExactParseNotes'. -/
def fnExactParseNotesCard : Claim7 := { stood := { row := fnExactParseNotesRow, standIns := [], harness := (true, "b13020d87cdb0caccb1e521094d7aed025f136040deae930bfc9befcef6eca7a"), looks := false }, kinds := [], alts := [], laidByText := true, laidKinds := [.data, .pinned], laidTests := true, laidLooks := .later }
def FnExactParseNotesCardSaid : Prop := Claim7.holds Tryd.pinned (.plain (OpenSpec.ofChange fnExactParseNotesSpec)) fnExactParseNotesCard

/-- THE SECOND FORM's CARD OF 'laws.FnExactDifferLines'. -/
def fnExactDifferLinesUptoCard : Claim7 := { stood := { row := fnExactDifferLinesUptoRow, standIns := [], harness := (true, "b13020d87cdb0caccb1e521094d7aed025f136040deae930bfc9befcef6eca7a"), looks := false }, kinds := [], alts := [], laidByText := true, laidKinds := [.data, .pinned], laidTests := true, laidLooks := .later }
def FnExactDifferLinesUptoCardSaid : Prop := Claim7.holds Tryd.pinned (.plain (OpenSpec.upto fnExactDifferLinesSpec)) fnExactDifferLinesUptoCard

/-- THE SECOND FORM's CARD OF 'laws.FnExactNotesText'. -/
def fnExactNotesTextUptoCard : Claim7 := { stood := { row := fnExactNotesTextUptoRow, standIns := [], harness := (true, "b13020d87cdb0caccb1e521094d7aed025f136040deae930bfc9befcef6eca7a"), looks := false }, kinds := [], alts := [], laidByText := true, laidKinds := [.data, .data, .data], laidTests := true, laidLooks := .later }
def FnExactNotesTextUptoCardSaid : Prop := Claim7.holds Tryd.pinned (.plain (OpenSpec.upto fnExactNotesTextSpec)) fnExactNotesTextUptoCard

/-- THE SECOND FORM's CARD OF 'laws.FnExactParseNotes'. -/
def fnExactParseNotesUptoCard : Claim7 := { stood := { row := fnExactParseNotesUptoRow, standIns := [], harness := (true, "b13020d87cdb0caccb1e521094d7aed025f136040deae930bfc9befcef6eca7a"), looks := false }, kinds := [], alts := [], laidByText := true, laidKinds := [.data, .pinned], laidTests := true, laidLooks := .later }
def FnExactParseNotesUptoCardSaid : Prop := Claim7.holds Tryd.pinned (.plain (OpenSpec.upto fnExactParseNotesSpec)) fnExactParseNotesUptoCard
end Rows
end Go.Proofs.YtjgpbbdapjjmiaaDoor
