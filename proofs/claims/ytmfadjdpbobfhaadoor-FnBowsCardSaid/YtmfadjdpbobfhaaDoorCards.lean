/-
  DERIVED. GIVEN WITH THE SEED: THE CARDS: each row of YtmfadjdpbobfhaaDoorRows.lean that lists a variable, with what it lists TIED to the program's text (the seventh form; the later family's looks); each row that meets fmt, with fmt's text TOLD by the authors' own Lean function (tested against real Go, not proved from fmt's source: count such statements apart). THE CARD IS WHAT COUNTS. Prove the row's statement (the work); the ties are given (YtmfadjdpbobfhaaDoorTie.lean); close each card by the builder's one call (the guide's Derived/Test/ToyasCard.lean, 'card_holds'). Laid BY PROGRAM, IN A SANDBOX (cutbox-door.mjs). By AI agents, Wed Nov 11 2026. No macro, syntax, notation, axiom, sorry.
-/
import Derived.Test.YtmfadjdpbobfhaaDoorRows
import GoSem.ClaimSeven
namespace Go.Proofs.YtmfadjdpbobfhaaDoor
namespace Rows

/-- THE TIED CARD OF 'laws.FnExactUndoVersion'. -/
def fnExactUndoVersionCard : Claim7 := { stood := { row := fnExactUndoVersionRow, standIns := [], harness := (true, "947bbbc488fa46e19a7039b306e567342fdf4b617dbbe351d44e70764054031f"), looks := true }, kinds := [], alts := [], laidByText := true, laidKinds := [.data, .data, .data], laidTests := true, laidLooks := .later }
def FnExactUndoVersionCardSaid : Prop := Claim7.holds Tryd.pinned (.plain (OpenSpec.ofChange fnExactUndoVersionSpec)) fnExactUndoVersionCard

/-- THE TIED CARD OF 'laws.FnExactStackText'. -/
def fnExactStackTextCard : Claim7 := { stood := { row := fnExactStackTextRow, standIns := [], harness := (true, "947bbbc488fa46e19a7039b306e567342fdf4b617dbbe351d44e70764054031f"), looks := true }, kinds := [], alts := [], laidByText := true, laidKinds := [.data, .data, .data], laidTests := true, laidLooks := .later }
def FnExactStackTextCardSaid : Prop := Claim7.holds Tryd.pinned (.plain (OpenSpec.ofChange fnExactStackTextSpec)) fnExactStackTextCard

/-- THE TIED CARD OF 'laws.FnExactReadPart'. -/
def fnExactReadPartCard : Claim7 := { stood := { row := fnExactReadPartRow, standIns := [], harness := (true, "947bbbc488fa46e19a7039b306e567342fdf4b617dbbe351d44e70764054031f"), looks := true }, kinds := [], alts := [], laidByText := true, laidKinds := [.data, .data, .data, .sentinel, .sentinel], laidTests := true, laidLooks := .later }
def FnExactReadPartCardSaid : Prop := Claim7.holds Tryd.pinned (.plain (OpenSpec.ofChange fnExactReadPartSpec)) fnExactReadPartCard

/-- THE TIED CARD OF 'laws.FnExactReadDeed'. -/
def fnExactReadDeedCard : Claim7 := { stood := { row := fnExactReadDeedRow, standIns := [], harness := (true, "947bbbc488fa46e19a7039b306e567342fdf4b617dbbe351d44e70764054031f"), looks := true }, kinds := [], alts := [], laidByText := true, laidKinds := [.data, .data, .data, .data, .sentinel, .sentinel, .pinned], laidTests := true, laidLooks := .later }
def FnExactReadDeedCardSaid : Prop := Claim7.holds Tryd.pinned (.plain (OpenSpec.ofChange fnExactReadDeedSpec)) fnExactReadDeedCard

/-- THE TIED CARD OF 'laws.FnExactReadEntry'. -/
def fnExactReadEntryCard : Claim7 := { stood := { row := fnExactReadEntryRow, standIns := [], harness := (true, "947bbbc488fa46e19a7039b306e567342fdf4b617dbbe351d44e70764054031f"), looks := true }, kinds := [], alts := [], laidByText := true, laidKinds := [.data, .data, .data, .data, .sentinel, .sentinel, .pinned], laidTests := true, laidLooks := .later }
def FnExactReadEntryCardSaid : Prop := Claim7.holds Tryd.pinned (.plain (OpenSpec.ofChange fnExactReadEntrySpec)) fnExactReadEntryCard

/-- THE TIED CARD OF 'laws.FnExactReadVisit'. -/
def fnExactReadVisitCard : Claim7 := { stood := { row := fnExactReadVisitRow, standIns := [], harness := (true, "947bbbc488fa46e19a7039b306e567342fdf4b617dbbe351d44e70764054031f"), looks := true }, kinds := [], alts := [], laidByText := true, laidKinds := [.data, .data, .data, .data, .sentinel, .sentinel, .pinned], laidTests := true, laidLooks := .later }
def FnExactReadVisitCardSaid : Prop := Claim7.holds Tryd.pinned (.plain (OpenSpec.ofChange fnExactReadVisitSpec)) fnExactReadVisitCard

/-- THE TIED CARD OF 'laws.FnBows'. -/
def fnBowsCard : Claim7 := { stood := { row := fnBowsRow, standIns := [], harness := (true, "947bbbc488fa46e19a7039b306e567342fdf4b617dbbe351d44e70764054031f"), looks := true }, kinds := [], alts := [], laidByText := true, laidKinds := [.data, .data, .data, .sentinel, .sentinel], laidTests := true, laidLooks := .later }
def FnBowsCardSaid : Prop := Claim7.holds Tryd.pinned (.plain (OpenSpec.ofChange fnBowsSpec)) fnBowsCard

/-- THE SECOND FORM's CARD OF 'laws.FnExactUndoVersion'. -/
def fnExactUndoVersionUptoCard : Claim7 := { stood := { row := fnExactUndoVersionUptoRow, standIns := [], harness := (true, "947bbbc488fa46e19a7039b306e567342fdf4b617dbbe351d44e70764054031f"), looks := true }, kinds := [], alts := [], laidByText := true, laidKinds := [.data, .data, .data], laidTests := true, laidLooks := .later }
def FnExactUndoVersionUptoCardSaid : Prop := Claim7.holds Tryd.pinned (.plain (OpenSpec.upto fnExactUndoVersionSpec)) fnExactUndoVersionUptoCard

/-- THE SECOND FORM's CARD OF 'laws.FnExactStackText'. -/
def fnExactStackTextUptoCard : Claim7 := { stood := { row := fnExactStackTextUptoRow, standIns := [], harness := (true, "947bbbc488fa46e19a7039b306e567342fdf4b617dbbe351d44e70764054031f"), looks := true }, kinds := [], alts := [], laidByText := true, laidKinds := [.data, .data, .data], laidTests := true, laidLooks := .later }
def FnExactStackTextUptoCardSaid : Prop := Claim7.holds Tryd.pinned (.plain (OpenSpec.upto fnExactStackTextSpec)) fnExactStackTextUptoCard

/-- THE SECOND FORM's CARD OF 'laws.FnExactReadPart'. -/
def fnExactReadPartUptoCard : Claim7 := { stood := { row := fnExactReadPartUptoRow, standIns := [], harness := (true, "947bbbc488fa46e19a7039b306e567342fdf4b617dbbe351d44e70764054031f"), looks := true }, kinds := [], alts := [], laidByText := true, laidKinds := [.data, .data, .data, .sentinel, .sentinel], laidTests := true, laidLooks := .later }
def FnExactReadPartUptoCardSaid : Prop := Claim7.holds Tryd.pinned (.plain (OpenSpec.upto fnExactReadPartSpec)) fnExactReadPartUptoCard

/-- THE SECOND FORM's CARD OF 'laws.FnExactReadDeed'. -/
def fnExactReadDeedUptoCard : Claim7 := { stood := { row := fnExactReadDeedUptoRow, standIns := [], harness := (true, "947bbbc488fa46e19a7039b306e567342fdf4b617dbbe351d44e70764054031f"), looks := true }, kinds := [], alts := [], laidByText := true, laidKinds := [.data, .data, .data, .data, .sentinel, .sentinel, .pinned], laidTests := true, laidLooks := .later }
def FnExactReadDeedUptoCardSaid : Prop := Claim7.holds Tryd.pinned (.plain (OpenSpec.upto fnExactReadDeedSpec)) fnExactReadDeedUptoCard

/-- THE SECOND FORM's CARD OF 'laws.FnExactReadEntry'. -/
def fnExactReadEntryUptoCard : Claim7 := { stood := { row := fnExactReadEntryUptoRow, standIns := [], harness := (true, "947bbbc488fa46e19a7039b306e567342fdf4b617dbbe351d44e70764054031f"), looks := true }, kinds := [], alts := [], laidByText := true, laidKinds := [.data, .data, .data, .data, .sentinel, .sentinel, .pinned], laidTests := true, laidLooks := .later }
def FnExactReadEntryUptoCardSaid : Prop := Claim7.holds Tryd.pinned (.plain (OpenSpec.upto fnExactReadEntrySpec)) fnExactReadEntryUptoCard

/-- THE SECOND FORM's CARD OF 'laws.FnExactReadVisit'. -/
def fnExactReadVisitUptoCard : Claim7 := { stood := { row := fnExactReadVisitUptoRow, standIns := [], harness := (true, "947bbbc488fa46e19a7039b306e567342fdf4b617dbbe351d44e70764054031f"), looks := true }, kinds := [], alts := [], laidByText := true, laidKinds := [.data, .data, .data, .data, .sentinel, .sentinel, .pinned], laidTests := true, laidLooks := .later }
def FnExactReadVisitUptoCardSaid : Prop := Claim7.holds Tryd.pinned (.plain (OpenSpec.upto fnExactReadVisitSpec)) fnExactReadVisitUptoCard

/-- THE SECOND FORM's CARD OF 'laws.FnBows'. -/
def fnBowsUptoCard : Claim7 := { stood := { row := fnBowsUptoRow, standIns := [], harness := (true, "947bbbc488fa46e19a7039b306e567342fdf4b617dbbe351d44e70764054031f"), looks := true }, kinds := [], alts := [], laidByText := true, laidKinds := [.data, .data, .data, .sentinel, .sentinel], laidTests := true, laidLooks := .later }
def FnBowsUptoCardSaid : Prop := Claim7.holds Tryd.pinned (.plain (OpenSpec.upto fnBowsSpec)) fnBowsUptoCard
end Rows
end Go.Proofs.YtmfadjdpbobfhaaDoor
