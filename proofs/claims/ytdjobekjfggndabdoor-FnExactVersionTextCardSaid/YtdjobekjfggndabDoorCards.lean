/-
  DERIVED. GIVEN WITH THE SEED: THE CARDS: each row of YtdjobekjfggndabDoorRows.lean that lists a variable, with what it lists TIED to the program's text (the seventh form; the later family's looks); each row that meets fmt, with fmt's text TOLD by the authors' own Lean function (tested against real Go, not proved from fmt's source: count such statements apart). THE CARD IS WHAT COUNTS. Prove the row's statement (the work); the ties are given (YtdjobekjfggndabDoorTie.lean); close each card by the builder's one call (the guide's Derived/Test/ToyasCard.lean, 'card_holds'). Laid BY PROGRAM, IN A SANDBOX (cutbox-door.mjs). By AI agents, Wed Nov 11 2026. No macro, syntax, notation, axiom, sorry.
-/
import Derived.Test.YtdjobekjfggndabDoorRows
import GoSem.ClaimSeven
namespace Go.Proofs.YtdjobekjfggndabDoor
namespace Rows

/-- THE TIED CARD OF 'laws.FnExactWorkText'. -/
def fnExactWorkTextCard : Claim7 := { stood := { row := fnExactWorkTextRow, standIns := [], harness := (true, "7fd0f6b2ae1856d649a9e15483478b1ec2273e321b2f1f292550d78de196664f"), looks := false }, kinds := [], alts := [], laidByText := true, laidKinds := [.data, .data, .data], laidTests := true, laidLooks := .later }
def FnExactWorkTextCardSaid : Prop := Claim7.holds Tryd.pinned (.plain (OpenSpec.ofChange fnExactWorkTextSpec)) fnExactWorkTextCard

/-- THE TIED CARD OF 'laws.FnExactPolicyText'. -/
def fnExactPolicyTextCard : Claim7 := { stood := { row := fnExactPolicyTextRow, standIns := [], harness := (true, "7fd0f6b2ae1856d649a9e15483478b1ec2273e321b2f1f292550d78de196664f"), looks := false }, kinds := [], alts := [], laidByText := true, laidKinds := [.data, .data, .data], laidTests := true, laidLooks := .later }
def FnExactPolicyTextCardSaid : Prop := Claim7.holds Tryd.pinned (.plain (OpenSpec.ofChange fnExactPolicyTextSpec)) fnExactPolicyTextCard

/-- THE TIED CARD OF 'laws.FnExactPotText'. -/
def fnExactPotTextCard : Claim7 := { stood := { row := fnExactPotTextRow, standIns := [], harness := (true, "7fd0f6b2ae1856d649a9e15483478b1ec2273e321b2f1f292550d78de196664f"), looks := false }, kinds := [], alts := [], laidByText := true, laidKinds := [.data, .data, .data], laidTests := true, laidLooks := .later }
def FnExactPotTextCardSaid : Prop := Claim7.holds Tryd.pinned (.plain (OpenSpec.ofChange fnExactPotTextSpec)) fnExactPotTextCard

/-- THE TIED CARD OF 'laws.FnExactPaperText'. -/
def fnExactPaperTextCard : Claim7 := { stood := { row := fnExactPaperTextRow, standIns := [], harness := (true, "7fd0f6b2ae1856d649a9e15483478b1ec2273e321b2f1f292550d78de196664f"), looks := false }, kinds := [], alts := [], laidByText := true, laidKinds := [.data, .data, .data], laidTests := true, laidLooks := .later }
def FnExactPaperTextCardSaid : Prop := Claim7.holds Tryd.pinned (.plain (OpenSpec.ofChange fnExactPaperTextSpec)) fnExactPaperTextCard

/-- THE TIED CARD OF 'laws.FnExactRentalText'. -/
def fnExactRentalTextCard : Claim7 := { stood := { row := fnExactRentalTextRow, standIns := [], harness := (true, "7fd0f6b2ae1856d649a9e15483478b1ec2273e321b2f1f292550d78de196664f"), looks := false }, kinds := [], alts := [], laidByText := true, laidKinds := [.data, .data, .data], laidTests := true, laidLooks := .later }
def FnExactRentalTextCardSaid : Prop := Claim7.holds Tryd.pinned (.plain (OpenSpec.ofChange fnExactRentalTextSpec)) fnExactRentalTextCard

/-- THE TIED CARD OF 'laws.FnExactVersionText'. -/
def fnExactVersionTextCard : Claim7 := { stood := { row := fnExactVersionTextRow, standIns := [], harness := (true, "7fd0f6b2ae1856d649a9e15483478b1ec2273e321b2f1f292550d78de196664f"), looks := false }, kinds := [], alts := [], laidByText := true, laidKinds := [.data, .data, .data], laidTests := true, laidLooks := .later }
def FnExactVersionTextCardSaid : Prop := Claim7.holds Tryd.pinned (.plain (OpenSpec.ofChange fnExactVersionTextSpec)) fnExactVersionTextCard

/-- THE TIED CARD OF 'laws.FnExactStepText'. -/
def fnExactStepTextCard : Claim7 := { stood := { row := fnExactStepTextRow, standIns := [], harness := (true, "7fd0f6b2ae1856d649a9e15483478b1ec2273e321b2f1f292550d78de196664f"), looks := false }, kinds := [], alts := [], laidByText := true, laidKinds := [.data, .data, .data], laidTests := true, laidLooks := .later }
def FnExactStepTextCardSaid : Prop := Claim7.holds Tryd.pinned (.plain (OpenSpec.ofChange fnExactStepTextSpec)) fnExactStepTextCard

/-- THE TIED CARD OF 'laws.FnExactCoatText'. -/
def fnExactCoatTextCard : Claim7 := { stood := { row := fnExactCoatTextRow, standIns := [], harness := (true, "7fd0f6b2ae1856d649a9e15483478b1ec2273e321b2f1f292550d78de196664f"), looks := false }, kinds := [], alts := [], laidByText := true, laidKinds := [.data, .data, .data], laidTests := true, laidLooks := .later }
def FnExactCoatTextCardSaid : Prop := Claim7.holds Tryd.pinned (.plain (OpenSpec.ofChange fnExactCoatTextSpec)) fnExactCoatTextCard

/-- THE TIED CARD OF 'laws.FnExactStackText'. -/
def fnExactStackTextCard : Claim7 := { stood := { row := fnExactStackTextRow, standIns := [], harness := (true, "7fd0f6b2ae1856d649a9e15483478b1ec2273e321b2f1f292550d78de196664f"), looks := false }, kinds := [], alts := [], laidByText := true, laidKinds := [.data, .data, .data], laidTests := true, laidLooks := .later }
def FnExactStackTextCardSaid : Prop := Claim7.holds Tryd.pinned (.plain (OpenSpec.ofChange fnExactStackTextSpec)) fnExactStackTextCard

/-- THE SECOND FORM's CARD OF 'laws.FnExactWorkText'. -/
def fnExactWorkTextUptoCard : Claim7 := { stood := { row := fnExactWorkTextUptoRow, standIns := [], harness := (true, "7fd0f6b2ae1856d649a9e15483478b1ec2273e321b2f1f292550d78de196664f"), looks := false }, kinds := [], alts := [], laidByText := true, laidKinds := [.data, .data, .data], laidTests := true, laidLooks := .later }
def FnExactWorkTextUptoCardSaid : Prop := Claim7.holds Tryd.pinned (.plain (OpenSpec.upto fnExactWorkTextSpec)) fnExactWorkTextUptoCard

/-- THE SECOND FORM's CARD OF 'laws.FnExactPolicyText'. -/
def fnExactPolicyTextUptoCard : Claim7 := { stood := { row := fnExactPolicyTextUptoRow, standIns := [], harness := (true, "7fd0f6b2ae1856d649a9e15483478b1ec2273e321b2f1f292550d78de196664f"), looks := false }, kinds := [], alts := [], laidByText := true, laidKinds := [.data, .data, .data], laidTests := true, laidLooks := .later }
def FnExactPolicyTextUptoCardSaid : Prop := Claim7.holds Tryd.pinned (.plain (OpenSpec.upto fnExactPolicyTextSpec)) fnExactPolicyTextUptoCard

/-- THE SECOND FORM's CARD OF 'laws.FnExactPotText'. -/
def fnExactPotTextUptoCard : Claim7 := { stood := { row := fnExactPotTextUptoRow, standIns := [], harness := (true, "7fd0f6b2ae1856d649a9e15483478b1ec2273e321b2f1f292550d78de196664f"), looks := false }, kinds := [], alts := [], laidByText := true, laidKinds := [.data, .data, .data], laidTests := true, laidLooks := .later }
def FnExactPotTextUptoCardSaid : Prop := Claim7.holds Tryd.pinned (.plain (OpenSpec.upto fnExactPotTextSpec)) fnExactPotTextUptoCard

/-- THE SECOND FORM's CARD OF 'laws.FnExactPaperText'. -/
def fnExactPaperTextUptoCard : Claim7 := { stood := { row := fnExactPaperTextUptoRow, standIns := [], harness := (true, "7fd0f6b2ae1856d649a9e15483478b1ec2273e321b2f1f292550d78de196664f"), looks := false }, kinds := [], alts := [], laidByText := true, laidKinds := [.data, .data, .data], laidTests := true, laidLooks := .later }
def FnExactPaperTextUptoCardSaid : Prop := Claim7.holds Tryd.pinned (.plain (OpenSpec.upto fnExactPaperTextSpec)) fnExactPaperTextUptoCard

/-- THE SECOND FORM's CARD OF 'laws.FnExactRentalText'. -/
def fnExactRentalTextUptoCard : Claim7 := { stood := { row := fnExactRentalTextUptoRow, standIns := [], harness := (true, "7fd0f6b2ae1856d649a9e15483478b1ec2273e321b2f1f292550d78de196664f"), looks := false }, kinds := [], alts := [], laidByText := true, laidKinds := [.data, .data, .data], laidTests := true, laidLooks := .later }
def FnExactRentalTextUptoCardSaid : Prop := Claim7.holds Tryd.pinned (.plain (OpenSpec.upto fnExactRentalTextSpec)) fnExactRentalTextUptoCard

/-- THE SECOND FORM's CARD OF 'laws.FnExactVersionText'. -/
def fnExactVersionTextUptoCard : Claim7 := { stood := { row := fnExactVersionTextUptoRow, standIns := [], harness := (true, "7fd0f6b2ae1856d649a9e15483478b1ec2273e321b2f1f292550d78de196664f"), looks := false }, kinds := [], alts := [], laidByText := true, laidKinds := [.data, .data, .data], laidTests := true, laidLooks := .later }
def FnExactVersionTextUptoCardSaid : Prop := Claim7.holds Tryd.pinned (.plain (OpenSpec.upto fnExactVersionTextSpec)) fnExactVersionTextUptoCard

/-- THE SECOND FORM's CARD OF 'laws.FnExactStepText'. -/
def fnExactStepTextUptoCard : Claim7 := { stood := { row := fnExactStepTextUptoRow, standIns := [], harness := (true, "7fd0f6b2ae1856d649a9e15483478b1ec2273e321b2f1f292550d78de196664f"), looks := false }, kinds := [], alts := [], laidByText := true, laidKinds := [.data, .data, .data], laidTests := true, laidLooks := .later }
def FnExactStepTextUptoCardSaid : Prop := Claim7.holds Tryd.pinned (.plain (OpenSpec.upto fnExactStepTextSpec)) fnExactStepTextUptoCard

/-- THE SECOND FORM's CARD OF 'laws.FnExactCoatText'. -/
def fnExactCoatTextUptoCard : Claim7 := { stood := { row := fnExactCoatTextUptoRow, standIns := [], harness := (true, "7fd0f6b2ae1856d649a9e15483478b1ec2273e321b2f1f292550d78de196664f"), looks := false }, kinds := [], alts := [], laidByText := true, laidKinds := [.data, .data, .data], laidTests := true, laidLooks := .later }
def FnExactCoatTextUptoCardSaid : Prop := Claim7.holds Tryd.pinned (.plain (OpenSpec.upto fnExactCoatTextSpec)) fnExactCoatTextUptoCard

/-- THE SECOND FORM's CARD OF 'laws.FnExactStackText'. -/
def fnExactStackTextUptoCard : Claim7 := { stood := { row := fnExactStackTextUptoRow, standIns := [], harness := (true, "7fd0f6b2ae1856d649a9e15483478b1ec2273e321b2f1f292550d78de196664f"), looks := false }, kinds := [], alts := [], laidByText := true, laidKinds := [.data, .data, .data], laidTests := true, laidLooks := .later }
def FnExactStackTextUptoCardSaid : Prop := Claim7.holds Tryd.pinned (.plain (OpenSpec.upto fnExactStackTextSpec)) fnExactStackTextUptoCard
end Rows
end Go.Proofs.YtdjobekjfggndabDoor
