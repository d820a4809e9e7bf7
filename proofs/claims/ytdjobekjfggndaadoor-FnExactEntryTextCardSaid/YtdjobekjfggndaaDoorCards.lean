/-
  DERIVED. GIVEN WITH THE SEED: THE CARDS: each row of YtdjobekjfggndaaDoorRows.lean that lists a variable, with what it lists TIED to the program's text (the seventh form; the later family's looks); each row that meets fmt, with fmt's text TOLD by the authors' own Lean function (tested against real Go, not proved from fmt's source: count such statements apart). THE CARD IS WHAT COUNTS. Prove the row's statement (the work); the ties are given (YtdjobekjfggndaaDoorTie.lean); close each card by the builder's one call (the guide's Derived/Test/ToyasCard.lean, 'card_holds'). Laid BY PROGRAM, IN A SANDBOX (cutbox-door.mjs). By AI agents, Wed Nov 11 2026. No macro, syntax, notation, axiom, sorry.
-/
import Derived.Test.YtdjobekjfggndaaDoorRows
import GoSem.ClaimSeven
namespace Go.Proofs.YtdjobekjfggndaaDoor
namespace Rows

/-- THE TIED CARD OF 'laws.FnExactPartText'. -/
def fnExactPartTextCard : Claim7 := { stood := { row := fnExactPartTextRow, standIns := [], harness := (true, "11b61c58341a551c92fcaf26ae6de85285130a74315442ceac96ab13f492c5a3"), looks := false }, kinds := [], alts := [], laidByText := true, laidKinds := [.data, .data, .data], laidTests := true, laidLooks := .later }
def FnExactPartTextCardSaid : Prop := Claim7.holds Tryd.pinned (.plain (OpenSpec.ofChange fnExactPartTextSpec)) fnExactPartTextCard

/-- THE TIED CARD OF 'laws.FnExactDeedText'. -/
def fnExactDeedTextCard : Claim7 := { stood := { row := fnExactDeedTextRow, standIns := [], harness := (true, "11b61c58341a551c92fcaf26ae6de85285130a74315442ceac96ab13f492c5a3"), looks := false }, kinds := [], alts := [], laidByText := true, laidKinds := [.data, .data, .data], laidTests := true, laidLooks := .later }
def FnExactDeedTextCardSaid : Prop := Claim7.holds Tryd.pinned (.plain (OpenSpec.ofChange fnExactDeedTextSpec)) fnExactDeedTextCard

/-- THE TIED CARD OF 'laws.FnExactEntryText'. -/
def fnExactEntryTextCard : Claim7 := { stood := { row := fnExactEntryTextRow, standIns := [], harness := (true, "11b61c58341a551c92fcaf26ae6de85285130a74315442ceac96ab13f492c5a3"), looks := false }, kinds := [], alts := [], laidByText := true, laidKinds := [.data, .data, .data], laidTests := true, laidLooks := .later }
def FnExactEntryTextCardSaid : Prop := Claim7.holds Tryd.pinned (.plain (OpenSpec.ofChange fnExactEntryTextSpec)) fnExactEntryTextCard

/-- THE TIED CARD OF 'laws.FnExactVisitText'. -/
def fnExactVisitTextCard : Claim7 := { stood := { row := fnExactVisitTextRow, standIns := [], harness := (true, "11b61c58341a551c92fcaf26ae6de85285130a74315442ceac96ab13f492c5a3"), looks := false }, kinds := [], alts := [], laidByText := true, laidKinds := [.data, .data, .data], laidTests := true, laidLooks := .later }
def FnExactVisitTextCardSaid : Prop := Claim7.holds Tryd.pinned (.plain (OpenSpec.ofChange fnExactVisitTextSpec)) fnExactVisitTextCard

/-- THE TIED CARD OF 'laws.FnExactRibText'. -/
def fnExactRibTextCard : Claim7 := { stood := { row := fnExactRibTextRow, standIns := [], harness := (true, "11b61c58341a551c92fcaf26ae6de85285130a74315442ceac96ab13f492c5a3"), looks := false }, kinds := [], alts := [], laidByText := true, laidKinds := [.data, .data, .data], laidTests := true, laidLooks := .later }
def FnExactRibTextCardSaid : Prop := Claim7.holds Tryd.pinned (.plain (OpenSpec.ofChange fnExactRibTextSpec)) fnExactRibTextCard

/-- THE TIED CARD OF 'laws.FnExactModeText'. -/
def fnExactModeTextCard : Claim7 := { stood := { row := fnExactModeTextRow, standIns := [], harness := (true, "11b61c58341a551c92fcaf26ae6de85285130a74315442ceac96ab13f492c5a3"), looks := false }, kinds := [], alts := [], laidByText := true, laidKinds := [.data, .data, .data], laidTests := true, laidLooks := .later }
def FnExactModeTextCardSaid : Prop := Claim7.holds Tryd.pinned (.plain (OpenSpec.ofChange fnExactModeTextSpec)) fnExactModeTextCard

/-- THE TIED CARD OF 'laws.FnExactPegText'. -/
def fnExactPegTextCard : Claim7 := { stood := { row := fnExactPegTextRow, standIns := [], harness := (true, "11b61c58341a551c92fcaf26ae6de85285130a74315442ceac96ab13f492c5a3"), looks := false }, kinds := [], alts := [], laidByText := true, laidKinds := [.data, .data, .data], laidTests := true, laidLooks := .later }
def FnExactPegTextCardSaid : Prop := Claim7.holds Tryd.pinned (.plain (OpenSpec.ofChange fnExactPegTextSpec)) fnExactPegTextCard

/-- THE TIED CARD OF 'laws.FnExactQuoteText'. -/
def fnExactQuoteTextCard : Claim7 := { stood := { row := fnExactQuoteTextRow, standIns := [], harness := (true, "11b61c58341a551c92fcaf26ae6de85285130a74315442ceac96ab13f492c5a3"), looks := false }, kinds := [], alts := [], laidByText := true, laidKinds := [.data, .data, .data], laidTests := true, laidLooks := .later }
def FnExactQuoteTextCardSaid : Prop := Claim7.holds Tryd.pinned (.plain (OpenSpec.ofChange fnExactQuoteTextSpec)) fnExactQuoteTextCard

/-- THE TIED CARD OF 'laws.FnExactGoodText'. -/
def fnExactGoodTextCard : Claim7 := { stood := { row := fnExactGoodTextRow, standIns := [], harness := (true, "11b61c58341a551c92fcaf26ae6de85285130a74315442ceac96ab13f492c5a3"), looks := false }, kinds := [], alts := [], laidByText := true, laidKinds := [.data, .data, .data], laidTests := true, laidLooks := .later }
def FnExactGoodTextCardSaid : Prop := Claim7.holds Tryd.pinned (.plain (OpenSpec.ofChange fnExactGoodTextSpec)) fnExactGoodTextCard

/-- THE SECOND FORM's CARD OF 'laws.FnExactPartText'. -/
def fnExactPartTextUptoCard : Claim7 := { stood := { row := fnExactPartTextUptoRow, standIns := [], harness := (true, "11b61c58341a551c92fcaf26ae6de85285130a74315442ceac96ab13f492c5a3"), looks := false }, kinds := [], alts := [], laidByText := true, laidKinds := [.data, .data, .data], laidTests := true, laidLooks := .later }
def FnExactPartTextUptoCardSaid : Prop := Claim7.holds Tryd.pinned (.plain (OpenSpec.upto fnExactPartTextSpec)) fnExactPartTextUptoCard

/-- THE SECOND FORM's CARD OF 'laws.FnExactDeedText'. -/
def fnExactDeedTextUptoCard : Claim7 := { stood := { row := fnExactDeedTextUptoRow, standIns := [], harness := (true, "11b61c58341a551c92fcaf26ae6de85285130a74315442ceac96ab13f492c5a3"), looks := false }, kinds := [], alts := [], laidByText := true, laidKinds := [.data, .data, .data], laidTests := true, laidLooks := .later }
def FnExactDeedTextUptoCardSaid : Prop := Claim7.holds Tryd.pinned (.plain (OpenSpec.upto fnExactDeedTextSpec)) fnExactDeedTextUptoCard

/-- THE SECOND FORM's CARD OF 'laws.FnExactEntryText'. -/
def fnExactEntryTextUptoCard : Claim7 := { stood := { row := fnExactEntryTextUptoRow, standIns := [], harness := (true, "11b61c58341a551c92fcaf26ae6de85285130a74315442ceac96ab13f492c5a3"), looks := false }, kinds := [], alts := [], laidByText := true, laidKinds := [.data, .data, .data], laidTests := true, laidLooks := .later }
def FnExactEntryTextUptoCardSaid : Prop := Claim7.holds Tryd.pinned (.plain (OpenSpec.upto fnExactEntryTextSpec)) fnExactEntryTextUptoCard

/-- THE SECOND FORM's CARD OF 'laws.FnExactVisitText'. -/
def fnExactVisitTextUptoCard : Claim7 := { stood := { row := fnExactVisitTextUptoRow, standIns := [], harness := (true, "11b61c58341a551c92fcaf26ae6de85285130a74315442ceac96ab13f492c5a3"), looks := false }, kinds := [], alts := [], laidByText := true, laidKinds := [.data, .data, .data], laidTests := true, laidLooks := .later }
def FnExactVisitTextUptoCardSaid : Prop := Claim7.holds Tryd.pinned (.plain (OpenSpec.upto fnExactVisitTextSpec)) fnExactVisitTextUptoCard

/-- THE SECOND FORM's CARD OF 'laws.FnExactRibText'. -/
def fnExactRibTextUptoCard : Claim7 := { stood := { row := fnExactRibTextUptoRow, standIns := [], harness := (true, "11b61c58341a551c92fcaf26ae6de85285130a74315442ceac96ab13f492c5a3"), looks := false }, kinds := [], alts := [], laidByText := true, laidKinds := [.data, .data, .data], laidTests := true, laidLooks := .later }
def FnExactRibTextUptoCardSaid : Prop := Claim7.holds Tryd.pinned (.plain (OpenSpec.upto fnExactRibTextSpec)) fnExactRibTextUptoCard

/-- THE SECOND FORM's CARD OF 'laws.FnExactModeText'. -/
def fnExactModeTextUptoCard : Claim7 := { stood := { row := fnExactModeTextUptoRow, standIns := [], harness := (true, "11b61c58341a551c92fcaf26ae6de85285130a74315442ceac96ab13f492c5a3"), looks := false }, kinds := [], alts := [], laidByText := true, laidKinds := [.data, .data, .data], laidTests := true, laidLooks := .later }
def FnExactModeTextUptoCardSaid : Prop := Claim7.holds Tryd.pinned (.plain (OpenSpec.upto fnExactModeTextSpec)) fnExactModeTextUptoCard

/-- THE SECOND FORM's CARD OF 'laws.FnExactPegText'. -/
def fnExactPegTextUptoCard : Claim7 := { stood := { row := fnExactPegTextUptoRow, standIns := [], harness := (true, "11b61c58341a551c92fcaf26ae6de85285130a74315442ceac96ab13f492c5a3"), looks := false }, kinds := [], alts := [], laidByText := true, laidKinds := [.data, .data, .data], laidTests := true, laidLooks := .later }
def FnExactPegTextUptoCardSaid : Prop := Claim7.holds Tryd.pinned (.plain (OpenSpec.upto fnExactPegTextSpec)) fnExactPegTextUptoCard

/-- THE SECOND FORM's CARD OF 'laws.FnExactQuoteText'. -/
def fnExactQuoteTextUptoCard : Claim7 := { stood := { row := fnExactQuoteTextUptoRow, standIns := [], harness := (true, "11b61c58341a551c92fcaf26ae6de85285130a74315442ceac96ab13f492c5a3"), looks := false }, kinds := [], alts := [], laidByText := true, laidKinds := [.data, .data, .data], laidTests := true, laidLooks := .later }
def FnExactQuoteTextUptoCardSaid : Prop := Claim7.holds Tryd.pinned (.plain (OpenSpec.upto fnExactQuoteTextSpec)) fnExactQuoteTextUptoCard

/-- THE SECOND FORM's CARD OF 'laws.FnExactGoodText'. -/
def fnExactGoodTextUptoCard : Claim7 := { stood := { row := fnExactGoodTextUptoRow, standIns := [], harness := (true, "11b61c58341a551c92fcaf26ae6de85285130a74315442ceac96ab13f492c5a3"), looks := false }, kinds := [], alts := [], laidByText := true, laidKinds := [.data, .data, .data], laidTests := true, laidLooks := .later }
def FnExactGoodTextUptoCardSaid : Prop := Claim7.holds Tryd.pinned (.plain (OpenSpec.upto fnExactGoodTextSpec)) fnExactGoodTextUptoCard
end Rows
end Go.Proofs.YtdjobekjfggndaaDoor
