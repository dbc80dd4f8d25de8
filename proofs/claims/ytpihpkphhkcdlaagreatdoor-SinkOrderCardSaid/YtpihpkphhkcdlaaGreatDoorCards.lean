/-
  DERIVED. GIVEN WITH THE SEED: THE CARDS: each row of YtpihpkphhkcdlaaGreatDoorRows.lean that lists a variable, with what it lists TIED to the program's text (the seventh form; the later family's looks); each row that meets fmt, with fmt's text TOLD by the authors' own Lean function (tested against real Go, not proved from fmt's source: count such statements apart). THE CARD IS WHAT COUNTS. Prove the row's statement (the work); the ties are given (YtpihpkphhkcdlaaGreatDoorTie.lean); close each card by the builder's one call (the guide's Derived/Test/ToyasCard.lean, 'card_holds'). Laid BY PROGRAM, IN A SANDBOX (cutbox-door.mjs). By AI agents, Wed Nov 11 2026. No macro, syntax, notation, axiom, sorry.
-/
import Derived.Test.YtpihpkphhkcdlaaGreatDoorRows
import GoSem.ClaimSeven
namespace Go.Proofs.YtpihpkphhkcdlaaGreatDoor
namespace Rows

/-- THE TIED CARD OF 'odometerlaw31.SinkRanges'. -/
def sinkRangesCard : Claim7 := { stood := { row := sinkRangesRow, standIns := [], harness := (true, "4347c0c2f2b0b21ebda6d85682dd010923bb3184f4cb29afc0bb540350ab8152"), looks := true }, kinds := [], alts := [], laidByText := true, laidKinds := [.handle], laidTests := true, laidLooks := .later }
def SinkRangesCardSaid : Prop := Claim7.holds Tryz.pinned (.plain (OpenSpec.ofChange sinkRangesSpec)) sinkRangesCard

/-- THE TIED CARD OF 'odometerlaw31.SinkOrder'. -/
def sinkOrderCard : Claim7 := { stood := { row := sinkOrderRow, standIns := [], harness := (true, "4347c0c2f2b0b21ebda6d85682dd010923bb3184f4cb29afc0bb540350ab8152"), looks := true }, kinds := [], alts := [], laidByText := true, laidKinds := [.handle], laidTests := true, laidLooks := .later }
def SinkOrderCardSaid : Prop := Claim7.holds Tryz.pinned (.plain (OpenSpec.ofChange sinkOrderSpec)) sinkOrderCard

/-- THE TIED CARD OF 'odometerlaw31.SinkNil'. -/
def sinkNilCard : Claim7 := { stood := { row := sinkNilRow, standIns := [], harness := (true, "4347c0c2f2b0b21ebda6d85682dd010923bb3184f4cb29afc0bb540350ab8152"), looks := true }, kinds := [], alts := [], laidByText := true, laidKinds := [.handle], laidTests := true, laidLooks := .later }
def SinkNilCardSaid : Prop := Claim7.holds Tryz.pinned (.plain (OpenSpec.ofChange sinkNilSpec)) sinkNilCard

/-- THE SECOND FORM's CARD OF 'odometerlaw31.SinkRanges'. -/
def sinkRangesUptoCard : Claim7 := { stood := { row := sinkRangesUptoRow, standIns := [], harness := (true, "4347c0c2f2b0b21ebda6d85682dd010923bb3184f4cb29afc0bb540350ab8152"), looks := true }, kinds := [], alts := [], laidByText := true, laidKinds := [.handle], laidTests := true, laidLooks := .later }
def SinkRangesUptoCardSaid : Prop := Claim7.holds Tryz.pinned (.plain (OpenSpec.upto sinkRangesSpec)) sinkRangesUptoCard

/-- THE SECOND FORM's CARD OF 'odometerlaw31.SinkOrder'. -/
def sinkOrderUptoCard : Claim7 := { stood := { row := sinkOrderUptoRow, standIns := [], harness := (true, "4347c0c2f2b0b21ebda6d85682dd010923bb3184f4cb29afc0bb540350ab8152"), looks := true }, kinds := [], alts := [], laidByText := true, laidKinds := [.handle], laidTests := true, laidLooks := .later }
def SinkOrderUptoCardSaid : Prop := Claim7.holds Tryz.pinned (.plain (OpenSpec.upto sinkOrderSpec)) sinkOrderUptoCard

/-- THE SECOND FORM's CARD OF 'odometerlaw31.SinkNil'. -/
def sinkNilUptoCard : Claim7 := { stood := { row := sinkNilUptoRow, standIns := [], harness := (true, "4347c0c2f2b0b21ebda6d85682dd010923bb3184f4cb29afc0bb540350ab8152"), looks := true }, kinds := [], alts := [], laidByText := true, laidKinds := [.handle], laidTests := true, laidLooks := .later }
def SinkNilUptoCardSaid : Prop := Claim7.holds Tryz.pinned (.plain (OpenSpec.upto sinkNilSpec)) sinkNilUptoCard
end Rows
end Go.Proofs.YtpihpkphhkcdlaaGreatDoor
