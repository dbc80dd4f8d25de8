/-
  DERIVED. GIVEN WITH THE SEED: THE CARDS: each row of YtfpcoanlkfgagaaGreatDoorRows.lean that lists a variable, with what it lists TIED to the program's text (the seventh form; the later family's looks); each row that meets fmt, with fmt's text TOLD by the authors' own Lean function (tested against real Go, not proved from fmt's source: count such statements apart). THE CARD IS WHAT COUNTS. Prove the row's statement (the work); the ties are given (YtfpcoanlkfgagaaGreatDoorTie.lean); close each card by the builder's one call (the guide's Derived/Test/ToyasCard.lean, 'card_holds'). Laid BY PROGRAM, IN A SANDBOX (cutbox-door.mjs). By AI agents, Wed Nov 11 2026. No macro, syntax, notation, axiom, sorry.
-/
import Derived.Test.YtfpcoanlkfgagaaGreatDoorRows
import GoSem.ClaimSeven
namespace Go.Proofs.YtfpcoanlkfgagaaGreatDoor
namespace Rows

/-- THE TIED CARD OF 'odometerlaw08.ReplyOnce'. -/
def replyOnceCard : Claim7 := { stood := { row := replyOnceRow, standIns := [], harness := (true, "3f6b4cc0057514a2d8f40b27c11acdf16e0c58a994027a038c6a2e6068b0ce47"), looks := true }, kinds := [], alts := [], laidByText := true, laidKinds := [.data, .data, .data, .data, .sentinel, .sentinel, .pinned], laidTests := true, laidLooks := .later }
def ReplyOnceCardSaid : Prop := Claim7.holds Tryz.pinned (.plain (OpenSpec.ofChange replyOnceSpec)) replyOnceCard

/-- THE TIED CARD OF 'odometerlaw08.ReplyNil'. -/
def replyNilCard : Claim7 := { stood := { row := replyNilRow, standIns := [], harness := (true, "3f6b4cc0057514a2d8f40b27c11acdf16e0c58a994027a038c6a2e6068b0ce47"), looks := true }, kinds := [], alts := [], laidByText := true, laidKinds := [.data, .data, .data, .data, .sentinel, .sentinel, .pinned], laidTests := true, laidLooks := .later }
def ReplyNilCardSaid : Prop := Claim7.holds Tryz.pinned (.plain (OpenSpec.ofChange replyNilSpec)) replyNilCard

/-- THE SECOND FORM's CARD OF 'odometerlaw08.ReplyOnce'. -/
def replyOnceUptoCard : Claim7 := { stood := { row := replyOnceUptoRow, standIns := [], harness := (true, "3f6b4cc0057514a2d8f40b27c11acdf16e0c58a994027a038c6a2e6068b0ce47"), looks := true }, kinds := [], alts := [], laidByText := true, laidKinds := [.data, .data, .data, .data, .sentinel, .sentinel, .pinned], laidTests := true, laidLooks := .later }
def ReplyOnceUptoCardSaid : Prop := Claim7.holds Tryz.pinned (.plain (OpenSpec.upto replyOnceSpec)) replyOnceUptoCard

/-- THE SECOND FORM's CARD OF 'odometerlaw08.ReplyNil'. -/
def replyNilUptoCard : Claim7 := { stood := { row := replyNilUptoRow, standIns := [], harness := (true, "3f6b4cc0057514a2d8f40b27c11acdf16e0c58a994027a038c6a2e6068b0ce47"), looks := true }, kinds := [], alts := [], laidByText := true, laidKinds := [.data, .data, .data, .data, .sentinel, .sentinel, .pinned], laidTests := true, laidLooks := .later }
def ReplyNilUptoCardSaid : Prop := Claim7.holds Tryz.pinned (.plain (OpenSpec.upto replyNilSpec)) replyNilUptoCard
end Rows
end Go.Proofs.YtfpcoanlkfgagaaGreatDoor
