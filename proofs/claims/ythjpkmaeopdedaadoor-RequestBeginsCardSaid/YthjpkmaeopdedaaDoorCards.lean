/-
  DERIVED. GIVEN WITH THE SEED: THE CARDS: each row of YthjpkmaeopdedaaDoorRows.lean that lists a variable, with what it lists TIED to the program's text (the seventh form; the later family's looks); each row that meets fmt, with fmt's text TOLD by the authors' own Lean function (tested against real Go, not proved from fmt's source: count such statements apart). THE CARD IS WHAT COUNTS. Prove the row's statement (the work); the ties are given (YthjpkmaeopdedaaDoorTie.lean); close each card by the builder's one call (the guide's Derived/Test/ToyasCard.lean, 'card_holds'). Laid BY PROGRAM, IN A SANDBOX (cutbox-door.mjs). By AI agents, Wed Nov 11 2026. No macro, syntax, notation, axiom, sorry.
-/
import Derived.Test.YthjpkmaeopdedaaDoorRows
import GoSem.ClaimSeven
namespace Go.Proofs.YthjpkmaeopdedaaDoor
namespace Rows

/-- THE TIED CARD OF 'odometerlaw05.RequestBytes'. -/
def requestBytesCard : Claim7 := { stood := { row := requestBytesRow, standIns := [], harness := (true, "ed0a7388d04d267754d30b407a85427920297929ea94d0d9c1e6bf86c3b9453b"), looks := false }, kinds := [], alts := [], laidByText := true, laidKinds := [.data, .pinned], laidTests := true, laidLooks := .later }
def RequestBytesCardSaid : Prop := Claim7.holds Tryd.pinned (.plain (OpenSpec.ofChange requestBytesSpec)) requestBytesCard

/-- THE TIED CARD OF 'odometerlaw05.RequestReads'. -/
def requestReadsCard : Claim7 := { stood := { row := requestReadsRow, standIns := [], harness := (true, "ed0a7388d04d267754d30b407a85427920297929ea94d0d9c1e6bf86c3b9453b"), looks := false }, kinds := [], alts := [], laidByText := true, laidKinds := [.data, .pinned], laidTests := true, laidLooks := .later }
def RequestReadsCardSaid : Prop := Claim7.holds Tryd.pinned (.plain (OpenSpec.ofChange requestReadsSpec)) requestReadsCard

/-- THE TIED CARD OF 'odometerlaw05.RequestBegins'. -/
def requestBeginsCard : Claim7 := { stood := { row := requestBeginsRow, standIns := [], harness := (true, "ed0a7388d04d267754d30b407a85427920297929ea94d0d9c1e6bf86c3b9453b"), looks := false }, kinds := [], alts := [], laidByText := true, laidKinds := [.data, .pinned], laidTests := true, laidLooks := .later }
def RequestBeginsCardSaid : Prop := Claim7.holds Tryd.pinned (.plain (OpenSpec.ofChange requestBeginsSpec)) requestBeginsCard

/-- THE SECOND FORM's CARD OF 'odometerlaw05.RequestBytes'. -/
def requestBytesUptoCard : Claim7 := { stood := { row := requestBytesUptoRow, standIns := [], harness := (true, "ed0a7388d04d267754d30b407a85427920297929ea94d0d9c1e6bf86c3b9453b"), looks := false }, kinds := [], alts := [], laidByText := true, laidKinds := [.data, .pinned], laidTests := true, laidLooks := .later }
def RequestBytesUptoCardSaid : Prop := Claim7.holds Tryd.pinned (.plain (OpenSpec.upto requestBytesSpec)) requestBytesUptoCard

/-- THE SECOND FORM's CARD OF 'odometerlaw05.RequestReads'. -/
def requestReadsUptoCard : Claim7 := { stood := { row := requestReadsUptoRow, standIns := [], harness := (true, "ed0a7388d04d267754d30b407a85427920297929ea94d0d9c1e6bf86c3b9453b"), looks := false }, kinds := [], alts := [], laidByText := true, laidKinds := [.data, .pinned], laidTests := true, laidLooks := .later }
def RequestReadsUptoCardSaid : Prop := Claim7.holds Tryd.pinned (.plain (OpenSpec.upto requestReadsSpec)) requestReadsUptoCard

/-- THE SECOND FORM's CARD OF 'odometerlaw05.RequestBegins'. -/
def requestBeginsUptoCard : Claim7 := { stood := { row := requestBeginsUptoRow, standIns := [], harness := (true, "ed0a7388d04d267754d30b407a85427920297929ea94d0d9c1e6bf86c3b9453b"), looks := false }, kinds := [], alts := [], laidByText := true, laidKinds := [.data, .pinned], laidTests := true, laidLooks := .later }
def RequestBeginsUptoCardSaid : Prop := Claim7.holds Tryd.pinned (.plain (OpenSpec.upto requestBeginsSpec)) requestBeginsUptoCard
end Rows
end Go.Proofs.YthjpkmaeopdedaaDoor
