/-
  DERIVED. GIVEN WITH THE SEED: THE CARDS: each row of YtfpcoanlkfgagaaDoorRows.lean that lists a variable, with what it lists TIED to the program's text (the seventh form; the later family's looks); each row that meets fmt, with fmt's text TOLD by the authors' own Lean function (tested against real Go, not proved from fmt's source: count such statements apart). THE CARD IS WHAT COUNTS. Prove the row's statement (the work); the ties are given (YtfpcoanlkfgagaaDoorTie.lean); close each card by the builder's one call (the guide's Derived/Test/ToyasCard.lean, 'card_holds'). Laid BY PROGRAM, IN A SANDBOX (cutbox-door.mjs). By AI agents, Wed Nov 11 2026. No macro, syntax, notation, axiom, sorry.
-/
import Derived.Test.YtfpcoanlkfgagaaDoorRows
import GoSem.ClaimSeven
namespace Go.Proofs.YtfpcoanlkfgagaaDoor
namespace Rows

/-- THE TIED CARD OF 'odometerlaw07.BodyChunks'. -/
def bodyChunksCard : Claim7 := { stood := { row := bodyChunksRow, standIns := [], harness := (true, "825e3a5495938e07a6beae8a33da2c399a72a597952c23b924d121f4e6022971"), looks := true }, kinds := [], alts := [], laidByText := true, laidKinds := [.data, .data, .data, .data, .sentinel, .sentinel, .pinned], laidTests := true, laidLooks := .later }
def BodyChunksCardSaid : Prop := Claim7.holds Tryd.pinned (.plain (OpenSpec.ofChange bodyChunksSpec)) bodyChunksCard

/-- THE TIED CARD OF 'odometerlaw07.BodyNil'. -/
def bodyNilCard : Claim7 := { stood := { row := bodyNilRow, standIns := [], harness := (true, "825e3a5495938e07a6beae8a33da2c399a72a597952c23b924d121f4e6022971"), looks := true }, kinds := [], alts := [], laidByText := true, laidKinds := [.data, .data, .data, .data, .sentinel, .sentinel, .pinned], laidTests := true, laidLooks := .later }
def BodyNilCardSaid : Prop := Claim7.holds Tryd.pinned (.plain (OpenSpec.ofChange bodyNilSpec)) bodyNilCard

/-- THE TIED CARD OF 'odometerlaw06.HeadParses'. -/
def headParsesCard : Claim7 := { stood := { row := headParsesRow, standIns := [], harness := (true, "825e3a5495938e07a6beae8a33da2c399a72a597952c23b924d121f4e6022971"), looks := true }, kinds := [], alts := [], laidByText := true, laidKinds := [.data, .data, .data, .data, .sentinel, .sentinel, .pinned], laidTests := true, laidLooks := .later }
def HeadParsesCardSaid : Prop := Claim7.holds Tryd.pinned (.plain (OpenSpec.ofChange headParsesSpec)) headParsesCard

/-- THE TIED CARD OF 'odometerlaw06.HeadMeans'. -/
def headMeansCard : Claim7 := { stood := { row := headMeansRow, standIns := [], harness := (true, "825e3a5495938e07a6beae8a33da2c399a72a597952c23b924d121f4e6022971"), looks := true }, kinds := [], alts := [], laidByText := true, laidKinds := [.data, .data, .data, .data, .sentinel, .sentinel, .pinned], laidTests := true, laidLooks := .later }
def HeadMeansCardSaid : Prop := Claim7.holds Tryd.pinned (.plain (OpenSpec.ofChange headMeansSpec)) headMeansCard

/-- THE TIED CARD OF 'odometerlaw06.HeadTexts'. -/
def headTextsCard : Claim7 := { stood := { row := headTextsRow, standIns := [], harness := (true, "825e3a5495938e07a6beae8a33da2c399a72a597952c23b924d121f4e6022971"), looks := true }, kinds := [], alts := [], laidByText := true, laidKinds := [.data, .data, .data, .data, .sentinel, .sentinel, .pinned], laidTests := true, laidLooks := .later }
def HeadTextsCardSaid : Prop := Claim7.holds Tryd.pinned (.plain (OpenSpec.ofChange headTextsSpec)) headTextsCard

/-- THE TIED CARD OF 'odometerlaw06.HeadLarge'. -/
def headLargeCard : Claim7 := { stood := { row := headLargeRow, standIns := [], harness := (true, "825e3a5495938e07a6beae8a33da2c399a72a597952c23b924d121f4e6022971"), looks := true }, kinds := [], alts := [], laidByText := true, laidKinds := [.data, .data, .data, .data, .sentinel, .sentinel, .pinned], laidTests := true, laidLooks := .later }
def HeadLargeCardSaid : Prop := Claim7.holds Tryd.pinned (.plain (OpenSpec.ofChange headLargeSpec)) headLargeCard

/-- THE TIED CARD OF 'odometerlaw06.HeadFields'. -/
def headFieldsCard : Claim7 := { stood := { row := headFieldsRow, standIns := [], harness := (true, "825e3a5495938e07a6beae8a33da2c399a72a597952c23b924d121f4e6022971"), looks := true }, kinds := [], alts := [], laidByText := true, laidKinds := [.data, .data, .data, .data, .sentinel, .sentinel, .pinned], laidTests := true, laidLooks := .later }
def HeadFieldsCardSaid : Prop := Claim7.holds Tryd.pinned (.plain (OpenSpec.ofChange headFieldsSpec)) headFieldsCard

/-- THE SECOND FORM's CARD OF 'odometerlaw07.BodyChunks'. -/
def bodyChunksUptoCard : Claim7 := { stood := { row := bodyChunksUptoRow, standIns := [], harness := (true, "825e3a5495938e07a6beae8a33da2c399a72a597952c23b924d121f4e6022971"), looks := true }, kinds := [], alts := [], laidByText := true, laidKinds := [.data, .data, .data, .data, .sentinel, .sentinel, .pinned], laidTests := true, laidLooks := .later }
def BodyChunksUptoCardSaid : Prop := Claim7.holds Tryd.pinned (.plain (OpenSpec.upto bodyChunksSpec)) bodyChunksUptoCard

/-- THE SECOND FORM's CARD OF 'odometerlaw07.BodyNil'. -/
def bodyNilUptoCard : Claim7 := { stood := { row := bodyNilUptoRow, standIns := [], harness := (true, "825e3a5495938e07a6beae8a33da2c399a72a597952c23b924d121f4e6022971"), looks := true }, kinds := [], alts := [], laidByText := true, laidKinds := [.data, .data, .data, .data, .sentinel, .sentinel, .pinned], laidTests := true, laidLooks := .later }
def BodyNilUptoCardSaid : Prop := Claim7.holds Tryd.pinned (.plain (OpenSpec.upto bodyNilSpec)) bodyNilUptoCard

/-- THE SECOND FORM's CARD OF 'odometerlaw06.HeadParses'. -/
def headParsesUptoCard : Claim7 := { stood := { row := headParsesUptoRow, standIns := [], harness := (true, "825e3a5495938e07a6beae8a33da2c399a72a597952c23b924d121f4e6022971"), looks := true }, kinds := [], alts := [], laidByText := true, laidKinds := [.data, .data, .data, .data, .sentinel, .sentinel, .pinned], laidTests := true, laidLooks := .later }
def HeadParsesUptoCardSaid : Prop := Claim7.holds Tryd.pinned (.plain (OpenSpec.upto headParsesSpec)) headParsesUptoCard

/-- THE SECOND FORM's CARD OF 'odometerlaw06.HeadMeans'. -/
def headMeansUptoCard : Claim7 := { stood := { row := headMeansUptoRow, standIns := [], harness := (true, "825e3a5495938e07a6beae8a33da2c399a72a597952c23b924d121f4e6022971"), looks := true }, kinds := [], alts := [], laidByText := true, laidKinds := [.data, .data, .data, .data, .sentinel, .sentinel, .pinned], laidTests := true, laidLooks := .later }
def HeadMeansUptoCardSaid : Prop := Claim7.holds Tryd.pinned (.plain (OpenSpec.upto headMeansSpec)) headMeansUptoCard

/-- THE SECOND FORM's CARD OF 'odometerlaw06.HeadTexts'. -/
def headTextsUptoCard : Claim7 := { stood := { row := headTextsUptoRow, standIns := [], harness := (true, "825e3a5495938e07a6beae8a33da2c399a72a597952c23b924d121f4e6022971"), looks := true }, kinds := [], alts := [], laidByText := true, laidKinds := [.data, .data, .data, .data, .sentinel, .sentinel, .pinned], laidTests := true, laidLooks := .later }
def HeadTextsUptoCardSaid : Prop := Claim7.holds Tryd.pinned (.plain (OpenSpec.upto headTextsSpec)) headTextsUptoCard

/-- THE SECOND FORM's CARD OF 'odometerlaw06.HeadLarge'. -/
def headLargeUptoCard : Claim7 := { stood := { row := headLargeUptoRow, standIns := [], harness := (true, "825e3a5495938e07a6beae8a33da2c399a72a597952c23b924d121f4e6022971"), looks := true }, kinds := [], alts := [], laidByText := true, laidKinds := [.data, .data, .data, .data, .sentinel, .sentinel, .pinned], laidTests := true, laidLooks := .later }
def HeadLargeUptoCardSaid : Prop := Claim7.holds Tryd.pinned (.plain (OpenSpec.upto headLargeSpec)) headLargeUptoCard

/-- THE SECOND FORM's CARD OF 'odometerlaw06.HeadFields'. -/
def headFieldsUptoCard : Claim7 := { stood := { row := headFieldsUptoRow, standIns := [], harness := (true, "825e3a5495938e07a6beae8a33da2c399a72a597952c23b924d121f4e6022971"), looks := true }, kinds := [], alts := [], laidByText := true, laidKinds := [.data, .data, .data, .data, .sentinel, .sentinel, .pinned], laidTests := true, laidLooks := .later }
def HeadFieldsUptoCardSaid : Prop := Claim7.holds Tryd.pinned (.plain (OpenSpec.upto headFieldsSpec)) headFieldsUptoCard
end Rows
end Go.Proofs.YtfpcoanlkfgagaaDoor
