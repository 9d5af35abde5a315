/-
  DERIVED. GIVEN WITH THE SEED: THE CARDS: each row of YtgeljcnlegbedaaDoorRows.lean that lists a variable, with what it lists TIED to the program's text (the seventh form; the later family's looks); each row that meets fmt, with fmt's text TOLD by the authors' own Lean function (tested against real Go, not proved from fmt's source: count such statements apart). THE CARD IS WHAT COUNTS. Prove the row's statement (the work); the ties are given (YtgeljcnlegbedaaDoorTie.lean); close each card by the builder's one call (the guide's Derived/Test/ToyasCard.lean, 'card_holds'). Laid BY PROGRAM, IN A SANDBOX (cutbox-door.mjs). By AI agents, Wed Nov 11 2026. No macro, syntax, notation, axiom, sorry.
-/
import Derived.Test.YtgeljcnlegbedaaDoorRows
import GoSem.ClaimSeven
namespace Go.Proofs.YtgeljcnlegbedaaDoor
namespace Rows

/-- THE TIED CARD OF 'laws.FnChained'. -/
def fnChainedCard : Claim7 := { stood := { row := fnChainedRow, standIns := [], harness := (true, "97445cc7ac2756ed0869efa71f3ddef29bb8f1c4ffb96aaee27c863f64481482"), looks := true }, kinds := [], alts := [], laidByText := true, laidKinds := [.data, .pinned], laidTests := true, laidLooks := .later }
def FnChainedCardSaid : Prop := Claim7.holds Tryd.pinned (.plain (OpenSpec.ofChange fnChainedSpec)) fnChainedCard

/-- THE TIED CARD OF 'laws.FnExactReadDeed'. -/
def fnExactReadDeedCard : Claim7 := { stood := { row := fnExactReadDeedRow, standIns := [], harness := (true, "97445cc7ac2756ed0869efa71f3ddef29bb8f1c4ffb96aaee27c863f64481482"), looks := true }, kinds := [], alts := [], laidByText := true, laidKinds := [.data, .data, .data, .sentinel, .sentinel], laidTests := true, laidLooks := .later }
def FnExactReadDeedCardSaid : Prop := Claim7.holds Tryd.pinned (.plain (OpenSpec.ofChange fnExactReadDeedSpec)) fnExactReadDeedCard

/-- THE TIED CARD OF 'laws.FnExactImagesOf'. -/
def fnExactImagesOfCard : Claim7 := { stood := { row := fnExactImagesOfRow, standIns := [], harness := (true, "97445cc7ac2756ed0869efa71f3ddef29bb8f1c4ffb96aaee27c863f64481482"), looks := true }, kinds := [], alts := [], laidByText := true, laidKinds := [.data, .pinned], laidTests := true, laidLooks := .later }
def FnExactImagesOfCardSaid : Prop := Claim7.holds Tryd.pinned (.plain (OpenSpec.ofChange fnExactImagesOfSpec)) fnExactImagesOfCard

/-- THE TIED CARD OF 'laws.FnExactIsLetterwise'. -/
def fnExactIsLetterwiseCard : Claim7 := { stood := { row := fnExactIsLetterwiseRow, standIns := [], harness := (true, "97445cc7ac2756ed0869efa71f3ddef29bb8f1c4ffb96aaee27c863f64481482"), looks := true }, kinds := [], alts := [], laidByText := true, laidKinds := [.data, .data, .data], laidTests := true, laidLooks := .later }
def FnExactIsLetterwiseCardSaid : Prop := Claim7.holds Tryd.pinned (.plain (OpenSpec.ofChange fnExactIsLetterwiseSpec)) fnExactIsLetterwiseCard

/-- THE TIED CARD OF 'laws.FnExactRelationOfScribe'. -/
def fnExactRelationOfScribeCard : Claim7 := { stood := { row := fnExactRelationOfScribeRow, standIns := [], harness := (true, "97445cc7ac2756ed0869efa71f3ddef29bb8f1c4ffb96aaee27c863f64481482"), looks := true }, kinds := [], alts := [], laidByText := true, laidKinds := [.data, .data, .data], laidTests := true, laidLooks := .later }
def FnExactRelationOfScribeCardSaid : Prop := Claim7.holds Tryd.pinned (.plain (OpenSpec.ofChange fnExactRelationOfScribeSpec)) fnExactRelationOfScribeCard

/-- THE TIED CARD OF 'laws.FnFunctional'. -/
def fnFunctionalCard : Claim7 := { stood := { row := fnFunctionalRow, standIns := [], harness := (true, "97445cc7ac2756ed0869efa71f3ddef29bb8f1c4ffb96aaee27c863f64481482"), looks := true }, kinds := [], alts := [], laidByText := true, laidKinds := [.data, .pinned], laidTests := true, laidLooks := .later }
def FnFunctionalCardSaid : Prop := Claim7.holds Tryd.pinned (.plain (OpenSpec.ofChange fnFunctionalSpec)) fnFunctionalCard

/-- THE TIED CARD OF 'laws.FnExactInputsOf'. -/
def fnExactInputsOfCard : Claim7 := { stood := { row := fnExactInputsOfRow, standIns := [], harness := (true, "97445cc7ac2756ed0869efa71f3ddef29bb8f1c4ffb96aaee27c863f64481482"), looks := true }, kinds := [], alts := [], laidByText := true, laidKinds := [.data, .data, .data], laidTests := true, laidLooks := .later }
def FnExactInputsOfCardSaid : Prop := Claim7.holds Tryd.pinned (.plain (OpenSpec.ofChange fnExactInputsOfSpec)) fnExactInputsOfCard

/-- THE TIED CARD OF 'laws.FnExactTransducerOf'. -/
def fnExactTransducerOfCard : Claim7 := { stood := { row := fnExactTransducerOfRow, standIns := [], harness := (true, "97445cc7ac2756ed0869efa71f3ddef29bb8f1c4ffb96aaee27c863f64481482"), looks := true }, kinds := [], alts := [], laidByText := true, laidKinds := [.data, .data, .data], laidTests := true, laidLooks := .later }
def FnExactTransducerOfCardSaid : Prop := Claim7.holds Tryd.pinned (.plain (OpenSpec.ofChange fnExactTransducerOfSpec)) fnExactTransducerOfCard

/-- THE TIED CARD OF 'laws.FnExactOutputsOf'. -/
def fnExactOutputsOfCard : Claim7 := { stood := { row := fnExactOutputsOfRow, standIns := [], harness := (true, "97445cc7ac2756ed0869efa71f3ddef29bb8f1c4ffb96aaee27c863f64481482"), looks := true }, kinds := [], alts := [], laidByText := true, laidKinds := [.data, .data, .data], laidTests := true, laidLooks := .later }
def FnExactOutputsOfCardSaid : Prop := Claim7.holds Tryd.pinned (.plain (OpenSpec.ofChange fnExactOutputsOfSpec)) fnExactOutputsOfCard

/-- THE TIED CARD OF 'laws.FnExactRestrictFunction'. -/
def fnExactRestrictFunctionCard : Claim7 := { stood := { row := fnExactRestrictFunctionRow, standIns := [], harness := (true, "97445cc7ac2756ed0869efa71f3ddef29bb8f1c4ffb96aaee27c863f64481482"), looks := true }, kinds := [], alts := [], laidByText := true, laidKinds := [.data, .data, .data], laidTests := true, laidLooks := .later }
def FnExactRestrictFunctionCardSaid : Prop := Claim7.holds Tryd.pinned (.plain (OpenSpec.ofChange fnExactRestrictFunctionSpec)) fnExactRestrictFunctionCard

/-- THE TIED CARD OF 'laws.FnExactScribeOf'. -/
def fnExactScribeOfCard : Claim7 := { stood := { row := fnExactScribeOfRow, standIns := [], harness := (true, "97445cc7ac2756ed0869efa71f3ddef29bb8f1c4ffb96aaee27c863f64481482"), looks := true }, kinds := [], alts := [], laidByText := true, laidKinds := [.data, .data, .data], laidTests := true, laidLooks := .later }
def FnExactScribeOfCardSaid : Prop := Claim7.holds Tryd.pinned (.plain (OpenSpec.ofChange fnExactScribeOfSpec)) fnExactScribeOfCard

/-- THE TIED CARD OF 'laws.FnExactInputsIn'. -/
def fnExactInputsInCard : Claim7 := { stood := { row := fnExactInputsInRow, standIns := [], harness := (true, "97445cc7ac2756ed0869efa71f3ddef29bb8f1c4ffb96aaee27c863f64481482"), looks := true }, kinds := [], alts := [], laidByText := true, laidKinds := [.data, .data, .data], laidTests := true, laidLooks := .later }
def FnExactInputsInCardSaid : Prop := Claim7.holds Tryd.pinned (.plain (OpenSpec.ofChange fnExactInputsInSpec)) fnExactInputsInCard

/-- THE TIED CARD OF 'laws.FnExactOutputsIn'. -/
def fnExactOutputsInCard : Claim7 := { stood := { row := fnExactOutputsInRow, standIns := [], harness := (true, "97445cc7ac2756ed0869efa71f3ddef29bb8f1c4ffb96aaee27c863f64481482"), looks := true }, kinds := [], alts := [], laidByText := true, laidKinds := [.data, .data, .data], laidTests := true, laidLooks := .later }
def FnExactOutputsInCardSaid : Prop := Claim7.holds Tryd.pinned (.plain (OpenSpec.ofChange fnExactOutputsInSpec)) fnExactOutputsInCard

/-- THE TIED CARD OF 'laws.FnExactReadTransducer'. -/
def fnExactReadTransducerCard : Claim7 := { stood := { row := fnExactReadTransducerRow, standIns := [], harness := (true, "97445cc7ac2756ed0869efa71f3ddef29bb8f1c4ffb96aaee27c863f64481482"), looks := true }, kinds := [], alts := [], laidByText := true, laidKinds := [.data, .data, .data, .data, .sentinel, .sentinel, .pinned], laidTests := true, laidLooks := .later }
def FnExactReadTransducerCardSaid : Prop := Claim7.holds Tryd.pinned (.plain (OpenSpec.ofChange fnExactReadTransducerSpec)) fnExactReadTransducerCard

/-- THE SECOND FORM's CARD OF 'laws.FnChained'. -/
def fnChainedUptoCard : Claim7 := { stood := { row := fnChainedUptoRow, standIns := [], harness := (true, "97445cc7ac2756ed0869efa71f3ddef29bb8f1c4ffb96aaee27c863f64481482"), looks := true }, kinds := [], alts := [], laidByText := true, laidKinds := [.data, .pinned], laidTests := true, laidLooks := .later }
def FnChainedUptoCardSaid : Prop := Claim7.holds Tryd.pinned (.plain (OpenSpec.upto fnChainedSpec)) fnChainedUptoCard

/-- THE SECOND FORM's CARD OF 'laws.FnExactReadDeed'. -/
def fnExactReadDeedUptoCard : Claim7 := { stood := { row := fnExactReadDeedUptoRow, standIns := [], harness := (true, "97445cc7ac2756ed0869efa71f3ddef29bb8f1c4ffb96aaee27c863f64481482"), looks := true }, kinds := [], alts := [], laidByText := true, laidKinds := [.data, .data, .data, .sentinel, .sentinel], laidTests := true, laidLooks := .later }
def FnExactReadDeedUptoCardSaid : Prop := Claim7.holds Tryd.pinned (.plain (OpenSpec.upto fnExactReadDeedSpec)) fnExactReadDeedUptoCard

/-- THE SECOND FORM's CARD OF 'laws.FnExactImagesOf'. -/
def fnExactImagesOfUptoCard : Claim7 := { stood := { row := fnExactImagesOfUptoRow, standIns := [], harness := (true, "97445cc7ac2756ed0869efa71f3ddef29bb8f1c4ffb96aaee27c863f64481482"), looks := true }, kinds := [], alts := [], laidByText := true, laidKinds := [.data, .pinned], laidTests := true, laidLooks := .later }
def FnExactImagesOfUptoCardSaid : Prop := Claim7.holds Tryd.pinned (.plain (OpenSpec.upto fnExactImagesOfSpec)) fnExactImagesOfUptoCard

/-- THE SECOND FORM's CARD OF 'laws.FnExactIsLetterwise'. -/
def fnExactIsLetterwiseUptoCard : Claim7 := { stood := { row := fnExactIsLetterwiseUptoRow, standIns := [], harness := (true, "97445cc7ac2756ed0869efa71f3ddef29bb8f1c4ffb96aaee27c863f64481482"), looks := true }, kinds := [], alts := [], laidByText := true, laidKinds := [.data, .data, .data], laidTests := true, laidLooks := .later }
def FnExactIsLetterwiseUptoCardSaid : Prop := Claim7.holds Tryd.pinned (.plain (OpenSpec.upto fnExactIsLetterwiseSpec)) fnExactIsLetterwiseUptoCard

/-- THE SECOND FORM's CARD OF 'laws.FnExactRelationOfScribe'. -/
def fnExactRelationOfScribeUptoCard : Claim7 := { stood := { row := fnExactRelationOfScribeUptoRow, standIns := [], harness := (true, "97445cc7ac2756ed0869efa71f3ddef29bb8f1c4ffb96aaee27c863f64481482"), looks := true }, kinds := [], alts := [], laidByText := true, laidKinds := [.data, .data, .data], laidTests := true, laidLooks := .later }
def FnExactRelationOfScribeUptoCardSaid : Prop := Claim7.holds Tryd.pinned (.plain (OpenSpec.upto fnExactRelationOfScribeSpec)) fnExactRelationOfScribeUptoCard

/-- THE SECOND FORM's CARD OF 'laws.FnFunctional'. -/
def fnFunctionalUptoCard : Claim7 := { stood := { row := fnFunctionalUptoRow, standIns := [], harness := (true, "97445cc7ac2756ed0869efa71f3ddef29bb8f1c4ffb96aaee27c863f64481482"), looks := true }, kinds := [], alts := [], laidByText := true, laidKinds := [.data, .pinned], laidTests := true, laidLooks := .later }
def FnFunctionalUptoCardSaid : Prop := Claim7.holds Tryd.pinned (.plain (OpenSpec.upto fnFunctionalSpec)) fnFunctionalUptoCard

/-- THE SECOND FORM's CARD OF 'laws.FnExactInputsOf'. -/
def fnExactInputsOfUptoCard : Claim7 := { stood := { row := fnExactInputsOfUptoRow, standIns := [], harness := (true, "97445cc7ac2756ed0869efa71f3ddef29bb8f1c4ffb96aaee27c863f64481482"), looks := true }, kinds := [], alts := [], laidByText := true, laidKinds := [.data, .data, .data], laidTests := true, laidLooks := .later }
def FnExactInputsOfUptoCardSaid : Prop := Claim7.holds Tryd.pinned (.plain (OpenSpec.upto fnExactInputsOfSpec)) fnExactInputsOfUptoCard

/-- THE SECOND FORM's CARD OF 'laws.FnExactTransducerOf'. -/
def fnExactTransducerOfUptoCard : Claim7 := { stood := { row := fnExactTransducerOfUptoRow, standIns := [], harness := (true, "97445cc7ac2756ed0869efa71f3ddef29bb8f1c4ffb96aaee27c863f64481482"), looks := true }, kinds := [], alts := [], laidByText := true, laidKinds := [.data, .data, .data], laidTests := true, laidLooks := .later }
def FnExactTransducerOfUptoCardSaid : Prop := Claim7.holds Tryd.pinned (.plain (OpenSpec.upto fnExactTransducerOfSpec)) fnExactTransducerOfUptoCard

/-- THE SECOND FORM's CARD OF 'laws.FnExactOutputsOf'. -/
def fnExactOutputsOfUptoCard : Claim7 := { stood := { row := fnExactOutputsOfUptoRow, standIns := [], harness := (true, "97445cc7ac2756ed0869efa71f3ddef29bb8f1c4ffb96aaee27c863f64481482"), looks := true }, kinds := [], alts := [], laidByText := true, laidKinds := [.data, .data, .data], laidTests := true, laidLooks := .later }
def FnExactOutputsOfUptoCardSaid : Prop := Claim7.holds Tryd.pinned (.plain (OpenSpec.upto fnExactOutputsOfSpec)) fnExactOutputsOfUptoCard

/-- THE SECOND FORM's CARD OF 'laws.FnExactRestrictFunction'. -/
def fnExactRestrictFunctionUptoCard : Claim7 := { stood := { row := fnExactRestrictFunctionUptoRow, standIns := [], harness := (true, "97445cc7ac2756ed0869efa71f3ddef29bb8f1c4ffb96aaee27c863f64481482"), looks := true }, kinds := [], alts := [], laidByText := true, laidKinds := [.data, .data, .data], laidTests := true, laidLooks := .later }
def FnExactRestrictFunctionUptoCardSaid : Prop := Claim7.holds Tryd.pinned (.plain (OpenSpec.upto fnExactRestrictFunctionSpec)) fnExactRestrictFunctionUptoCard

/-- THE SECOND FORM's CARD OF 'laws.FnExactScribeOf'. -/
def fnExactScribeOfUptoCard : Claim7 := { stood := { row := fnExactScribeOfUptoRow, standIns := [], harness := (true, "97445cc7ac2756ed0869efa71f3ddef29bb8f1c4ffb96aaee27c863f64481482"), looks := true }, kinds := [], alts := [], laidByText := true, laidKinds := [.data, .data, .data], laidTests := true, laidLooks := .later }
def FnExactScribeOfUptoCardSaid : Prop := Claim7.holds Tryd.pinned (.plain (OpenSpec.upto fnExactScribeOfSpec)) fnExactScribeOfUptoCard

/-- THE SECOND FORM's CARD OF 'laws.FnExactInputsIn'. -/
def fnExactInputsInUptoCard : Claim7 := { stood := { row := fnExactInputsInUptoRow, standIns := [], harness := (true, "97445cc7ac2756ed0869efa71f3ddef29bb8f1c4ffb96aaee27c863f64481482"), looks := true }, kinds := [], alts := [], laidByText := true, laidKinds := [.data, .data, .data], laidTests := true, laidLooks := .later }
def FnExactInputsInUptoCardSaid : Prop := Claim7.holds Tryd.pinned (.plain (OpenSpec.upto fnExactInputsInSpec)) fnExactInputsInUptoCard

/-- THE SECOND FORM's CARD OF 'laws.FnExactOutputsIn'. -/
def fnExactOutputsInUptoCard : Claim7 := { stood := { row := fnExactOutputsInUptoRow, standIns := [], harness := (true, "97445cc7ac2756ed0869efa71f3ddef29bb8f1c4ffb96aaee27c863f64481482"), looks := true }, kinds := [], alts := [], laidByText := true, laidKinds := [.data, .data, .data], laidTests := true, laidLooks := .later }
def FnExactOutputsInUptoCardSaid : Prop := Claim7.holds Tryd.pinned (.plain (OpenSpec.upto fnExactOutputsInSpec)) fnExactOutputsInUptoCard

/-- THE SECOND FORM's CARD OF 'laws.FnExactReadTransducer'. -/
def fnExactReadTransducerUptoCard : Claim7 := { stood := { row := fnExactReadTransducerUptoRow, standIns := [], harness := (true, "97445cc7ac2756ed0869efa71f3ddef29bb8f1c4ffb96aaee27c863f64481482"), looks := true }, kinds := [], alts := [], laidByText := true, laidKinds := [.data, .data, .data, .data, .sentinel, .sentinel, .pinned], laidTests := true, laidLooks := .later }
def FnExactReadTransducerUptoCardSaid : Prop := Claim7.holds Tryd.pinned (.plain (OpenSpec.upto fnExactReadTransducerSpec)) fnExactReadTransducerUptoCard
end Rows
end Go.Proofs.YtgeljcnlegbedaaDoor
