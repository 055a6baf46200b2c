/-
  DERIVED. GIVEN WITH THE SEED: THE CARDS: each row of YtmjhfklmlcnofaaDoorRows.lean that lists a variable, with what it lists TIED to the program's text (the seventh form; the later family's looks); each row that meets fmt, with fmt's text TOLD by the authors' own Lean function (tested against real Go, not proved from fmt's source: count such statements apart). THE CARD IS WHAT COUNTS. Prove the row's statement (the work); the ties are given (YtmjhfklmlcnofaaDoorTie.lean); close each card by the builder's one call (the guide's Derived/Test/ToyasCard.lean, 'card_holds'). Laid BY PROGRAM, IN A SANDBOX (cutbox-door.mjs). By AI agents, Wed Nov 11 2026. No macro, syntax, notation, axiom, sorry.
-/
import Derived.Test.YtmjhfklmlcnofaaDoorRows
import GoSem.ClaimSeven
namespace Go.Proofs.YtmjhfklmlcnofaaDoor
namespace Rows

/-- THE TIED CARD OF 'laws.FnFrames'. -/
def fnFramesCard : Claim7 := { stood := { row := fnFramesRow, standIns := [], harness := (true, "9e7ae27dadec7dc1ccbe8d6ea21c2068ca4f2937ab4f52928f3a7460465ccf4f"), looks := true }, kinds := [], alts := [], laidByText := true, laidKinds := [.data, .data, .data, .sentinel, .sentinel], laidTests := true, laidLooks := .later }
def FnFramesCardSaid : Prop := Claim7.holds Tryd.pinned (.plain (OpenSpec.ofChange fnFramesSpec)) fnFramesCard

/-- THE TIED CARD OF 'laws.FnPut'. -/
def fnPutCard : Claim7 := { stood := { row := fnPutRow, standIns := [], harness := (true, "9e7ae27dadec7dc1ccbe8d6ea21c2068ca4f2937ab4f52928f3a7460465ccf4f"), looks := true }, kinds := [], alts := [], laidByText := true, laidKinds := [.data, .data, .data, .sentinel, .sentinel], laidTests := true, laidLooks := .later }
def FnPutCardSaid : Prop := Claim7.holds Tryd.pinned (.plain (OpenSpec.ofChange fnPutSpec)) fnPutCard

/-- THE TIED CARD OF 'laws.FnExactReadAct'. -/
def fnExactReadActCard : Claim7 := { stood := { row := fnExactReadActRow, standIns := [], harness := (true, "9e7ae27dadec7dc1ccbe8d6ea21c2068ca4f2937ab4f52928f3a7460465ccf4f"), looks := true }, kinds := [], alts := [], laidByText := true, laidKinds := [.data, .data, .data, .data, .sentinel, .sentinel, .pinned], laidTests := true, laidLooks := .later }
def FnExactReadActCardSaid : Prop := Claim7.holds Tryd.pinned (.plain (OpenSpec.ofChange fnExactReadActSpec)) fnExactReadActCard

/-- THE SECOND FORM's CARD OF 'laws.FnFrames'. -/
def fnFramesUptoCard : Claim7 := { stood := { row := fnFramesUptoRow, standIns := [], harness := (true, "9e7ae27dadec7dc1ccbe8d6ea21c2068ca4f2937ab4f52928f3a7460465ccf4f"), looks := true }, kinds := [], alts := [], laidByText := true, laidKinds := [.data, .data, .data, .sentinel, .sentinel], laidTests := true, laidLooks := .later }
def FnFramesUptoCardSaid : Prop := Claim7.holds Tryd.pinned (.plain (OpenSpec.upto fnFramesSpec)) fnFramesUptoCard

/-- THE SECOND FORM's CARD OF 'laws.FnPut'. -/
def fnPutUptoCard : Claim7 := { stood := { row := fnPutUptoRow, standIns := [], harness := (true, "9e7ae27dadec7dc1ccbe8d6ea21c2068ca4f2937ab4f52928f3a7460465ccf4f"), looks := true }, kinds := [], alts := [], laidByText := true, laidKinds := [.data, .data, .data, .sentinel, .sentinel], laidTests := true, laidLooks := .later }
def FnPutUptoCardSaid : Prop := Claim7.holds Tryd.pinned (.plain (OpenSpec.upto fnPutSpec)) fnPutUptoCard

/-- THE SECOND FORM's CARD OF 'laws.FnExactReadAct'. -/
def fnExactReadActUptoCard : Claim7 := { stood := { row := fnExactReadActUptoRow, standIns := [], harness := (true, "9e7ae27dadec7dc1ccbe8d6ea21c2068ca4f2937ab4f52928f3a7460465ccf4f"), looks := true }, kinds := [], alts := [], laidByText := true, laidKinds := [.data, .data, .data, .data, .sentinel, .sentinel, .pinned], laidTests := true, laidLooks := .later }
def FnExactReadActUptoCardSaid : Prop := Claim7.holds Tryd.pinned (.plain (OpenSpec.upto fnExactReadActSpec)) fnExactReadActUptoCard
end Rows
end Go.Proofs.YtmjhfklmlcnofaaDoor
