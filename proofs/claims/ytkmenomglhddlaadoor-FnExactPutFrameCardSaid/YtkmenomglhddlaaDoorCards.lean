/-
  DERIVED. GIVEN WITH THE SEED: THE CARDS: each row of YtkmenomglhddlaaDoorRows.lean that lists a variable, with what it lists TIED to the program's text (the seventh form; the later family's looks); each row that meets fmt, with fmt's text TOLD by the authors' own Lean function (tested against real Go, not proved from fmt's source: count such statements apart). THE CARD IS WHAT COUNTS. Prove the row's statement (the work); the ties are given (YtkmenomglhddlaaDoorTie.lean); close each card by the builder's one call (the guide's Derived/Test/ToyasCard.lean, 'card_holds'). Laid BY PROGRAM, IN A SANDBOX (cutbox-door.mjs). By AI agents, Wed Nov 11 2026. No macro, syntax, notation, axiom, sorry.
-/
import Derived.Test.YtkmenomglhddlaaDoorRows
import GoSem.ClaimSeven
namespace Go.Proofs.YtkmenomglhddlaaDoor
namespace Rows

/-- THE TIED CARD OF 'laws.FnTreeText'. -/
def fnTreeTextCard : Claim7 := { stood := { row := fnTreeTextRow, standIns := [], harness := (true, "e6922faf7596bae90dde0e7666b2061074db5e5b48ffe56b50e2721057641070"), looks := true }, kinds := [], alts := [], laidByText := true, laidKinds := [.data, .data, .data], laidTests := true, laidLooks := .later }
def FnTreeTextCardSaid : Prop := Claim7.holds Tryd.pinned (.plain (OpenSpec.ofChange fnTreeTextSpec)) fnTreeTextCard

/-- THE TIED CARD OF 'laws.FnExactFrameOf'. -/
def fnExactFrameOfCard : Claim7 := { stood := { row := fnExactFrameOfRow, standIns := [], harness := (true, "e6922faf7596bae90dde0e7666b2061074db5e5b48ffe56b50e2721057641070"), looks := true }, kinds := [], alts := [], laidByText := true, laidKinds := [.data, .data, .data], laidTests := true, laidLooks := .later }
def FnExactFrameOfCardSaid : Prop := Claim7.holds Tryd.pinned (.plain (OpenSpec.ofChange fnExactFrameOfSpec)) fnExactFrameOfCard

/-- THE TIED CARD OF 'laws.FnExactActText'. -/
def fnExactActTextCard : Claim7 := { stood := { row := fnExactActTextRow, standIns := [], harness := (true, "e6922faf7596bae90dde0e7666b2061074db5e5b48ffe56b50e2721057641070"), looks := true }, kinds := [], alts := [], laidByText := true, laidKinds := [.data, .data, .data], laidTests := true, laidLooks := .later }
def FnExactActTextCardSaid : Prop := Claim7.holds Tryd.pinned (.plain (OpenSpec.ofChange fnExactActTextSpec)) fnExactActTextCard

/-- THE TIED CARD OF 'laws.FnExactReadFrames'. -/
def fnExactReadFramesCard : Claim7 := { stood := { row := fnExactReadFramesRow, standIns := [], harness := (true, "e6922faf7596bae90dde0e7666b2061074db5e5b48ffe56b50e2721057641070"), looks := true }, kinds := [], alts := [], laidByText := true, laidKinds := [.data, .data, .data, .sentinel, .sentinel], laidTests := true, laidLooks := .later }
def FnExactReadFramesCardSaid : Prop := Claim7.holds Tryd.pinned (.plain (OpenSpec.ofChange fnExactReadFramesSpec)) fnExactReadFramesCard

/-- THE TIED CARD OF 'laws.FnExactTextsIn'. -/
def fnExactTextsInCard : Claim7 := { stood := { row := fnExactTextsInRow, standIns := [], harness := (true, "e6922faf7596bae90dde0e7666b2061074db5e5b48ffe56b50e2721057641070"), looks := true }, kinds := [], alts := [], laidByText := true, laidKinds := [.data, .data, .data, .sentinel, .sentinel], laidTests := true, laidLooks := .later }
def FnExactTextsInCardSaid : Prop := Claim7.holds Tryd.pinned (.plain (OpenSpec.ofChange fnExactTextsInSpec)) fnExactTextsInCard

/-- THE TIED CARD OF 'laws.FnExactPutFrame'. -/
def fnExactPutFrameCard : Claim7 := { stood := { row := fnExactPutFrameRow, standIns := [], harness := (true, "e6922faf7596bae90dde0e7666b2061074db5e5b48ffe56b50e2721057641070"), looks := true }, kinds := [], alts := [], laidByText := true, laidKinds := [.data, .data, .data, .sentinel, .sentinel], laidTests := true, laidLooks := .later }
def FnExactPutFrameCardSaid : Prop := Claim7.holds Tryd.pinned (.plain (OpenSpec.ofChange fnExactPutFrameSpec)) fnExactPutFrameCard

/-- THE TIED CARD OF 'laws.FnExactMendStore'. -/
def fnExactMendStoreCard : Claim7 := { stood := { row := fnExactMendStoreRow, standIns := [], harness := (true, "e6922faf7596bae90dde0e7666b2061074db5e5b48ffe56b50e2721057641070"), looks := true }, kinds := [], alts := [], laidByText := true, laidKinds := [.data, .data, .data, .sentinel, .sentinel], laidTests := true, laidLooks := .later }
def FnExactMendStoreCardSaid : Prop := Claim7.holds Tryd.pinned (.plain (OpenSpec.ofChange fnExactMendStoreSpec)) fnExactMendStoreCard

/-- THE SECOND FORM's CARD OF 'laws.FnTreeText'. -/
def fnTreeTextUptoCard : Claim7 := { stood := { row := fnTreeTextUptoRow, standIns := [], harness := (true, "e6922faf7596bae90dde0e7666b2061074db5e5b48ffe56b50e2721057641070"), looks := true }, kinds := [], alts := [], laidByText := true, laidKinds := [.data, .data, .data], laidTests := true, laidLooks := .later }
def FnTreeTextUptoCardSaid : Prop := Claim7.holds Tryd.pinned (.plain (OpenSpec.upto fnTreeTextSpec)) fnTreeTextUptoCard

/-- THE SECOND FORM's CARD OF 'laws.FnExactFrameOf'. -/
def fnExactFrameOfUptoCard : Claim7 := { stood := { row := fnExactFrameOfUptoRow, standIns := [], harness := (true, "e6922faf7596bae90dde0e7666b2061074db5e5b48ffe56b50e2721057641070"), looks := true }, kinds := [], alts := [], laidByText := true, laidKinds := [.data, .data, .data], laidTests := true, laidLooks := .later }
def FnExactFrameOfUptoCardSaid : Prop := Claim7.holds Tryd.pinned (.plain (OpenSpec.upto fnExactFrameOfSpec)) fnExactFrameOfUptoCard

/-- THE SECOND FORM's CARD OF 'laws.FnExactActText'. -/
def fnExactActTextUptoCard : Claim7 := { stood := { row := fnExactActTextUptoRow, standIns := [], harness := (true, "e6922faf7596bae90dde0e7666b2061074db5e5b48ffe56b50e2721057641070"), looks := true }, kinds := [], alts := [], laidByText := true, laidKinds := [.data, .data, .data], laidTests := true, laidLooks := .later }
def FnExactActTextUptoCardSaid : Prop := Claim7.holds Tryd.pinned (.plain (OpenSpec.upto fnExactActTextSpec)) fnExactActTextUptoCard

/-- THE SECOND FORM's CARD OF 'laws.FnExactReadFrames'. -/
def fnExactReadFramesUptoCard : Claim7 := { stood := { row := fnExactReadFramesUptoRow, standIns := [], harness := (true, "e6922faf7596bae90dde0e7666b2061074db5e5b48ffe56b50e2721057641070"), looks := true }, kinds := [], alts := [], laidByText := true, laidKinds := [.data, .data, .data, .sentinel, .sentinel], laidTests := true, laidLooks := .later }
def FnExactReadFramesUptoCardSaid : Prop := Claim7.holds Tryd.pinned (.plain (OpenSpec.upto fnExactReadFramesSpec)) fnExactReadFramesUptoCard

/-- THE SECOND FORM's CARD OF 'laws.FnExactTextsIn'. -/
def fnExactTextsInUptoCard : Claim7 := { stood := { row := fnExactTextsInUptoRow, standIns := [], harness := (true, "e6922faf7596bae90dde0e7666b2061074db5e5b48ffe56b50e2721057641070"), looks := true }, kinds := [], alts := [], laidByText := true, laidKinds := [.data, .data, .data, .sentinel, .sentinel], laidTests := true, laidLooks := .later }
def FnExactTextsInUptoCardSaid : Prop := Claim7.holds Tryd.pinned (.plain (OpenSpec.upto fnExactTextsInSpec)) fnExactTextsInUptoCard

/-- THE SECOND FORM's CARD OF 'laws.FnExactPutFrame'. -/
def fnExactPutFrameUptoCard : Claim7 := { stood := { row := fnExactPutFrameUptoRow, standIns := [], harness := (true, "e6922faf7596bae90dde0e7666b2061074db5e5b48ffe56b50e2721057641070"), looks := true }, kinds := [], alts := [], laidByText := true, laidKinds := [.data, .data, .data, .sentinel, .sentinel], laidTests := true, laidLooks := .later }
def FnExactPutFrameUptoCardSaid : Prop := Claim7.holds Tryd.pinned (.plain (OpenSpec.upto fnExactPutFrameSpec)) fnExactPutFrameUptoCard

/-- THE SECOND FORM's CARD OF 'laws.FnExactMendStore'. -/
def fnExactMendStoreUptoCard : Claim7 := { stood := { row := fnExactMendStoreUptoRow, standIns := [], harness := (true, "e6922faf7596bae90dde0e7666b2061074db5e5b48ffe56b50e2721057641070"), looks := true }, kinds := [], alts := [], laidByText := true, laidKinds := [.data, .data, .data, .sentinel, .sentinel], laidTests := true, laidLooks := .later }
def FnExactMendStoreUptoCardSaid : Prop := Claim7.holds Tryd.pinned (.plain (OpenSpec.upto fnExactMendStoreSpec)) fnExactMendStoreUptoCard
end Rows
end Go.Proofs.YtkmenomglhddlaaDoor
