/-
  DERIVED. GIVEN WITH THE SEED: THE CARDS: each row of YtdldekkojjfllaaDoorRows.lean that lists a variable, with what it lists TIED to the program's text (the seventh form; the later family's looks); each row that meets fmt, with fmt's text TOLD by the authors' own Lean function (tested against real Go, not proved from fmt's source: count such statements apart). THE CARD IS WHAT COUNTS. Prove the row's statement (the work); the ties are given (YtdldekkojjfllaaDoorTie.lean); close each card by the builder's one call (the guide's Derived/Test/ToyasCard.lean, 'card_holds'). Laid BY PROGRAM, IN A SANDBOX (cutbox-door.mjs). By AI agents, Wed Nov 11 2026. No macro, syntax, notation, axiom, sorry.
-/
import Derived.Test.YtdldekkojjfllaaDoorRows
import GoSem.ClaimSeven
namespace Go.Proofs.YtdldekkojjfllaaDoor
namespace Rows

/-- THE TIED CARD OF 'laws.FnTreeText'. -/
def fnTreeTextCard : Claim7 := { stood := { row := fnTreeTextRow, standIns := [], harness := (true, "862429021564b246d0e78ee14fe712c78af673f0e388443a6ce3573869650d7b"), looks := true }, kinds := [], alts := [], laidByText := true, laidKinds := [.data, .data, .data], laidTests := true, laidLooks := .later }
def FnTreeTextCardSaid : Prop := Claim7.holds Tryd.pinned (.plain (OpenSpec.ofChange fnTreeTextSpec)) fnTreeTextCard

/-- THE TIED CARD OF 'laws.FnExactPutFrame'. -/
def fnExactPutFrameCard : Claim7 := { stood := { row := fnExactPutFrameRow, standIns := [], harness := (true, "862429021564b246d0e78ee14fe712c78af673f0e388443a6ce3573869650d7b"), looks := true }, kinds := [], alts := [], laidByText := true, laidKinds := [.data, .data, .data, .sentinel, .sentinel], laidTests := true, laidLooks := .later }
def FnExactPutFrameCardSaid : Prop := Claim7.holds Tryd.pinned (.plain (OpenSpec.ofChange fnExactPutFrameSpec)) fnExactPutFrameCard

/-- THE SECOND FORM's CARD OF 'laws.FnTreeText'. -/
def fnTreeTextUptoCard : Claim7 := { stood := { row := fnTreeTextUptoRow, standIns := [], harness := (true, "862429021564b246d0e78ee14fe712c78af673f0e388443a6ce3573869650d7b"), looks := true }, kinds := [], alts := [], laidByText := true, laidKinds := [.data, .data, .data], laidTests := true, laidLooks := .later }
def FnTreeTextUptoCardSaid : Prop := Claim7.holds Tryd.pinned (.plain (OpenSpec.upto fnTreeTextSpec)) fnTreeTextUptoCard

/-- THE SECOND FORM's CARD OF 'laws.FnExactPutFrame'. -/
def fnExactPutFrameUptoCard : Claim7 := { stood := { row := fnExactPutFrameUptoRow, standIns := [], harness := (true, "862429021564b246d0e78ee14fe712c78af673f0e388443a6ce3573869650d7b"), looks := true }, kinds := [], alts := [], laidByText := true, laidKinds := [.data, .data, .data, .sentinel, .sentinel], laidTests := true, laidLooks := .later }
def FnExactPutFrameUptoCardSaid : Prop := Claim7.holds Tryd.pinned (.plain (OpenSpec.upto fnExactPutFrameSpec)) fnExactPutFrameUptoCard
end Rows
end Go.Proofs.YtdldekkojjfllaaDoor
