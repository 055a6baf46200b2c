/-
  No cell of these rows narrows 'for every input' (looked for: loops, veiled, ifaces, maps, wideKeys, modest, calm, conditions, laid).
  DERIVED. THE GIVEN ROWS OF THIS SEAT. 12 by the template 'for every input the law returns true; each argument reads behind the call as it read before'; 0 by the template 'total and deterministic' (their statements: YtbcahoaojdbebaaTotals.lean).
  GIVEN WITH THE SEED: the statements are not yours to turn. If you find one false, say at which input.
  Laid BY PROGRAM, IN A SANDBOX (cutbox-rows.mjs): the forced cells as the released guide's own fill.sh prints them over the translation 50761b4bb2dc4d67… (all of the seat's roots in one cut). By AI agents, Wed Nov 11 2026. No macro, syntax, notation, axiom, sorry.
-/
import Derived.Test.YtbcahoaojdbebaaChecked
import GoSem.Claim
import GoSem.ClaimJoined
import GoSem.ClaimMapViews
import Derived.JoinedTies
import Derived.KernelRfl
namespace Go.Proofs.Ytbcahoaojdbebaa
/- THE CELL 'sum', in the pinned program and in every row, IS THE sha256 OF THE DUMP (.gsa) THAT YtbcahoaojdbebaaProg.lean LOADS. Nothing in Lean hashes anything: it is a label: what it is worth is what the hold of that sum in a sandbox is worth. -/
noncomputable def Try.pinned : Pinned := { name := "ytbcahoaojdbebaa", sum := "50761b4bb2dc4d67207685af23709ec196c60af225c6b80bbcbfea8eca6a5312", checked := Try.checked }
namespace Rows
def none {H : Type} : Left H := { results := [], args := [] }

/-- 'laws.FnExactRunesIn': WHATEVER THE INPUT: true; the input reads as it did. -/
def fnExactRunesInSpec : ChangeSpec := { name := "fnExactRunesIn", fn := fun _ => fun
  | [d] => { results := [.lit (.bool true)], args := [d] }
  | _ => none }
def fnExactRunesInRow : OpenClaim := { program := "ytbcahoaojdbebaa", sum := "50761b4bb2dc4d67207685af23709ec196c60af225c6b80bbcbfea8eca6a5312", func := "loop.example/g00662/laws.FnExactRunesIn", spec := "fnExactRunesIn", apart := false }
def FnExactRunesInSaid : Prop := fnExactRunesInRow.holds Try.pinned (OpenSpec.ofChange fnExactRunesInSpec)

/-- ITS FALSE NEIGHBOUR: 'it returns false'. Refute it at one input. -/
def fnExactRunesInWrong : ChangeSpec := { name := "fnExactRunesIn", fn := fun _ => fun
  | [d] => { results := [.lit (.bool false)], args := [d] }
  | _ => none }
def FnExactRunesInWrongFalsely : Prop := fnExactRunesInRow.holds Try.pinned (OpenSpec.ofChange fnExactRunesInWrong)

/-- 'laws.FnExactGoodStore': WHATEVER THE INPUT: true; the input reads as it did. -/
def fnExactGoodStoreSpec : ChangeSpec := { name := "fnExactGoodStore", fn := fun _ => fun
  | [d] => { results := [.lit (.bool true)], args := [d] }
  | _ => none }
def fnExactGoodStoreRow : OpenClaim := { program := "ytbcahoaojdbebaa", sum := "50761b4bb2dc4d67207685af23709ec196c60af225c6b80bbcbfea8eca6a5312", func := "loop.example/g00662/laws.FnExactGoodStore", spec := "fnExactGoodStore", apart := false }
def FnExactGoodStoreSaid : Prop := fnExactGoodStoreRow.holds Try.pinned (OpenSpec.ofChange fnExactGoodStoreSpec)

/-- ITS FALSE NEIGHBOUR: 'it returns false'. Refute it at one input. -/
def fnExactGoodStoreWrong : ChangeSpec := { name := "fnExactGoodStore", fn := fun _ => fun
  | [d] => { results := [.lit (.bool false)], args := [d] }
  | _ => none }
def FnExactGoodStoreWrongFalsely : Prop := fnExactGoodStoreRow.holds Try.pinned (OpenSpec.ofChange fnExactGoodStoreWrong)

/-- 'laws.FnExactNewStore': WHATEVER THE INPUT: true; the input reads as it did. -/
def fnExactNewStoreSpec : ChangeSpec := { name := "fnExactNewStore", fn := fun _ => fun
  | [d] => { results := [.lit (.bool true)], args := [d] }
  | _ => none }
def fnExactNewStoreRow : OpenClaim := { program := "ytbcahoaojdbebaa", sum := "50761b4bb2dc4d67207685af23709ec196c60af225c6b80bbcbfea8eca6a5312", func := "loop.example/g00662/laws.FnExactNewStore", spec := "fnExactNewStore", apart := false }
def FnExactNewStoreSaid : Prop := fnExactNewStoreRow.holds Try.pinned (OpenSpec.ofChange fnExactNewStoreSpec)

/-- ITS FALSE NEIGHBOUR: 'it returns false'. Refute it at one input. -/
def fnExactNewStoreWrong : ChangeSpec := { name := "fnExactNewStore", fn := fun _ => fun
  | [d] => { results := [.lit (.bool false)], args := [d] }
  | _ => none }
def FnExactNewStoreWrongFalsely : Prop := fnExactNewStoreRow.holds Try.pinned (OpenSpec.ofChange fnExactNewStoreWrong)

/-- 'laws.FnExactGoodName': WHATEVER THE INPUT: true; the input reads as it did. -/
def fnExactGoodNameSpec : ChangeSpec := { name := "fnExactGoodName", fn := fun _ => fun
  | [d] => { results := [.lit (.bool true)], args := [d] }
  | _ => none }
def fnExactGoodNameRow : OpenClaim := { program := "ytbcahoaojdbebaa", sum := "50761b4bb2dc4d67207685af23709ec196c60af225c6b80bbcbfea8eca6a5312", func := "loop.example/g00662/laws.FnExactGoodName", spec := "fnExactGoodName", apart := false }
def FnExactGoodNameSaid : Prop := fnExactGoodNameRow.holds Try.pinned (OpenSpec.ofChange fnExactGoodNameSpec)

/-- ITS FALSE NEIGHBOUR: 'it returns false'. Refute it at one input. -/
def fnExactGoodNameWrong : ChangeSpec := { name := "fnExactGoodName", fn := fun _ => fun
  | [d] => { results := [.lit (.bool false)], args := [d] }
  | _ => none }
def FnExactGoodNameWrongFalsely : Prop := fnExactGoodNameRow.holds Try.pinned (OpenSpec.ofChange fnExactGoodNameWrong)

/-- 'laws.FnExactDrawnFrom': WHATEVER THE INPUT: true; the input reads as it did. -/
def fnExactDrawnFromSpec : ChangeSpec := { name := "fnExactDrawnFrom", fn := fun _ => fun
  | [d] => { results := [.lit (.bool true)], args := [d] }
  | _ => none }
def fnExactDrawnFromRow : OpenClaim := { program := "ytbcahoaojdbebaa", sum := "50761b4bb2dc4d67207685af23709ec196c60af225c6b80bbcbfea8eca6a5312", func := "loop.example/g00662/laws.FnExactDrawnFrom", spec := "fnExactDrawnFrom", apart := false }
def FnExactDrawnFromSaid : Prop := fnExactDrawnFromRow.holds Try.pinned (OpenSpec.ofChange fnExactDrawnFromSpec)

/-- ITS FALSE NEIGHBOUR: 'it returns false'. Refute it at one input. -/
def fnExactDrawnFromWrong : ChangeSpec := { name := "fnExactDrawnFrom", fn := fun _ => fun
  | [d] => { results := [.lit (.bool false)], args := [d] }
  | _ => none }
def FnExactDrawnFromWrongFalsely : Prop := fnExactDrawnFromRow.holds Try.pinned (OpenSpec.ofChange fnExactDrawnFromWrong)

/-- 'laws.FnExactLeftIn': WHATEVER THE INPUT: true; the input reads as it did. -/
def fnExactLeftInSpec : ChangeSpec := { name := "fnExactLeftIn", fn := fun _ => fun
  | [d] => { results := [.lit (.bool true)], args := [d] }
  | _ => none }
def fnExactLeftInRow : OpenClaim := { program := "ytbcahoaojdbebaa", sum := "50761b4bb2dc4d67207685af23709ec196c60af225c6b80bbcbfea8eca6a5312", func := "loop.example/g00662/laws.FnExactLeftIn", spec := "fnExactLeftIn", apart := false }
def FnExactLeftInSaid : Prop := fnExactLeftInRow.holds Try.pinned (OpenSpec.ofChange fnExactLeftInSpec)

/-- ITS FALSE NEIGHBOUR: 'it returns false'. Refute it at one input. -/
def fnExactLeftInWrong : ChangeSpec := { name := "fnExactLeftIn", fn := fun _ => fun
  | [d] => { results := [.lit (.bool false)], args := [d] }
  | _ => none }
def FnExactLeftInWrongFalsely : Prop := fnExactLeftInRow.holds Try.pinned (OpenSpec.ofChange fnExactLeftInWrong)

/-- 'laws.FnExactCrashStore': WHATEVER THE INPUT: true; the input reads as it did. -/
def fnExactCrashStoreSpec : ChangeSpec := { name := "fnExactCrashStore", fn := fun _ => fun
  | [d1, d2] => { results := [.lit (.bool true)], args := [d1, d2] }
  | _ => none }
def fnExactCrashStoreRow : OpenClaim := { program := "ytbcahoaojdbebaa", sum := "50761b4bb2dc4d67207685af23709ec196c60af225c6b80bbcbfea8eca6a5312", func := "loop.example/g00662/laws.FnExactCrashStore", spec := "fnExactCrashStore", apart := false }
def FnExactCrashStoreSaid : Prop := fnExactCrashStoreRow.holds Try.pinned (OpenSpec.ofChange fnExactCrashStoreSpec)

/-- ITS FALSE NEIGHBOUR: 'it returns false'. Refute it at one input. -/
def fnExactCrashStoreWrong : ChangeSpec := { name := "fnExactCrashStore", fn := fun _ => fun
  | [d1, d2] => { results := [.lit (.bool false)], args := [d1, d2] }
  | _ => none }
def FnExactCrashStoreWrongFalsely : Prop := fnExactCrashStoreRow.holds Try.pinned (OpenSpec.ofChange fnExactCrashStoreWrong)

/-- 'laws.FnExactSyncStore': WHATEVER THE INPUT: true; the input reads as it did. -/
def fnExactSyncStoreSpec : ChangeSpec := { name := "fnExactSyncStore", fn := fun _ => fun
  | [d] => { results := [.lit (.bool true)], args := [d] }
  | _ => none }
def fnExactSyncStoreRow : OpenClaim := { program := "ytbcahoaojdbebaa", sum := "50761b4bb2dc4d67207685af23709ec196c60af225c6b80bbcbfea8eca6a5312", func := "loop.example/g00662/laws.FnExactSyncStore", spec := "fnExactSyncStore", apart := false }
def FnExactSyncStoreSaid : Prop := fnExactSyncStoreRow.holds Try.pinned (OpenSpec.ofChange fnExactSyncStoreSpec)

/-- ITS FALSE NEIGHBOUR: 'it returns false'. Refute it at one input. -/
def fnExactSyncStoreWrong : ChangeSpec := { name := "fnExactSyncStore", fn := fun _ => fun
  | [d] => { results := [.lit (.bool false)], args := [d] }
  | _ => none }
def FnExactSyncStoreWrongFalsely : Prop := fnExactSyncStoreRow.holds Try.pinned (OpenSpec.ofChange fnExactSyncStoreWrong)

/-- 'laws.FnExactNewGroup': WHATEVER THE INPUT: true; the input reads as it did. -/
def fnExactNewGroupSpec : ChangeSpec := { name := "fnExactNewGroup", fn := fun _ => fun
  | [d1, d2, d3, d4, d5] => { results := [.lit (.bool true)], args := [d1, d2, d3, d4, d5] }
  | _ => none }
def fnExactNewGroupRow : OpenClaim := { program := "ytbcahoaojdbebaa", sum := "50761b4bb2dc4d67207685af23709ec196c60af225c6b80bbcbfea8eca6a5312", func := "loop.example/g00662/laws.FnExactNewGroup", spec := "fnExactNewGroup", apart := false }
def FnExactNewGroupSaid : Prop := fnExactNewGroupRow.holds Try.pinned (OpenSpec.ofChange fnExactNewGroupSpec)

/-- ITS FALSE NEIGHBOUR: 'it returns false'. Refute it at one input. -/
def fnExactNewGroupWrong : ChangeSpec := { name := "fnExactNewGroup", fn := fun _ => fun
  | [d1, d2, d3, d4, d5] => { results := [.lit (.bool false)], args := [d1, d2, d3, d4, d5] }
  | _ => none }
def FnExactNewGroupWrongFalsely : Prop := fnExactNewGroupRow.holds Try.pinned (OpenSpec.ofChange fnExactNewGroupWrong)

/-- 'laws.FnExactStepGroup': WHATEVER THE INPUT: true; the input reads as it did. -/
def fnExactStepGroupSpec : ChangeSpec := { name := "fnExactStepGroup", fn := fun _ => fun
  | [d1, d2] => { results := [.lit (.bool true)], args := [d1, d2] }
  | _ => none }
def fnExactStepGroupRow : OpenClaim := { program := "ytbcahoaojdbebaa", sum := "50761b4bb2dc4d67207685af23709ec196c60af225c6b80bbcbfea8eca6a5312", func := "loop.example/g00662/laws.FnExactStepGroup", spec := "fnExactStepGroup", apart := false }
def FnExactStepGroupSaid : Prop := fnExactStepGroupRow.holds Try.pinned (OpenSpec.ofChange fnExactStepGroupSpec)

/-- ITS FALSE NEIGHBOUR: 'it returns false'. Refute it at one input. -/
def fnExactStepGroupWrong : ChangeSpec := { name := "fnExactStepGroup", fn := fun _ => fun
  | [d1, d2] => { results := [.lit (.bool false)], args := [d1, d2] }
  | _ => none }
def FnExactStepGroupWrongFalsely : Prop := fnExactStepGroupRow.holds Try.pinned (OpenSpec.ofChange fnExactStepGroupWrong)

/-- 'laws.FnGroupEnds': WHATEVER THE INPUT: true; the input reads as it did. -/
def fnGroupEndsSpec : ChangeSpec := { name := "fnGroupEnds", fn := fun _ => fun
  | [d1, d2] => { results := [.lit (.bool true)], args := [d1, d2] }
  | _ => none }
def fnGroupEndsRow : OpenClaim := { program := "ytbcahoaojdbebaa", sum := "50761b4bb2dc4d67207685af23709ec196c60af225c6b80bbcbfea8eca6a5312", func := "loop.example/g00662/laws.FnGroupEnds", spec := "fnGroupEnds", apart := false }
def FnGroupEndsSaid : Prop := fnGroupEndsRow.holds Try.pinned (OpenSpec.ofChange fnGroupEndsSpec)

/-- ITS FALSE NEIGHBOUR: 'it returns false'. Refute it at one input. -/
def fnGroupEndsWrong : ChangeSpec := { name := "fnGroupEnds", fn := fun _ => fun
  | [d1, d2] => { results := [.lit (.bool false)], args := [d1, d2] }
  | _ => none }
def FnGroupEndsWrongFalsely : Prop := fnGroupEndsRow.holds Try.pinned (OpenSpec.ofChange fnGroupEndsWrong)

/-- 'laws.FnExactReadTree': WHATEVER THE INPUT: true; the input reads as it did. -/
def fnExactReadTreeSpec : ChangeSpec := { name := "fnExactReadTree", fn := fun _ => fun
  | [d] => { results := [.lit (.bool true)], args := [d] }
  | _ => none }
def fnExactReadTreeRow : OpenClaim := { program := "ytbcahoaojdbebaa", sum := "50761b4bb2dc4d67207685af23709ec196c60af225c6b80bbcbfea8eca6a5312", func := "loop.example/g00662/laws.FnExactReadTree", spec := "fnExactReadTree", inPlace := ["internal/bytealg.IndexByteString"], recurses := true, apart := false }
def FnExactReadTreeSaid : Prop := fnExactReadTreeRow.holds Try.pinned (OpenSpec.ofChange fnExactReadTreeSpec)

/-- ITS FALSE NEIGHBOUR: 'it returns false'. Refute it at one input. -/
def fnExactReadTreeWrong : ChangeSpec := { name := "fnExactReadTree", fn := fun _ => fun
  | [d] => { results := [.lit (.bool false)], args := [d] }
  | _ => none }
def FnExactReadTreeWrongFalsely : Prop := fnExactReadTreeRow.holds Try.pinned (OpenSpec.ofChange fnExactReadTreeWrong)

/- THE SECOND FORM. 'bulk': how many values and letters a reading holds, each counted each time it is reached (what is shared counts as often as it is met; a slice's spare places count too). A statement '..UptoSaid' is the law's where the arguments, and the package variables that the reading takes, are together of bulk at most 1048576: NARROWER than '..Said'. Prove '..Said' where nothing that the law and all that it calls make is longer than what came in: it says more and counts as full. Else prove '..UptoSaid'. A law counts once. -/
mutual
def uptoBulk {H : Type} : DataW H → Nat
  | .lit (.string bytes) => bytes.length + 1
  | .lit _ => 1
  | .nil => 1
  | .ptr d => uptoBulk d + 1
  | .slice elems spare => uptoBulkAll elems + uptoBulkAll spare + 1
  | .agg parts => uptoBulkAll parts + 1
  | .iface _ d => uptoBulk d + 1
  | .map entries => uptoBulkEntries entries + 1
  | .held _ => 1
def uptoBulkAll {H : Type} : List (DataW H) → Nat
  | [] => 0
  | d :: r => uptoBulk d + uptoBulkAll r
def uptoBulkEntries {H : Type} : List (Lit × DataW H) → Nat
  | [] => 0
  | x :: r => uptoBulkEntry x + uptoBulkEntries r
def uptoBulkEntry {H : Type} : Lit × DataW H → Nat
  | (.string bytes, d) => bytes.length + uptoBulk d + 1
  | (_, d) => uptoBulk d + 1
 end
def uptoSmall : (H : Type) → List (DataW H) → Bool := fun _ ds => decide (uptoBulkAll ds ≤ 1048576)
def OpenSpec.upto (s : _root_.Go.ChangeSpec) : _root_.Go.OpenSpec := { _root_.Go.OpenSpec.ofChange s with cond := some uptoSmall }

/-- 'laws.FnExactRunesIn', WHERE WHAT IT READS IS OF BULK AT MOST 1048576: true; the input reads as it did. -/
def fnExactRunesInUptoRow : OpenClaim := { program := "ytbcahoaojdbebaa", sum := "50761b4bb2dc4d67207685af23709ec196c60af225c6b80bbcbfea8eca6a5312", func := "loop.example/g00662/laws.FnExactRunesIn", spec := "fnExactRunesIn", apart := false, narrowed := true }
def FnExactRunesInUptoSaid : Prop := fnExactRunesInUptoRow.holds Try.pinned (OpenSpec.upto fnExactRunesInSpec)

/-- 'laws.FnExactGoodStore', WHERE WHAT IT READS IS OF BULK AT MOST 1048576: true; the input reads as it did. -/
def fnExactGoodStoreUptoRow : OpenClaim := { program := "ytbcahoaojdbebaa", sum := "50761b4bb2dc4d67207685af23709ec196c60af225c6b80bbcbfea8eca6a5312", func := "loop.example/g00662/laws.FnExactGoodStore", spec := "fnExactGoodStore", apart := false, narrowed := true }
def FnExactGoodStoreUptoSaid : Prop := fnExactGoodStoreUptoRow.holds Try.pinned (OpenSpec.upto fnExactGoodStoreSpec)

/-- 'laws.FnExactNewStore', WHERE WHAT IT READS IS OF BULK AT MOST 1048576: true; the input reads as it did. -/
def fnExactNewStoreUptoRow : OpenClaim := { program := "ytbcahoaojdbebaa", sum := "50761b4bb2dc4d67207685af23709ec196c60af225c6b80bbcbfea8eca6a5312", func := "loop.example/g00662/laws.FnExactNewStore", spec := "fnExactNewStore", apart := false, narrowed := true }
def FnExactNewStoreUptoSaid : Prop := fnExactNewStoreUptoRow.holds Try.pinned (OpenSpec.upto fnExactNewStoreSpec)

/-- 'laws.FnExactGoodName', WHERE WHAT IT READS IS OF BULK AT MOST 1048576: true; the input reads as it did. -/
def fnExactGoodNameUptoRow : OpenClaim := { program := "ytbcahoaojdbebaa", sum := "50761b4bb2dc4d67207685af23709ec196c60af225c6b80bbcbfea8eca6a5312", func := "loop.example/g00662/laws.FnExactGoodName", spec := "fnExactGoodName", apart := false, narrowed := true }
def FnExactGoodNameUptoSaid : Prop := fnExactGoodNameUptoRow.holds Try.pinned (OpenSpec.upto fnExactGoodNameSpec)

/-- 'laws.FnExactDrawnFrom', WHERE WHAT IT READS IS OF BULK AT MOST 1048576: true; the input reads as it did. -/
def fnExactDrawnFromUptoRow : OpenClaim := { program := "ytbcahoaojdbebaa", sum := "50761b4bb2dc4d67207685af23709ec196c60af225c6b80bbcbfea8eca6a5312", func := "loop.example/g00662/laws.FnExactDrawnFrom", spec := "fnExactDrawnFrom", apart := false, narrowed := true }
def FnExactDrawnFromUptoSaid : Prop := fnExactDrawnFromUptoRow.holds Try.pinned (OpenSpec.upto fnExactDrawnFromSpec)

/-- 'laws.FnExactLeftIn', WHERE WHAT IT READS IS OF BULK AT MOST 1048576: true; the input reads as it did. -/
def fnExactLeftInUptoRow : OpenClaim := { program := "ytbcahoaojdbebaa", sum := "50761b4bb2dc4d67207685af23709ec196c60af225c6b80bbcbfea8eca6a5312", func := "loop.example/g00662/laws.FnExactLeftIn", spec := "fnExactLeftIn", apart := false, narrowed := true }
def FnExactLeftInUptoSaid : Prop := fnExactLeftInUptoRow.holds Try.pinned (OpenSpec.upto fnExactLeftInSpec)

/-- 'laws.FnExactCrashStore', WHERE WHAT IT READS IS OF BULK AT MOST 1048576: true; the input reads as it did. -/
def fnExactCrashStoreUptoRow : OpenClaim := { program := "ytbcahoaojdbebaa", sum := "50761b4bb2dc4d67207685af23709ec196c60af225c6b80bbcbfea8eca6a5312", func := "loop.example/g00662/laws.FnExactCrashStore", spec := "fnExactCrashStore", apart := false, narrowed := true }
def FnExactCrashStoreUptoSaid : Prop := fnExactCrashStoreUptoRow.holds Try.pinned (OpenSpec.upto fnExactCrashStoreSpec)

/-- 'laws.FnExactSyncStore', WHERE WHAT IT READS IS OF BULK AT MOST 1048576: true; the input reads as it did. -/
def fnExactSyncStoreUptoRow : OpenClaim := { program := "ytbcahoaojdbebaa", sum := "50761b4bb2dc4d67207685af23709ec196c60af225c6b80bbcbfea8eca6a5312", func := "loop.example/g00662/laws.FnExactSyncStore", spec := "fnExactSyncStore", apart := false, narrowed := true }
def FnExactSyncStoreUptoSaid : Prop := fnExactSyncStoreUptoRow.holds Try.pinned (OpenSpec.upto fnExactSyncStoreSpec)

/-- 'laws.FnExactNewGroup', WHERE WHAT IT READS IS OF BULK AT MOST 1048576: true; the input reads as it did. -/
def fnExactNewGroupUptoRow : OpenClaim := { program := "ytbcahoaojdbebaa", sum := "50761b4bb2dc4d67207685af23709ec196c60af225c6b80bbcbfea8eca6a5312", func := "loop.example/g00662/laws.FnExactNewGroup", spec := "fnExactNewGroup", apart := false, narrowed := true }
def FnExactNewGroupUptoSaid : Prop := fnExactNewGroupUptoRow.holds Try.pinned (OpenSpec.upto fnExactNewGroupSpec)

/-- 'laws.FnExactStepGroup', WHERE WHAT IT READS IS OF BULK AT MOST 1048576: true; the input reads as it did. -/
def fnExactStepGroupUptoRow : OpenClaim := { program := "ytbcahoaojdbebaa", sum := "50761b4bb2dc4d67207685af23709ec196c60af225c6b80bbcbfea8eca6a5312", func := "loop.example/g00662/laws.FnExactStepGroup", spec := "fnExactStepGroup", apart := false, narrowed := true }
def FnExactStepGroupUptoSaid : Prop := fnExactStepGroupUptoRow.holds Try.pinned (OpenSpec.upto fnExactStepGroupSpec)

/-- 'laws.FnGroupEnds', WHERE WHAT IT READS IS OF BULK AT MOST 1048576: true; the input reads as it did. -/
def fnGroupEndsUptoRow : OpenClaim := { program := "ytbcahoaojdbebaa", sum := "50761b4bb2dc4d67207685af23709ec196c60af225c6b80bbcbfea8eca6a5312", func := "loop.example/g00662/laws.FnGroupEnds", spec := "fnGroupEnds", apart := false, narrowed := true }
def FnGroupEndsUptoSaid : Prop := fnGroupEndsUptoRow.holds Try.pinned (OpenSpec.upto fnGroupEndsSpec)

/-- 'laws.FnExactReadTree', WHERE WHAT IT READS IS OF BULK AT MOST 1048576: true; the input reads as it did. -/
def fnExactReadTreeUptoRow : OpenClaim := { program := "ytbcahoaojdbebaa", sum := "50761b4bb2dc4d67207685af23709ec196c60af225c6b80bbcbfea8eca6a5312", func := "loop.example/g00662/laws.FnExactReadTree", spec := "fnExactReadTree", inPlace := ["internal/bytealg.IndexByteString"], recurses := true, apart := false, narrowed := true }
def FnExactReadTreeUptoSaid : Prop := fnExactReadTreeUptoRow.holds Try.pinned (OpenSpec.upto fnExactReadTreeSpec)

end Rows
end Go.Proofs.Ytbcahoaojdbebaa
