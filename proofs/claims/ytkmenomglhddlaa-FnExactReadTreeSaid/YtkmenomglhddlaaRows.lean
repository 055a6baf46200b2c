/-
  No cell of these rows narrows 'for every input' (looked for: loops, veiled, ifaces, maps, wideKeys, modest, calm, conditions, laid).
  DERIVED. THE GIVEN ROWS OF THIS SEAT. 5 by the template 'for every input the law returns true; each argument reads behind the call as it read before'; 0 by the template 'total and deterministic' (their statements: YtkmenomglhddlaaTotals.lean).
  GIVEN WITH THE SEED: the statements are not yours to turn. If you find one false, say at which input.
  Laid BY PROGRAM, IN A SANDBOX (cutbox-rows.mjs): the forced cells as the released guide's own fill.sh prints them over the translation e69114eb1a1d2f6d… (all of the seat's roots in one cut). By AI agents, Wed Nov 11 2026. No macro, syntax, notation, axiom, sorry.
-/
import Derived.Test.YtkmenomglhddlaaChecked
import GoSem.Claim
import GoSem.ClaimJoined
import GoSem.ClaimMapViews
import Derived.JoinedTies
import Derived.KernelRfl
namespace Go.Proofs.Ytkmenomglhddlaa
/- THE CELL 'sum', in the pinned program and in every row, IS THE sha256 OF THE DUMP (.gsa) THAT YtkmenomglhddlaaProg.lean LOADS. Nothing in Lean hashes anything: it is a label: what it is worth is what the hold of that sum in a sandbox is worth. -/
noncomputable def Try.pinned : Pinned := { name := "ytkmenomglhddlaa", sum := "e69114eb1a1d2f6daedf66db09b6dc154696d67b0425ce6e33a9f9e4104607f0", checked := Try.checked }
namespace Rows
def none {H : Type} : Left H := { results := [], args := [] }

/-- 'laws.FnExactRunesIn': WHATEVER THE INPUT: true; the input reads as it did. -/
def fnExactRunesInSpec : ChangeSpec := { name := "fnExactRunesIn", fn := fun _ => fun
  | [d] => { results := [.lit (.bool true)], args := [d] }
  | _ => none }
def fnExactRunesInRow : OpenClaim := { program := "ytkmenomglhddlaa", sum := "e69114eb1a1d2f6daedf66db09b6dc154696d67b0425ce6e33a9f9e4104607f0", func := "loop.example/g00662/laws.FnExactRunesIn", spec := "fnExactRunesIn", apart := false }
def FnExactRunesInSaid : Prop := fnExactRunesInRow.holds Try.pinned (OpenSpec.ofChange fnExactRunesInSpec)

/-- ITS FALSE NEIGHBOUR: 'it returns false'. Refute it at one input. -/
def fnExactRunesInWrong : ChangeSpec := { name := "fnExactRunesIn", fn := fun _ => fun
  | [d] => { results := [.lit (.bool false)], args := [d] }
  | _ => none }
def FnExactRunesInWrongFalsely : Prop := fnExactRunesInRow.holds Try.pinned (OpenSpec.ofChange fnExactRunesInWrong)

/-- 'laws.FnExactGoodName': WHATEVER THE INPUT: true; the input reads as it did. -/
def fnExactGoodNameSpec : ChangeSpec := { name := "fnExactGoodName", fn := fun _ => fun
  | [d] => { results := [.lit (.bool true)], args := [d] }
  | _ => none }
def fnExactGoodNameRow : OpenClaim := { program := "ytkmenomglhddlaa", sum := "e69114eb1a1d2f6daedf66db09b6dc154696d67b0425ce6e33a9f9e4104607f0", func := "loop.example/g00662/laws.FnExactGoodName", spec := "fnExactGoodName", apart := false }
def FnExactGoodNameSaid : Prop := fnExactGoodNameRow.holds Try.pinned (OpenSpec.ofChange fnExactGoodNameSpec)

/-- ITS FALSE NEIGHBOUR: 'it returns false'. Refute it at one input. -/
def fnExactGoodNameWrong : ChangeSpec := { name := "fnExactGoodName", fn := fun _ => fun
  | [d] => { results := [.lit (.bool false)], args := [d] }
  | _ => none }
def FnExactGoodNameWrongFalsely : Prop := fnExactGoodNameRow.holds Try.pinned (OpenSpec.ofChange fnExactGoodNameWrong)

/-- 'laws.FnExactCrashStore': WHATEVER THE INPUT: true; the input reads as it did. -/
def fnExactCrashStoreSpec : ChangeSpec := { name := "fnExactCrashStore", fn := fun _ => fun
  | [d1, d2] => { results := [.lit (.bool true)], args := [d1, d2] }
  | _ => none }
def fnExactCrashStoreRow : OpenClaim := { program := "ytkmenomglhddlaa", sum := "e69114eb1a1d2f6daedf66db09b6dc154696d67b0425ce6e33a9f9e4104607f0", func := "loop.example/g00662/laws.FnExactCrashStore", spec := "fnExactCrashStore", apart := false }
def FnExactCrashStoreSaid : Prop := fnExactCrashStoreRow.holds Try.pinned (OpenSpec.ofChange fnExactCrashStoreSpec)

/-- ITS FALSE NEIGHBOUR: 'it returns false'. Refute it at one input. -/
def fnExactCrashStoreWrong : ChangeSpec := { name := "fnExactCrashStore", fn := fun _ => fun
  | [d1, d2] => { results := [.lit (.bool false)], args := [d1, d2] }
  | _ => none }
def FnExactCrashStoreWrongFalsely : Prop := fnExactCrashStoreRow.holds Try.pinned (OpenSpec.ofChange fnExactCrashStoreWrong)

/-- 'laws.FnGroupEnds': WHATEVER THE INPUT: true; the input reads as it did. -/
def fnGroupEndsSpec : ChangeSpec := { name := "fnGroupEnds", fn := fun _ => fun
  | [d1, d2] => { results := [.lit (.bool true)], args := [d1, d2] }
  | _ => none }
def fnGroupEndsRow : OpenClaim := { program := "ytkmenomglhddlaa", sum := "e69114eb1a1d2f6daedf66db09b6dc154696d67b0425ce6e33a9f9e4104607f0", func := "loop.example/g00662/laws.FnGroupEnds", spec := "fnGroupEnds", apart := false }
def FnGroupEndsSaid : Prop := fnGroupEndsRow.holds Try.pinned (OpenSpec.ofChange fnGroupEndsSpec)

/-- ITS FALSE NEIGHBOUR: 'it returns false'. Refute it at one input. -/
def fnGroupEndsWrong : ChangeSpec := { name := "fnGroupEnds", fn := fun _ => fun
  | [d1, d2] => { results := [.lit (.bool false)], args := [d1, d2] }
  | _ => none }
def FnGroupEndsWrongFalsely : Prop := fnGroupEndsRow.holds Try.pinned (OpenSpec.ofChange fnGroupEndsWrong)

/-- 'laws.FnExactReadTree': WHATEVER THE INPUT: true; the input reads as it did. -/
def fnExactReadTreeSpec : ChangeSpec := { name := "fnExactReadTree", fn := fun _ => fun
  | [d] => { results := [.lit (.bool true)], args := [d] }
  | _ => none }
def fnExactReadTreeRow : OpenClaim := { program := "ytkmenomglhddlaa", sum := "e69114eb1a1d2f6daedf66db09b6dc154696d67b0425ce6e33a9f9e4104607f0", func := "loop.example/g00662/laws.FnExactReadTree", spec := "fnExactReadTree", inPlace := ["internal/bytealg.IndexByteString"], recurses := true, apart := false }
def FnExactReadTreeSaid : Prop := fnExactReadTreeRow.holds Try.pinned (OpenSpec.ofChange fnExactReadTreeSpec)

/-- ITS FALSE NEIGHBOUR: 'it returns false'. Refute it at one input. -/
def fnExactReadTreeWrong : ChangeSpec := { name := "fnExactReadTree", fn := fun _ => fun
  | [d] => { results := [.lit (.bool false)], args := [d] }
  | _ => none }
def FnExactReadTreeWrongFalsely : Prop := fnExactReadTreeRow.holds Try.pinned (OpenSpec.ofChange fnExactReadTreeWrong)

/- THE SECOND FORM. 'bulk': how many values and letters a reading holds, each counted each time it is reached (what is shared counts as often as it is met; a slice's spare places count too). A statement '..UptoSaid' is the law's where the arguments, and the package variables that the reading takes, are together of bulk at most 1048576: NARROWER than '..Said'. Prove '..Said' where nothing that the law and all that it calls make is longer than what came in: it says more and counts as full. Else prove '..UptoSaid'. A law counts once. -/
mutual
def uptoBulk {H : Type} : DataW H → Nat
  | .lit (.string bytes) => bytes.length + 1
  | .lit _ => 1
  | .nil => 1
  | .ptr d => uptoBulk d + 1
  | .slice elems spare => uptoBulkAll elems + uptoBulkAll spare + 1
  | .agg parts => uptoBulkAll parts + 1
  | .iface _ d => uptoBulk d + 1
  | .map entries => uptoBulkEntries entries + 1
  | .held _ => 1
def uptoBulkAll {H : Type} : List (DataW H) → Nat
  | [] => 0
  | d :: r => uptoBulk d + uptoBulkAll r
def uptoBulkEntries {H : Type} : List (Lit × DataW H) → Nat
  | [] => 0
  | x :: r => uptoBulkEntry x + uptoBulkEntries r
def uptoBulkEntry {H : Type} : Lit × DataW H → Nat
  | (.string bytes, d) => bytes.length + uptoBulk d + 1
  | (_, d) => uptoBulk d + 1
 end
def uptoSmall : (H : Type) → List (DataW H) → Bool := fun _ ds => decide (uptoBulkAll ds ≤ 1048576)
def OpenSpec.upto (s : _root_.Go.ChangeSpec) : _root_.Go.OpenSpec := { _root_.Go.OpenSpec.ofChange s with cond := some uptoSmall }

/-- 'laws.FnExactRunesIn', WHERE WHAT IT READS IS OF BULK AT MOST 1048576: true; the input reads as it did. -/
def fnExactRunesInUptoRow : OpenClaim := { program := "ytkmenomglhddlaa", sum := "e69114eb1a1d2f6daedf66db09b6dc154696d67b0425ce6e33a9f9e4104607f0", func := "loop.example/g00662/laws.FnExactRunesIn", spec := "fnExactRunesIn", apart := false, narrowed := true }
def FnExactRunesInUptoSaid : Prop := fnExactRunesInUptoRow.holds Try.pinned (OpenSpec.upto fnExactRunesInSpec)

/-- 'laws.FnExactGoodName', WHERE WHAT IT READS IS OF BULK AT MOST 1048576: true; the input reads as it did. -/
def fnExactGoodNameUptoRow : OpenClaim := { program := "ytkmenomglhddlaa", sum := "e69114eb1a1d2f6daedf66db09b6dc154696d67b0425ce6e33a9f9e4104607f0", func := "loop.example/g00662/laws.FnExactGoodName", spec := "fnExactGoodName", apart := false, narrowed := true }
def FnExactGoodNameUptoSaid : Prop := fnExactGoodNameUptoRow.holds Try.pinned (OpenSpec.upto fnExactGoodNameSpec)

/-- 'laws.FnExactCrashStore', WHERE WHAT IT READS IS OF BULK AT MOST 1048576: true; the input reads as it did. -/
def fnExactCrashStoreUptoRow : OpenClaim := { program := "ytkmenomglhddlaa", sum := "e69114eb1a1d2f6daedf66db09b6dc154696d67b0425ce6e33a9f9e4104607f0", func := "loop.example/g00662/laws.FnExactCrashStore", spec := "fnExactCrashStore", apart := false, narrowed := true }
def FnExactCrashStoreUptoSaid : Prop := fnExactCrashStoreUptoRow.holds Try.pinned (OpenSpec.upto fnExactCrashStoreSpec)

/-- 'laws.FnGroupEnds', WHERE WHAT IT READS IS OF BULK AT MOST 1048576: true; the input reads as it did. -/
def fnGroupEndsUptoRow : OpenClaim := { program := "ytkmenomglhddlaa", sum := "e69114eb1a1d2f6daedf66db09b6dc154696d67b0425ce6e33a9f9e4104607f0", func := "loop.example/g00662/laws.FnGroupEnds", spec := "fnGroupEnds", apart := false, narrowed := true }
def FnGroupEndsUptoSaid : Prop := fnGroupEndsUptoRow.holds Try.pinned (OpenSpec.upto fnGroupEndsSpec)

/-- 'laws.FnExactReadTree', WHERE WHAT IT READS IS OF BULK AT MOST 1048576: true; the input reads as it did. -/
def fnExactReadTreeUptoRow : OpenClaim := { program := "ytkmenomglhddlaa", sum := "e69114eb1a1d2f6daedf66db09b6dc154696d67b0425ce6e33a9f9e4104607f0", func := "loop.example/g00662/laws.FnExactReadTree", spec := "fnExactReadTree", inPlace := ["internal/bytealg.IndexByteString"], recurses := true, apart := false, narrowed := true }
def FnExactReadTreeUptoSaid : Prop := fnExactReadTreeUptoRow.holds Try.pinned (OpenSpec.upto fnExactReadTreeSpec)

end Rows
end Go.Proofs.Ytkmenomglhddlaa
