/-
  No cell of these rows narrows 'for every input' (looked for: loops, veiled, ifaces, maps, wideKeys, modest, calm, conditions, laid).
  DERIVED. THE GIVEN ROWS OF THIS SEAT. 12 by the template 'for every input the law returns true; each argument reads behind the call as it read before'; 0 by the template 'total and deterministic' (their statements: YtiddnhhjlipebaaTotals.lean).
  GIVEN WITH THE SEED: the statements are not yours to turn. If you find one false, say at which input.
  Laid BY PROGRAM, IN A SANDBOX (cutbox-rows.mjs): the forced cells as the released guide's own fill.sh prints them over the translation ffe61cc7c0da8d74… (all of the seat's roots in one cut). By AI agents, Wed Nov 11 2026. No macro, syntax, notation, axiom, sorry.
-/
import Derived.Test.YtiddnhhjlipebaaChecked
import GoSem.Claim
import GoSem.ClaimJoined
import GoSem.ClaimMapViews
import Derived.JoinedTies
import Derived.KernelRfl
namespace Go.Proofs.Ytiddnhhjlipebaa
/- THE CELL 'sum', in the pinned program and in every row, IS THE sha256 OF THE DUMP (.gsa) THAT YtiddnhhjlipebaaProg.lean LOADS. Nothing in Lean hashes anything: it is a label: what it is worth is what the hold of that sum in a sandbox is worth. -/
noncomputable def Try.pinned : Pinned := { name := "ytiddnhhjlipebaa", sum := "ffe61cc7c0da8d7436f7a5798c749ea44025103ffb765e43ee413269a3d6b67f", checked := Try.checked }
namespace Rows
def none {H : Type} : Left H := { results := [], args := [] }

/-- 'laws.FnExactPlayGroup': WHATEVER THE INPUT: true; the input reads as it did. -/
def fnExactPlayGroupSpec : ChangeSpec := { name := "fnExactPlayGroup", fn := fun _ => fun
  | [d1, d2] => { results := [.lit (.bool true)], args := [d1, d2] }
  | _ => none }
def fnExactPlayGroupRow : OpenClaim := { program := "ytiddnhhjlipebaa", sum := "ffe61cc7c0da8d7436f7a5798c749ea44025103ffb765e43ee413269a3d6b67f", func := "loop.example/g00662/laws.FnExactPlayGroup", spec := "fnExactPlayGroup", apart := false }
def FnExactPlayGroupSaid : Prop := fnExactPlayGroupRow.holds Try.pinned (OpenSpec.ofChange fnExactPlayGroupSpec)

/-- ITS FALSE NEIGHBOUR: 'it returns false'. Refute it at one input. -/
def fnExactPlayGroupWrong : ChangeSpec := { name := "fnExactPlayGroup", fn := fun _ => fun
  | [d1, d2] => { results := [.lit (.bool false)], args := [d1, d2] }
  | _ => none }
def FnExactPlayGroupWrongFalsely : Prop := fnExactPlayGroupRow.holds Try.pinned (OpenSpec.ofChange fnExactPlayGroupWrong)

/-- 'laws.FnGroup': WHATEVER THE INPUT: true; the input reads as it did. -/
def fnGroupSpec : ChangeSpec := { name := "fnGroup", fn := fun _ => fun
  | [d1, d2] => { results := [.lit (.bool true)], args := [d1, d2] }
  | _ => none }
def fnGroupRow : OpenClaim := { program := "ytiddnhhjlipebaa", sum := "ffe61cc7c0da8d7436f7a5798c749ea44025103ffb765e43ee413269a3d6b67f", func := "loop.example/g00662/laws.FnGroup", spec := "fnGroup", apart := false }
def FnGroupSaid : Prop := fnGroupRow.holds Try.pinned (OpenSpec.ofChange fnGroupSpec)

/-- ITS FALSE NEIGHBOUR: 'it returns false'. Refute it at one input. -/
def fnGroupWrong : ChangeSpec := { name := "fnGroup", fn := fun _ => fun
  | [d1, d2] => { results := [.lit (.bool false)], args := [d1, d2] }
  | _ => none }
def FnGroupWrongFalsely : Prop := fnGroupRow.holds Try.pinned (OpenSpec.ofChange fnGroupWrong)

/-- 'laws.FnExactGoodDesk': WHATEVER THE INPUT: true; the input reads as it did. -/
def fnExactGoodDeskSpec : ChangeSpec := { name := "fnExactGoodDesk", fn := fun _ => fun
  | [d] => { results := [.lit (.bool true)], args := [d] }
  | _ => none }
def fnExactGoodDeskRow : OpenClaim := { program := "ytiddnhhjlipebaa", sum := "ffe61cc7c0da8d7436f7a5798c749ea44025103ffb765e43ee413269a3d6b67f", func := "loop.example/g00662/laws.FnExactGoodDesk", spec := "fnExactGoodDesk", unfollowed := true, recurses := true, apart := false }
def FnExactGoodDeskSaid : Prop := fnExactGoodDeskRow.holds Try.pinned (OpenSpec.ofChange fnExactGoodDeskSpec)

/-- ITS FALSE NEIGHBOUR: 'it returns false'. Refute it at one input. -/
def fnExactGoodDeskWrong : ChangeSpec := { name := "fnExactGoodDesk", fn := fun _ => fun
  | [d] => { results := [.lit (.bool false)], args := [d] }
  | _ => none }
def FnExactGoodDeskWrongFalsely : Prop := fnExactGoodDeskRow.holds Try.pinned (OpenSpec.ofChange fnExactGoodDeskWrong)

/-- 'laws.FnExactHasRole': WHATEVER THE INPUT: true; the input reads as it did. -/
def fnExactHasRoleSpec : ChangeSpec := { name := "fnExactHasRole", fn := fun _ => fun
  | [d1, d2, d3] => { results := [.lit (.bool true)], args := [d1, d2, d3] }
  | _ => none }
def fnExactHasRoleRow : OpenClaim := { program := "ytiddnhhjlipebaa", sum := "ffe61cc7c0da8d7436f7a5798c749ea44025103ffb765e43ee413269a3d6b67f", func := "loop.example/g00662/laws.FnExactHasRole", spec := "fnExactHasRole", unfollowed := true, recurses := true, apart := false }
def FnExactHasRoleSaid : Prop := fnExactHasRoleRow.holds Try.pinned (OpenSpec.ofChange fnExactHasRoleSpec)

/-- ITS FALSE NEIGHBOUR: 'it returns false'. Refute it at one input. -/
def fnExactHasRoleWrong : ChangeSpec := { name := "fnExactHasRole", fn := fun _ => fun
  | [d1, d2, d3] => { results := [.lit (.bool false)], args := [d1, d2, d3] }
  | _ => none }
def FnExactHasRoleWrongFalsely : Prop := fnExactHasRoleRow.holds Try.pinned (OpenSpec.ofChange fnExactHasRoleWrong)

/-- 'laws.FnExactNewDesk': WHATEVER THE INPUT: true; the input reads as it did. -/
def fnExactNewDeskSpec : ChangeSpec := { name := "fnExactNewDesk", fn := fun _ => fun
  | [d] => { results := [.lit (.bool true)], args := [d] }
  | _ => none }
def fnExactNewDeskRow : OpenClaim := { program := "ytiddnhhjlipebaa", sum := "ffe61cc7c0da8d7436f7a5798c749ea44025103ffb765e43ee413269a3d6b67f", func := "loop.example/g00662/laws.FnExactNewDesk", spec := "fnExactNewDesk", unfollowed := true, recurses := true, apart := false }
def FnExactNewDeskSaid : Prop := fnExactNewDeskRow.holds Try.pinned (OpenSpec.ofChange fnExactNewDeskSpec)

/-- ITS FALSE NEIGHBOUR: 'it returns false'. Refute it at one input. -/
def fnExactNewDeskWrong : ChangeSpec := { name := "fnExactNewDesk", fn := fun _ => fun
  | [d] => { results := [.lit (.bool false)], args := [d] }
  | _ => none }
def FnExactNewDeskWrongFalsely : Prop := fnExactNewDeskRow.holds Try.pinned (OpenSpec.ofChange fnExactNewDeskWrong)

/-- 'laws.FnExactHeldBy': WHATEVER THE INPUT: true; the input reads as it did. -/
def fnExactHeldBySpec : ChangeSpec := { name := "fnExactHeldBy", fn := fun _ => fun
  | [d1, d2] => { results := [.lit (.bool true)], args := [d1, d2] }
  | _ => none }
def fnExactHeldByRow : OpenClaim := { program := "ytiddnhhjlipebaa", sum := "ffe61cc7c0da8d7436f7a5798c749ea44025103ffb765e43ee413269a3d6b67f", func := "loop.example/g00662/laws.FnExactHeldBy", spec := "fnExactHeldBy", unfollowed := true, recurses := true, apart := false }
def FnExactHeldBySaid : Prop := fnExactHeldByRow.holds Try.pinned (OpenSpec.ofChange fnExactHeldBySpec)

/-- ITS FALSE NEIGHBOUR: 'it returns false'. Refute it at one input. -/
def fnExactHeldByWrong : ChangeSpec := { name := "fnExactHeldBy", fn := fun _ => fun
  | [d1, d2] => { results := [.lit (.bool false)], args := [d1, d2] }
  | _ => none }
def FnExactHeldByWrongFalsely : Prop := fnExactHeldByRow.holds Try.pinned (OpenSpec.ofChange fnExactHeldByWrong)

/-- 'laws.FnExactOffersFor': WHATEVER THE INPUT: true; the input reads as it did. -/
def fnExactOffersForSpec : ChangeSpec := { name := "fnExactOffersFor", fn := fun _ => fun
  | [d1, d2] => { results := [.lit (.bool true)], args := [d1, d2] }
  | _ => none }
def fnExactOffersForRow : OpenClaim := { program := "ytiddnhhjlipebaa", sum := "ffe61cc7c0da8d7436f7a5798c749ea44025103ffb765e43ee413269a3d6b67f", func := "loop.example/g00662/laws.FnExactOffersFor", spec := "fnExactOffersFor", unfollowed := true, recurses := true, apart := false }
def FnExactOffersForSaid : Prop := fnExactOffersForRow.holds Try.pinned (OpenSpec.ofChange fnExactOffersForSpec)

/-- ITS FALSE NEIGHBOUR: 'it returns false'. Refute it at one input. -/
def fnExactOffersForWrong : ChangeSpec := { name := "fnExactOffersFor", fn := fun _ => fun
  | [d1, d2] => { results := [.lit (.bool false)], args := [d1, d2] }
  | _ => none }
def FnExactOffersForWrongFalsely : Prop := fnExactOffersForRow.holds Try.pinned (OpenSpec.ofChange fnExactOffersForWrong)

/-- 'laws.FnDesk': WHATEVER THE INPUT: true; the input reads as it did. -/
def fnDeskSpec : ChangeSpec := { name := "fnDesk", fn := fun _ => fun
  | [d1, d2] => { results := [.lit (.bool true)], args := [d1, d2] }
  | _ => none }
def fnDeskRow : OpenClaim := { program := "ytiddnhhjlipebaa", sum := "ffe61cc7c0da8d7436f7a5798c749ea44025103ffb765e43ee413269a3d6b67f", func := "loop.example/g00662/laws.FnDesk", spec := "fnDesk", unfollowed := true, recurses := true, apart := false }
def FnDeskSaid : Prop := fnDeskRow.holds Try.pinned (OpenSpec.ofChange fnDeskSpec)

/-- ITS FALSE NEIGHBOUR: 'it returns false'. Refute it at one input. -/
def fnDeskWrong : ChangeSpec := { name := "fnDesk", fn := fun _ => fun
  | [d1, d2] => { results := [.lit (.bool false)], args := [d1, d2] }
  | _ => none }
def FnDeskWrongFalsely : Prop := fnDeskRow.holds Try.pinned (OpenSpec.ofChange fnDeskWrong)

/-- 'laws.FnExactStepDesk': WHATEVER THE INPUT: true; the input reads as it did. -/
def fnExactStepDeskSpec : ChangeSpec := { name := "fnExactStepDesk", fn := fun _ => fun
  | [d1, d2] => { results := [.lit (.bool true)], args := [d1, d2] }
  | _ => none }
def fnExactStepDeskRow : OpenClaim := { program := "ytiddnhhjlipebaa", sum := "ffe61cc7c0da8d7436f7a5798c749ea44025103ffb765e43ee413269a3d6b67f", func := "loop.example/g00662/laws.FnExactStepDesk", spec := "fnExactStepDesk", unfollowed := true, recurses := true, apart := false }
def FnExactStepDeskSaid : Prop := fnExactStepDeskRow.holds Try.pinned (OpenSpec.ofChange fnExactStepDeskSpec)

/-- ITS FALSE NEIGHBOUR: 'it returns false'. Refute it at one input. -/
def fnExactStepDeskWrong : ChangeSpec := { name := "fnExactStepDesk", fn := fun _ => fun
  | [d1, d2] => { results := [.lit (.bool false)], args := [d1, d2] }
  | _ => none }
def FnExactStepDeskWrongFalsely : Prop := fnExactStepDeskRow.holds Try.pinned (OpenSpec.ofChange fnExactStepDeskWrong)

/-- 'laws.FnExactPlayDesk': WHATEVER THE INPUT: true; the input reads as it did. -/
def fnExactPlayDeskSpec : ChangeSpec := { name := "fnExactPlayDesk", fn := fun _ => fun
  | [d1, d2] => { results := [.lit (.bool true)], args := [d1, d2] }
  | _ => none }
def fnExactPlayDeskRow : OpenClaim := { program := "ytiddnhhjlipebaa", sum := "ffe61cc7c0da8d7436f7a5798c749ea44025103ffb765e43ee413269a3d6b67f", func := "loop.example/g00662/laws.FnExactPlayDesk", spec := "fnExactPlayDesk", unfollowed := true, recurses := true, apart := false }
def FnExactPlayDeskSaid : Prop := fnExactPlayDeskRow.holds Try.pinned (OpenSpec.ofChange fnExactPlayDeskSpec)

/-- ITS FALSE NEIGHBOUR: 'it returns false'. Refute it at one input. -/
def fnExactPlayDeskWrong : ChangeSpec := { name := "fnExactPlayDesk", fn := fun _ => fun
  | [d1, d2] => { results := [.lit (.bool false)], args := [d1, d2] }
  | _ => none }
def FnExactPlayDeskWrongFalsely : Prop := fnExactPlayDeskRow.holds Try.pinned (OpenSpec.ofChange fnExactPlayDeskWrong)

/-- 'laws.FnLeases': WHATEVER THE INPUT: true; the input reads as it did. -/
def fnLeasesSpec : ChangeSpec := { name := "fnLeases", fn := fun _ => fun
  | [d1, d2] => { results := [.lit (.bool true)], args := [d1, d2] }
  | _ => none }
def fnLeasesRow : OpenClaim := { program := "ytiddnhhjlipebaa", sum := "ffe61cc7c0da8d7436f7a5798c749ea44025103ffb765e43ee413269a3d6b67f", func := "loop.example/g00662/laws.FnLeases", spec := "fnLeases", unfollowed := true, recurses := true, apart := false }
def FnLeasesSaid : Prop := fnLeasesRow.holds Try.pinned (OpenSpec.ofChange fnLeasesSpec)

/-- ITS FALSE NEIGHBOUR: 'it returns false'. Refute it at one input. -/
def fnLeasesWrong : ChangeSpec := { name := "fnLeases", fn := fun _ => fun
  | [d1, d2] => { results := [.lit (.bool false)], args := [d1, d2] }
  | _ => none }
def FnLeasesWrongFalsely : Prop := fnLeasesRow.holds Try.pinned (OpenSpec.ofChange fnLeasesWrong)

/-- 'laws.FnGroupEnds': WHATEVER THE INPUT: true; the input reads as it did. -/
def fnGroupEndsSpec : ChangeSpec := { name := "fnGroupEnds", fn := fun _ => fun
  | [d1, d2] => { results := [.lit (.bool true)], args := [d1, d2] }
  | _ => none }
def fnGroupEndsRow : OpenClaim := { program := "ytiddnhhjlipebaa", sum := "ffe61cc7c0da8d7436f7a5798c749ea44025103ffb765e43ee413269a3d6b67f", func := "loop.example/g00662/laws.FnGroupEnds", spec := "fnGroupEnds", apart := false }
def FnGroupEndsSaid : Prop := fnGroupEndsRow.holds Try.pinned (OpenSpec.ofChange fnGroupEndsSpec)

/-- ITS FALSE NEIGHBOUR: 'it returns false'. Refute it at one input. -/
def fnGroupEndsWrong : ChangeSpec := { name := "fnGroupEnds", fn := fun _ => fun
  | [d1, d2] => { results := [.lit (.bool false)], args := [d1, d2] }
  | _ => none }
def FnGroupEndsWrongFalsely : Prop := fnGroupEndsRow.holds Try.pinned (OpenSpec.ofChange fnGroupEndsWrong)

/- THE SECOND FORM. 'bulk': how many values and letters a reading holds, each counted each time it is reached (what is shared counts as often as it is met; a slice's spare places count too). A statement '..UptoSaid' is the law's where the arguments, and the package variables that the reading takes, are together of bulk at most 1048576: NARROWER than '..Said'. Prove '..Said' where nothing that the law and all that it calls make is longer than what came in: it says more and counts as full. Else prove '..UptoSaid'. A law counts once. -/
mutual
def uptoBulk {H : Type} : DataW H → Nat
  | .lit (.string bytes) => bytes.length + 1
  | .lit _ => 1
  | .nil => 1
  | .ptr d => uptoBulk d + 1
  | .slice elems spare => uptoBulkAll elems + uptoBulkAll spare + 1
  | .agg parts => uptoBulkAll parts + 1
  | .iface _ d => uptoBulk d + 1
  | .map entries => uptoBulkEntries entries + 1
  | .held _ => 1
def uptoBulkAll {H : Type} : List (DataW H) → Nat
  | [] => 0
  | d :: r => uptoBulk d + uptoBulkAll r
def uptoBulkEntries {H : Type} : List (Lit × DataW H) → Nat
  | [] => 0
  | x :: r => uptoBulkEntry x + uptoBulkEntries r
def uptoBulkEntry {H : Type} : Lit × DataW H → Nat
  | (.string bytes, d) => bytes.length + uptoBulk d + 1
  | (_, d) => uptoBulk d + 1
 end
def uptoSmall : (H : Type) → List (DataW H) → Bool := fun _ ds => decide (uptoBulkAll ds ≤ 1048576)
def OpenSpec.upto (s : _root_.Go.ChangeSpec) : _root_.Go.OpenSpec := { _root_.Go.OpenSpec.ofChange s with cond := some uptoSmall }

/-- 'laws.FnExactPlayGroup', WHERE WHAT IT READS IS OF BULK AT MOST 1048576: true; the input reads as it did. -/
def fnExactPlayGroupUptoRow : OpenClaim := { program := "ytiddnhhjlipebaa", sum := "ffe61cc7c0da8d7436f7a5798c749ea44025103ffb765e43ee413269a3d6b67f", func := "loop.example/g00662/laws.FnExactPlayGroup", spec := "fnExactPlayGroup", apart := false, narrowed := true }
def FnExactPlayGroupUptoSaid : Prop := fnExactPlayGroupUptoRow.holds Try.pinned (OpenSpec.upto fnExactPlayGroupSpec)

/-- 'laws.FnGroup', WHERE WHAT IT READS IS OF BULK AT MOST 1048576: true; the input reads as it did. -/
def fnGroupUptoRow : OpenClaim := { program := "ytiddnhhjlipebaa", sum := "ffe61cc7c0da8d7436f7a5798c749ea44025103ffb765e43ee413269a3d6b67f", func := "loop.example/g00662/laws.FnGroup", spec := "fnGroup", apart := false, narrowed := true }
def FnGroupUptoSaid : Prop := fnGroupUptoRow.holds Try.pinned (OpenSpec.upto fnGroupSpec)

/-- 'laws.FnExactGoodDesk', WHERE WHAT IT READS IS OF BULK AT MOST 1048576: true; the input reads as it did. -/
def fnExactGoodDeskUptoRow : OpenClaim := { program := "ytiddnhhjlipebaa", sum := "ffe61cc7c0da8d7436f7a5798c749ea44025103ffb765e43ee413269a3d6b67f", func := "loop.example/g00662/laws.FnExactGoodDesk", spec := "fnExactGoodDesk", unfollowed := true, recurses := true, apart := false, narrowed := true }
def FnExactGoodDeskUptoSaid : Prop := fnExactGoodDeskUptoRow.holds Try.pinned (OpenSpec.upto fnExactGoodDeskSpec)

/-- 'laws.FnExactHasRole', WHERE WHAT IT READS IS OF BULK AT MOST 1048576: true; the input reads as it did. -/
def fnExactHasRoleUptoRow : OpenClaim := { program := "ytiddnhhjlipebaa", sum := "ffe61cc7c0da8d7436f7a5798c749ea44025103ffb765e43ee413269a3d6b67f", func := "loop.example/g00662/laws.FnExactHasRole", spec := "fnExactHasRole", unfollowed := true, recurses := true, apart := false, narrowed := true }
def FnExactHasRoleUptoSaid : Prop := fnExactHasRoleUptoRow.holds Try.pinned (OpenSpec.upto fnExactHasRoleSpec)

/-- 'laws.FnExactNewDesk', WHERE WHAT IT READS IS OF BULK AT MOST 1048576: true; the input reads as it did. -/
def fnExactNewDeskUptoRow : OpenClaim := { program := "ytiddnhhjlipebaa", sum := "ffe61cc7c0da8d7436f7a5798c749ea44025103ffb765e43ee413269a3d6b67f", func := "loop.example/g00662/laws.FnExactNewDesk", spec := "fnExactNewDesk", unfollowed := true, recurses := true, apart := false, narrowed := true }
def FnExactNewDeskUptoSaid : Prop := fnExactNewDeskUptoRow.holds Try.pinned (OpenSpec.upto fnExactNewDeskSpec)

/-- 'laws.FnExactHeldBy', WHERE WHAT IT READS IS OF BULK AT MOST 1048576: true; the input reads as it did. -/
def fnExactHeldByUptoRow : OpenClaim := { program := "ytiddnhhjlipebaa", sum := "ffe61cc7c0da8d7436f7a5798c749ea44025103ffb765e43ee413269a3d6b67f", func := "loop.example/g00662/laws.FnExactHeldBy", spec := "fnExactHeldBy", unfollowed := true, recurses := true, apart := false, narrowed := true }
def FnExactHeldByUptoSaid : Prop := fnExactHeldByUptoRow.holds Try.pinned (OpenSpec.upto fnExactHeldBySpec)

/-- 'laws.FnExactOffersFor', WHERE WHAT IT READS IS OF BULK AT MOST 1048576: true; the input reads as it did. -/
def fnExactOffersForUptoRow : OpenClaim := { program := "ytiddnhhjlipebaa", sum := "ffe61cc7c0da8d7436f7a5798c749ea44025103ffb765e43ee413269a3d6b67f", func := "loop.example/g00662/laws.FnExactOffersFor", spec := "fnExactOffersFor", unfollowed := true, recurses := true, apart := false, narrowed := true }
def FnExactOffersForUptoSaid : Prop := fnExactOffersForUptoRow.holds Try.pinned (OpenSpec.upto fnExactOffersForSpec)

/-- 'laws.FnDesk', WHERE WHAT IT READS IS OF BULK AT MOST 1048576: true; the input reads as it did. -/
def fnDeskUptoRow : OpenClaim := { program := "ytiddnhhjlipebaa", sum := "ffe61cc7c0da8d7436f7a5798c749ea44025103ffb765e43ee413269a3d6b67f", func := "loop.example/g00662/laws.FnDesk", spec := "fnDesk", unfollowed := true, recurses := true, apart := false, narrowed := true }
def FnDeskUptoSaid : Prop := fnDeskUptoRow.holds Try.pinned (OpenSpec.upto fnDeskSpec)

/-- 'laws.FnExactStepDesk', WHERE WHAT IT READS IS OF BULK AT MOST 1048576: true; the input reads as it did. -/
def fnExactStepDeskUptoRow : OpenClaim := { program := "ytiddnhhjlipebaa", sum := "ffe61cc7c0da8d7436f7a5798c749ea44025103ffb765e43ee413269a3d6b67f", func := "loop.example/g00662/laws.FnExactStepDesk", spec := "fnExactStepDesk", unfollowed := true, recurses := true, apart := false, narrowed := true }
def FnExactStepDeskUptoSaid : Prop := fnExactStepDeskUptoRow.holds Try.pinned (OpenSpec.upto fnExactStepDeskSpec)

/-- 'laws.FnExactPlayDesk', WHERE WHAT IT READS IS OF BULK AT MOST 1048576: true; the input reads as it did. -/
def fnExactPlayDeskUptoRow : OpenClaim := { program := "ytiddnhhjlipebaa", sum := "ffe61cc7c0da8d7436f7a5798c749ea44025103ffb765e43ee413269a3d6b67f", func := "loop.example/g00662/laws.FnExactPlayDesk", spec := "fnExactPlayDesk", unfollowed := true, recurses := true, apart := false, narrowed := true }
def FnExactPlayDeskUptoSaid : Prop := fnExactPlayDeskUptoRow.holds Try.pinned (OpenSpec.upto fnExactPlayDeskSpec)

/-- 'laws.FnLeases', WHERE WHAT IT READS IS OF BULK AT MOST 1048576: true; the input reads as it did. -/
def fnLeasesUptoRow : OpenClaim := { program := "ytiddnhhjlipebaa", sum := "ffe61cc7c0da8d7436f7a5798c749ea44025103ffb765e43ee413269a3d6b67f", func := "loop.example/g00662/laws.FnLeases", spec := "fnLeases", unfollowed := true, recurses := true, apart := false, narrowed := true }
def FnLeasesUptoSaid : Prop := fnLeasesUptoRow.holds Try.pinned (OpenSpec.upto fnLeasesSpec)

/-- 'laws.FnGroupEnds', WHERE WHAT IT READS IS OF BULK AT MOST 1048576: true; the input reads as it did. -/
def fnGroupEndsUptoRow : OpenClaim := { program := "ytiddnhhjlipebaa", sum := "ffe61cc7c0da8d7436f7a5798c749ea44025103ffb765e43ee413269a3d6b67f", func := "loop.example/g00662/laws.FnGroupEnds", spec := "fnGroupEnds", apart := false, narrowed := true }
def FnGroupEndsUptoSaid : Prop := fnGroupEndsUptoRow.holds Try.pinned (OpenSpec.upto fnGroupEndsSpec)

end Rows
end Go.Proofs.Ytiddnhhjlipebaa
