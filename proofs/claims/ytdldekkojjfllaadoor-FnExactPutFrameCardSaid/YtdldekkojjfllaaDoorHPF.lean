/- The law FnExactPutFrame: whatever its arguments are, it returns true and leaves them as they were. Conditions: none. -/
import Derived.Test.YtdldekkojjfllaaDoorRows
import Derived.Test.YtdldekkojjfllaaDoorCards
import Derived.Test.YtdldekkojjfllaaDoorTie
import Derived.Test.YtdldekkojjfllaaDoorJ3
import Derived.Test.YtdldekkojjfllaaDoorV3
import Derived.Test.YtdldekkojjfllaaDoorV1
import Derived.SizedLaws
import Derived.Deep.DeepHandedRow
import Derived.Lay
import Derived.LaidLaws
import Derived.SevenTiedAt
namespace Go.Proofs.YtdldekkojjfllaaDoor.fnExactPutFrame
open Go.ChangeShapes Go.WideShapes Go.ChangeAt Go.RowKit Go.Proofs.YtdldekkojjfllaaDoor.Am
set_option linter.unusedVariables false
set_option linter.unusedSimpArgs false
theorem own : ownKnob Tryd.prog.godebug = none := by kernel_rfl
theorem laid : laidOutB Tryd.prog = true := by kernel_rfl
set_option maxRecDepth 100000
theorem laid_met (os : Os) (args : Array Value) : laidMet Tryd.prog Rows.fnExactPutFrameRow.laid ((World.laidAll Tryd.prog os Rows.fnExactPutFrameRow.laid).forCall (fun _ _ => 0) ⟨#[], args, []⟩).memory :=
  laidMet_laidAll args (by kernel_rfl) (by kernel_rfl)
theorem witness_row (os : Os) {H : Type} (enc : TypeId × Value → H) :
    (OpenSpec.ofChange Rows.fnExactPutFrameSpec).preRow enc Tryd.prog Tryd.f4 Rows.fnExactPutFrameRow.domain false Rows.fnExactPutFrameRow.laid ((World.laidAll Tryd.prog os Rows.fnExactPutFrameRow.laid).forCall (fun _ _ => 0) ⟨#[], #[.agg #[.int .i64 0, .string ByteArray.empty, .string ByteArray.empty], .string ByteArray.empty], []⟩).memory #[.agg #[.int .i64 0, .string ByteArray.empty, .string ByteArray.empty], .string ByteArray.empty] := by
  have hw : (DataW.whole enc Tryd.prog ((World.laidAll Tryd.prog os Rows.fnExactPutFrameRow.laid).forCall (fun _ _ => 0) ⟨#[], #[.agg #[.int .i64 0, .string ByteArray.empty, .string ByteArray.empty], .string ByteArray.empty], []⟩).memory Tryd.f4.params.toList (OpenSpec.ofChange Rows.fnExactPutFrameSpec).vars false (#[.agg #[.int .i64 0, .string ByteArray.empty, .string ByteArray.empty], .string ByteArray.empty] : Array Value).toList 8).map (fun x => (x.1, x.2.1)) =
      some ([.agg [.lit (.int .i64 0), .lit (.string []), .lit (.string [])], .lit (.string [])], []) := by kernel_rfl
  obtain ⟨⟨x1, x2, x3⟩, hx, hx1⟩ := Option.map_eq_some_iff.1 hw
  simp only [Prod.mk.injEq] at hx1
  obtain ⟨rfl, rfl⟩ := hx1
  exact OpenSpec.preRow_of_cond 8 hx (by kernel_rfl) (fun k hk => by cases hk) (by kernel_rfl) (laid_met os _)
theorem lifted (os : Os) (started : os.Started) (H : Type) (enc : TypeId × Value → H) (F : Stop.Interp) :
    ReturnsInHanded {} Tryd.checked os 4 .any ((OpenSpec.ofChange Rows.fnExactPutFrameSpec).preRow enc Tryd.prog Tryd.f4 Rows.fnExactPutFrameRow.domain false Rows.fnExactPutFrameRow.laid) (((OpenSpec.ofChange Rows.fnExactPutFrameSpec).at F).post enc Tryd.prog Tryd.f4 false true false false) := by
  refine returnsInHanded_of_row (C := Tryd.checked) (s := OpenSpec.ofChange Rows.fnExactPutFrameSpec) own started (by kernel_rfl) Tryd.func4
    (witness_row_at (enc := enc) (C := Tryd.checked) false (World.laidAll Tryd.prog os Rows.fnExactPutFrameRow.laid) #[.agg #[.int .i64 0, .string ByteArray.empty, .string ByteArray.empty], .string ByteArray.empty] (World.laidAll_os _ _ _) (by kernel_rfl) (by kernel_rfl) (by kernel_rfl) (witness_row os enc)) ?_
  intro W base args ds gs before hval0 hW _ _ hsz0 hL0 hsh _
  have hval : ∀ (j : Nat) t v, Tryd.f4.params[j]? = some t → args[j]? = some v → Value.okWide Tryd.prog W .any base t v := hval0
  have hW' := hW
  obtain ⟨p, q, hA0, hV, rfl, hfz, hnd⟩ := hW
  have hA1 : DataW.TrodAll enc Tryd.prog W 0 (fun _ => true) true Tryd.f4.params.toList args.toList ds p := hA0
  obtain ⟨rfl, rfl⟩ := trodVars_none hV
  have hA := hA1
  rw [Tryd.params4] at hA hval
  obtain ⟨v0, vs0, d0, ds0, p0, q0, hargs0, hds0, hps0, h0, r0⟩ := trodAll_cons hA
  obtain ⟨v1, vs1, d1, ds1, p1, q1, hargs1, hds1, hps1, h1, r1⟩ := trodAll_cons r0
  obtain ⟨hv, hd, _⟩ := trodAll_nil r1
  obtain rfl : ds = [d0, d1] := by simp_all
  obtain rfl : args = #[v0, v1] := by cases args; simp_all
  have hL : laidMet Tryd.prog Rows.fnExactPutFrameRow.laid W := hL0
  have wr := wrel_dE (m := fun _ => ⟨0, 0, 0, 0⟩) hL (.tail _ (.tail _ (.head _))) (.tail _ (.tail _ (.tail _ (.tail _ (.head _))))) (.tail _ (.tail _ (.tail _ (.head _))))
  have no : NoOwn [] := fun id b h => by simp at h
  obtain ⟨g0, rfl, w0⟩ := open_Store (hval 0 33 v0 rfl rfl) h0
  obtain ⟨a1, rfl, w1⟩ := open_str Tryd.underlying9 (hval 1 9 v1 rfl rfl) h1
  refine (law_of (args := [.agg g0.cells.toArray, .string a1]) (args' := [.agg g0.cells.toArray, .string a1]) (lawPutFrame_ok _ _ _ (by obtain ⟨q0, q1, q2⟩ := w0; unfold maxLen at q1 q2; omega) w1) ⟨.of_af g0.af, .string _, trivial⟩ wr no).mono fun e W' ⟨he, bel⟩ => ?_
  subst he
  exact ⟨_, rfl, _, _, _, [], _, [], hW', trodAll_mk1 (shut_bool Tryd.underlying4 _), trodAll_below laid bel (by kernel_rfl) hA1, rfl, bel.frame _, fun h => by cases h⟩
theorem over : Rows.fnExactPutFrameRow.holds Tryd.pinned (OpenSpec.ofChange Rows.fnExactPutFrameSpec) :=
  OpenClaim.holds_of_cond 4 Tryd.f4 rfl rfl rfl rfl rfl rfl rfl ⟨rfl, rfl, rfl, rfl, rfl⟩ rfl rfl rfl rfl rfl (by kernel_rfl) Tryd.func4 (by kernel_rfl)
    (of_decide_eq_true (by kernel_rfl)) (by unfold Func.isWrapper; first | (rw [if_pos (by decide +kernel)]; kernel_rfl) | (rw [if_neg (by decide +kernel)]; exact ⟨rfl, rfl⟩))
    (fun os started H enc _ F0 => by rw [OpenClaim.pre_eq_preRow]; exact lifted os started H enc F0)
theorem proved : Rows.FnExactPutFrameSaid := over
/-- The tied card. -/
theorem card : Rows.FnExactPutFrameCardSaid :=
  Claim7.holds_tied_plain_at .later [] [.data, .data, .data, .sentinel, .sentinel] true (true, "862429021564b246d0e78ee14fe712c78af673f0e388443a6ce3573869650d7b") true
    over (fun _ h => by cases h) (by kernel_rfl) (fun _ h => by cases h) fnExactPutFrame_row_tie rfl ⟨rfl, rfl⟩ (by kernel_rfl) rfl
    (fun f fn hf hfn => by
      obtain rfl : f = 4 := Option.some.inj ((show Tryd.prog.funcNamed "loop.example/g00662/laws.FnExactPutFrame" = some 4 by kernel_rfl).symm.trans hf) |>.symm
      obtain rfl : fn = Tryd.f4 := (Option.some.inj (Tryd.func4.symm.trans hfn)).symm
      exact ⟨by kernel_rfl, fun j t ht => by
        rw [Tryd.params4] at ht
        rcases j with _ | _ | j
        · obtain rfl : t = 33 := by simpa using ht.symm
          exact (show Tryd.prog.wantsStandIn 33 = false by kernel_rfl)
        · obtain rfl : t = 9 := by simpa using ht.symm
          exact (show Tryd.prog.wantsStandIn 9 = false by kernel_rfl)
        · simp at ht⟩)
    (by kernel_rfl)
end Go.Proofs.YtdldekkojjfllaaDoor.fnExactPutFrame
namespace Go.Proofs.YtdldekkojjfllaaDoor
/-- The card, under a short name, for the claim. -/
theorem fnExactPutFrame_holds : Rows.FnExactPutFrameCardSaid := fnExactPutFrame.card
end Go.Proofs.YtdldekkojjfllaaDoor
