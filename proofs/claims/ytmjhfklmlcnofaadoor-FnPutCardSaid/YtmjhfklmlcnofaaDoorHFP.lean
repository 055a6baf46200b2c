/- The law FnPut: whatever its arguments are, it returns true and leaves them as they were. Conditions: none. -/
import Derived.Test.YtmjhfklmlcnofaaDoorRows
import Derived.Test.YtmjhfklmlcnofaaDoorCards
import Derived.Test.YtmjhfklmlcnofaaDoorTie
import Derived.Test.YtmjhfklmlcnofaaDoorK3
import Derived.Test.YtmjhfklmlcnofaaDoorV8
import Derived.Test.YtmjhfklmlcnofaaDoorV1
import Derived.SizedLaws
import Derived.Deep.DeepHandedRow
import Derived.Lay
import Derived.LaidLaws
import Derived.SevenTiedAt
namespace Go.Proofs.YtmjhfklmlcnofaaDoor.fnPut
open Go.ChangeShapes Go.WideShapes Go.ChangeAt Go.RowKit Go.Proofs.YtmjhfklmlcnofaaDoor.Am
set_option linter.unusedVariables false
set_option linter.unusedSimpArgs false
theorem own : ownKnob Tryd.prog.godebug = none := by kernel_rfl
theorem laid : laidOutB Tryd.prog = true := by kernel_rfl
set_option maxRecDepth 100000
theorem laid_met (os : Os) (args : Array Value) : laidMet Tryd.prog Rows.fnPutRow.laid ((World.laidAll Tryd.prog os Rows.fnPutRow.laid).forCall (fun _ _ => 0) ⟨#[], args, []⟩).memory :=
  laidMet_laidAll args (by kernel_rfl) (by kernel_rfl)
theorem witness_row (os : Os) {H : Type} (enc : TypeId × Value → H) :
    (OpenSpec.ofChange Rows.fnPutSpec).preRow enc Tryd.prog Tryd.f4 Rows.fnPutRow.domain false Rows.fnPutRow.laid ((World.laidAll Tryd.prog os Rows.fnPutRow.laid).forCall (fun _ _ => 0) ⟨#[], #[.slice none 0 0, .slice none 0 0], []⟩).memory #[.slice none 0 0, .slice none 0 0] := by
  have hw : (DataW.whole enc Tryd.prog ((World.laidAll Tryd.prog os Rows.fnPutRow.laid).forCall (fun _ _ => 0) ⟨#[], #[.slice none 0 0, .slice none 0 0], []⟩).memory Tryd.f4.params.toList (OpenSpec.ofChange Rows.fnPutSpec).vars false (#[.slice none 0 0, .slice none 0 0] : Array Value).toList 8).map (fun x => (x.1, x.2.1)) =
      some ([.nil, .nil], []) := by kernel_rfl
  obtain ⟨⟨x1, x2, x3⟩, hx, hx1⟩ := Option.map_eq_some_iff.1 hw
  simp only [Prod.mk.injEq] at hx1
  obtain ⟨rfl, rfl⟩ := hx1
  exact OpenSpec.preRow_of_cond 8 hx (by kernel_rfl) (fun k hk => by cases hk) (by kernel_rfl) (laid_met os _)
theorem lifted (os : Os) (started : os.Started) (H : Type) (enc : TypeId × Value → H) (F : Stop.Interp) :
    ReturnsInHanded {} Tryd.checked os 4 .any ((OpenSpec.ofChange Rows.fnPutSpec).preRow enc Tryd.prog Tryd.f4 Rows.fnPutRow.domain false Rows.fnPutRow.laid) (((OpenSpec.ofChange Rows.fnPutSpec).at F).post enc Tryd.prog Tryd.f4 false true false false) := by
  refine returnsInHanded_of_row (C := Tryd.checked) (s := OpenSpec.ofChange Rows.fnPutSpec) own started (by kernel_rfl) Tryd.func4
    (witness_row_at (enc := enc) (C := Tryd.checked) false (World.laidAll Tryd.prog os Rows.fnPutRow.laid) #[.slice none 0 0, .slice none 0 0] (World.laidAll_os _ _ _) (by kernel_rfl) (by kernel_rfl) (by kernel_rfl) (witness_row os enc)) ?_
  intro W base args ds gs before hval0 hW _ _ hsz0 hL0 hsh _
  have hval : ∀ (j : Nat) t v, Tryd.f4.params[j]? = some t → args[j]? = some v → Value.okWide Tryd.prog W .any base t v := hval0
  have hW' := hW
  obtain ⟨p, q, hA0, hV, rfl, hfz, hnd⟩ := hW
  have hA1 : DataW.TrodAll enc Tryd.prog W 0 (fun _ => true) true Tryd.f4.params.toList args.toList ds p := hA0
  obtain ⟨rfl, rfl⟩ := trodVars_none hV
  have hA := hA1
  rw [Tryd.params4] at hA hval
  obtain ⟨v0, vs0, d0, ds0, p0, q0, hargs0, hds0, hps0, h0, r0⟩ := trodAll_cons hA
  obtain ⟨v1, vs1, d1, ds1, p1, q1, hargs1, hds1, hps1, h1, r1⟩ := trodAll_cons r0
  obtain ⟨hv, hd, _⟩ := trodAll_nil r1
  obtain rfl : ds = [d0, d1] := by simp_all
  obtain rfl : args = #[v0, v1] := by cases args; simp_all
  have hL : laidMet Tryd.prog Rows.fnPutRow.laid W := hL0
  have wr := wrel_dE (m := fun _ => ⟨0, 0, 0, 0⟩) hL (.tail _ (.tail _ (.head _))) (.tail _ (.tail _ (.tail _ (.tail _ (.head _))))) (.tail _ (.tail _ (.tail _ (.head _))))
  have no : NoOwn [] := fun id b h => by simp at h
  obtain ⟨l0, vl0, m0, e0, wr0, no0, ag0, sl0, vr0, wf0, ll0⟩ := open_nums Tryd.underlying22 Tryd.underlying5 (by kernel_rfl) (hval 0 22 v0 rfl rfl) h0 wr no
  obtain ⟨l1, vl1, m1, e1, wr1, no1, ag1, sl1, vr1, wf1, ll1⟩ := open_nums Tryd.underlying22 Tryd.underlying5 (by kernel_rfl) (hval 1 22 v1 rfl rfl) h1 wr0 no0
  replace vr0 := vr0.mono (n' := (([] ++ e0) ++ e1).length) (by simp) ag1
  refine (law_of (args := [vl0, vl1]) (args' := [v0, v1]) (lawFnPut_ok _ _ _ _ _ (sl0.old e1) sl1 (fun b q => vr0.bid_lt q) (fun b q => vr1.bid_lt q) (len_max ll0) (len_max ll1) (fun x hx => wf_u8 (wf0 x hx)) (fun x hx => wf_u8 (wf1 x hx))) ⟨vr0, vr1, trivial⟩ wr1 no1).mono fun e W' ⟨he, bel⟩ => ?_
  subst he
  exact ⟨_, rfl, _, _, _, [], _, [], hW', trodAll_mk1 (shut_bool Tryd.underlying4 _), trodAll_below laid bel (by kernel_rfl) hA1, rfl, bel.frame _, fun h => by cases h⟩
theorem over : Rows.fnPutRow.holds Tryd.pinned (OpenSpec.ofChange Rows.fnPutSpec) :=
  OpenClaim.holds_of_cond 4 Tryd.f4 rfl rfl rfl rfl rfl rfl rfl ⟨rfl, rfl, rfl, rfl, rfl⟩ rfl rfl rfl rfl rfl (by kernel_rfl) Tryd.func4 (by kernel_rfl)
    (of_decide_eq_true (by kernel_rfl)) (by unfold Func.isWrapper; first | (rw [if_pos (by decide +kernel)]; kernel_rfl) | (rw [if_neg (by decide +kernel)]; exact ⟨rfl, rfl⟩))
    (fun os started H enc _ F0 => by rw [OpenClaim.pre_eq_preRow]; exact lifted os started H enc F0)
theorem proved : Rows.FnPutSaid := over
/-- The tied card. -/
theorem card : Rows.FnPutCardSaid :=
  Claim7.holds_tied_plain_at .later [] [.data, .data, .data, .sentinel, .sentinel] true (true, "9e7ae27dadec7dc1ccbe8d6ea21c2068ca4f2937ab4f52928f3a7460465ccf4f") true
    over (fun _ h => by cases h) (by kernel_rfl) (fun _ h => by cases h) fnPut_row_tie rfl ⟨rfl, rfl⟩ (by kernel_rfl) rfl
    (fun f fn hf hfn => by
      obtain rfl : f = 4 := Option.some.inj ((show Tryd.prog.funcNamed "loop.example/g00662/laws.FnPut" = some 4 by kernel_rfl).symm.trans hf) |>.symm
      obtain rfl : fn = Tryd.f4 := (Option.some.inj (Tryd.func4.symm.trans hfn)).symm
      exact ⟨by kernel_rfl, fun j t ht => by
        rw [Tryd.params4] at ht
        rcases j with _ | _ | j
        · obtain rfl : t = 22 := by simpa using ht.symm
          exact (show Tryd.prog.wantsStandIn 22 = false by kernel_rfl)
        · obtain rfl : t = 22 := by simpa using ht.symm
          exact (show Tryd.prog.wantsStandIn 22 = false by kernel_rfl)
        · simp at ht⟩)
    (by kernel_rfl)
end Go.Proofs.YtmjhfklmlcnofaaDoor.fnPut
namespace Go.Proofs.YtmjhfklmlcnofaaDoor
/-- The card, under a short name, for the claim. -/
theorem fnPut_holds : Rows.FnPutCardSaid := fnPut.card
end Go.Proofs.YtmjhfklmlcnofaaDoor
