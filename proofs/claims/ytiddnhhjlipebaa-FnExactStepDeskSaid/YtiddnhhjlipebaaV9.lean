/- The law StepDesk. Conditions: none. -/
import Derived.Test.YtiddnhhjlipebaaK3
import Derived.Test.YtiddnhhjlipebaaV8
namespace Go.Proofs.Ytiddnhhjlipebaa.Am
open Go Go.Proofs
set_option linter.unusedVariables false
set_option linter.unusedSimpArgs false
set_option maxRecDepth 100000
set_option maxHeartbeats 16000000

theorem toDeskAct_ok (x : DAct) (h : Heap) : ACalls Try.prog 0 64 #[.agg x.cells.toArray] h fun v h' => v = .agg x.cells.toArray ∧ h' = h := by
  refine acalls_pure (.inl x.af) ?_
  have hx : x.cells = _ := rfl
  rw [hx]
  simp only [DAct.cells]
  refine Z36 Try.func64 rfl Try.ntmps64 (by simp) (by dsimp only [Try.f64]) ?_
  repeat' (first
    | ((with_reducible refine eq_go ?_); simp only [stp, ev, Zb, Z2e, Z1z, Zk, Zl, reduceIte, Nat.reduceEqDiff, Zj, Zz, Zu, Z16, Z1a, Zm, Zp, Zo, Zd, Zx, Z2b, Z2x, Z1g, Z17, Zq, Zn, Zv, Z2p, Z2f, Z2o, Z2d, Z2g, Z1c, Z1b, Z2i, Z2n, Z2h, Z2j, Z2k, Z2l, Z2m, Z31, Z8, Z5, Z13, Zy, ldv, stv, vcs, fldA, Zh, Zr, Z33, Z15, Z7, Zc, Z6, Z3, Z2, Zf, Zi, Nat.reduceAdd, Nat.reduceMul, Nat.reduceLeDiff, Z11, Z12, Z1y, Z1h, Z2c, Z23, Z28, Z27, Z26, Z25, Z24, Z1m, Z1l, Z1k, Z1j, Z1i, Z1w, Z1v, Z1u, Z1t, Z1s, Z32, Z2y, Z2q, Z2r, Z2s, Z20, Z1q, Z1r, Z2z, Z2t, Z21, Z22, splice, Za, Z9, Z1, Z0, Z19, Zt, Zs, Z18, newB, vcs, Z30, Z2v, Z1x, Z29, Z1n, Z2u, Z1o, Z1f, Z1p, Z1d, Z1e, Ty.ld3, Ty.sz3, Ty.zc3, Ty.ld80, Ty.sz80, Ty.zc80, Ty.fl80_0, Ty.fl80_1, Ty.fl80_2, Ty.fl80_3, Ty.fl80_4, Ty.fl80_5, Ty.fl80_6, Ty.fl80_7, Ty.ld85, Ty.sz85, Ty.zc85, Ty.fl85_0, Ty.fl85_1, Ty.fl85_2, Ty.fl85_3, Ty.fl85_4, Ty.fl85_5, Ty.fl85_6, Ty.fl85_7, *]; rfl)
    | (with_reducible refine aw_then ?_) | (with_reducible refine aw_skip ?_) | (with_reducible refine aw_ret ?_) | (with_reducible refine aw_exit ?_) | (with_reducible refine aw_block ?_) | (with_reducible refine xr_reg (by decide +kernel) ?_)
    | (with_reducible refine xr_nil ?_) | (with_reducible refine k_norm ?_) | (with_reducible refine k_ret ?_) | (with_reducible refine k_exit ?_) | (with_reducible refine b_norm ?_) | (with_reducible refine b_ret ?_) | (with_reducible refine b_exit ?_) | (with_reducible refine b_past (by decide) ?_)
    | (refine xr_do (v := ?_) (h' := ?_) (by exact rfl) ?_ ?_; rotate_left 2)
    | (refine xr_st (v := ?_) (h' := ?_) (by exact rfl) ?_ ?_; rotate_left 2)
    | (refine aw_ift (by decide) ?_ ?_
       · simp only [ev, Zb, reduceIte, Nat.reduceEqDiff, *])
    | (refine aw_iff (by decide) ?_ ?_
       · simp only [ev, Zb, reduceIte, Nat.reduceEqDiff, *])
    | (refine aw_if (b := ?_) (by decide) ?_ (fun hb => ?_) (fun hb => ?_)
       rotate_left 1
       · simp only [ev, Zb, reduceIte, Nat.reduceEqDiff, *]; rfl)
    | (refine r_ret (vs := ?_) ?_ ?_
       rotate_left 1
       · simp only [resV, oneOf, stp, ev, Zb, Z2e, Z1z, Zk, Zl, reduceIte, Nat.reduceEqDiff, Zj, Zz, Zu, Z16, Z1a, Zm, Zp, Zo, Zd, Zx, Z2b, Z2x, Z1g, Z17, Zq, Zn, Zv, Z2p, Z2f, Z2o, Z2d, Z2g, Z1c, Z1b, Z2i, Z2n, Z2h, Z2j, Z2k, Z2l, Z2m, Z31, Z8, Z5, Z13, Zy, ldv, stv, vcs, fldA, Zh, Zr, Z33, Z15, Z7, Zc, Z6, Z3, Z2, Zf, Zi, Nat.reduceAdd, Nat.reduceMul, Nat.reduceLeDiff, Z11, Z12, Z1y, Z1h, Z2c, Z23, Z28, Z27, Z26, Z25, Z24, Z1m, Z1l, Z1k, Z1j, Z1i, Z1w, Z1v, Z1u, Z1t, Z1s, Z32, Z2y, Z2q, Z2r, Z2s, Z20, Z1q, Z1r, Z2z, Z2t, Z21, Z22, splice, Za, Z9, Z1, Z0, Z19, Zt, Zs, Z18, newB, vcs, Z30, Z2v, Z1x, Z29, Z1n, Z2u, Z1o, Z1f, Z1p, Z1d, Z1e, Ty.ld3, Ty.sz3, Ty.zc3, Ty.ld80, Ty.sz80, Ty.zc80, Ty.fl80_0, Ty.fl80_1, Ty.fl80_2, Ty.fl80_3, Ty.fl80_4, Ty.fl80_5, Ty.fl80_6, Ty.fl80_7, Ty.ld85, Ty.sz85, Ty.zc85, Ty.fl85_0, Ty.fl85_1, Ty.fl85_2, Ty.fl85_3, Ty.fl85_4, Ty.fl85_5, Ty.fl85_6, Ty.fl85_7, *]; rfl)
    )
  exact ⟨rfl, _, rfl⟩

theorem stepItems_len {now : Int} {people : List Int} {items : List Item} {a : DAct} (h : deskOk now people items = true) : (stepItems now people items a).length ≤ 41 := by
  have := deskOk_items h
  unfold stepItems
  split
  · omega
  split
  · split
    · omega
    · simp; omega
  split
  · split
    · omega
    · simp; omega
  split
  · simp; omega
  · omega

theorem lawStepDesk_ok (now : Int) (people : List Int) (items : List Item) (a : DAct) (vp vi : Value) (h : Heap) (hp : Sl h vp 1 (ints people)) (hi : Sl h vi 6 (items.map Item.cells))
    (hl : people.length ≤ 9223372036854775807) (hl2 : items.length ≤ 9223372036854775807) :
    ACalls Try.prog 0 11 #[.agg #[.int .i64 now, vp, vi], .agg a.cells.toArray] h fun v _ => v = .bool true := by
  have hf := hp.flat
  have hf2 := hi.flat
  by_cases hsz : szDeskM people.length items.length 1048576 < 0
  · refine Z36 Try.func11 rfl Try.ntmps11 (by simp) (by dsimp only [Try.f11]) ?_
    repeat' (first
      | ((with_reducible refine eq_go ?_); simp only [stp, ev, Zb, Z2e, Z1z, Zk, Zl, reduceIte, Nat.reduceEqDiff, Zj, Zz, Zu, Z16, Z1a, Zm, Zp, Zo, Zd, Zx, Z2b, Z2x, Z1g, Z17, Zq, Zn, Zv, Z2p, Z2f, Z2o, Z2d, Z2g, Z1c, Z1b, Z2i, Z2n, Z2h, Z2j, Z2k, Z2l, Z2m, Z31, Z8, Z5, Z13, Zy, binV_bool_neq, binV_bool_eql, Ty.un4, Ze, Z1, Z0, ldv, stv, vcs, blt, lenV, Z10, Z3, Z2, Zf, Zg, Ze, Z1, Z0, Z14, Zw, Zh, Zr, Z33, Z15, Z7, Zc, Z6, Z3, Z2, Zf, Zi, Nat.reduceAdd, Nat.reduceMul, Nat.reduceLeDiff, Z11, Z12, Z1y, Z1h, Z2c, Z23, Z28, Z27, Z26, Z25, Z24, Z1m, Z1l, Z1k, Z1j, Z1i, Z1w, Z1v, Z1u, Z1t, Z1s, Z32, Z2y, Z2q, Z2r, Z2s, Z20, Z1q, Z1r, Z2z, Z2t, Z21, Z22, splice, Za, Z9, Z1, Z0, Z19, Zt, Zs, Z18, newB, vcs, Z30, Z2v, Z1x, Z29, Z1n, Z2u, Z1o, Z1f, Z1p, Z1d, Z1e, Ty.ld3, Ty.sz3, Ty.zc3, Ty.by3, Ty.ld4, Ty.sz4, Ty.zc4, Ty.by4, Ty.ld24, Ty.sz24, Ty.sl24, Ty.zc24, Ty.by24, Ty.ld51, Ty.sz51, Ty.sl51, Ty.zc51, Ty.by51, Ty.ld53, Ty.sz53, Ty.zc53, Ty.by53, Ty.ld56, Ty.sz56, Ty.sl56, Ty.zc56, Ty.by56, Ty.ld58, Ty.sz58, Ty.zc58, Ty.by58, Ty.ld77, Ty.sz77, Ty.zc77, Ty.by77, Ty.ld80, Ty.sz80, Ty.zc80, Ty.by80, Ty.ld85, Ty.sz85, Ty.zc85, Ty.by85, Ty.ld132, Ty.sz132, Ty.zc132, Ty.by132, DAct.cells_length, DAct.cells_flat, DAct.cells_take, *]; rfl)
      | (with_reducible refine aw_then ?_) | (with_reducible refine aw_skip ?_) | (with_reducible refine aw_ret ?_) | (with_reducible refine aw_exit ?_) | (with_reducible refine aw_block ?_) | (with_reducible refine xr_reg (by decide +kernel) ?_)
      | (with_reducible refine xr_nil ?_) | (with_reducible refine k_norm ?_) | (with_reducible refine k_ret ?_) | (with_reducible refine k_exit ?_) | (with_reducible refine b_norm ?_) | (with_reducible refine b_ret ?_) | (with_reducible refine b_exit ?_) | (with_reducible refine b_past (by decide) ?_)
      | (with_reducible refine xd_nil ?_)
      | (refine xr_cl (f := ?_) (fs := ?_) (cs := ?_) (args := ?_) (K := ?_) ?_ ?_ ?_ ?_ ?_
         rotate_left 5
         · simp only [ev]; rfl
         first
         | (· with_reducible exact Ty.ok39
            rotate_left 2
            refine Z2a 39 ?_
            rotate_right 2)
         | (· with_reducible exact Ty.ok41
            rotate_left 2
            refine Z2a 41 ?_
            rotate_right 2)
         | (· with_reducible exact Ty.ok43
            rotate_left 2
            refine Z2a 43 ?_
            rotate_right 2)
         | (· with_reducible exact Ty.ok48
            rotate_left 2
            refine Z2a 48 ?_
            rotate_right 2)
         | (· with_reducible exact Ty.ok49
            rotate_left 2
            refine Z2a 49 ?_
            rotate_right 2)
         | (· with_reducible exact Ty.ok62
            rotate_left 2
            refine Z2a 62 ?_
            rotate_right 2)
         | (· with_reducible exact Ty.ok63
            rotate_left 2
            refine Z2a 63 ?_
            rotate_right 2)
         | (· with_reducible exact Ty.ok64
            rotate_left 2
            refine Z2a 64 ?_
            rotate_right 2)
         )
      | (refine xr_gcl (f := ?_) (fs := ?_) (cs := ?_) (args := ?_) (K := ?_) (by exact rfl) ?_ ?_ ?_ ?_ ?_ ?_
         rotate_left 5
         · simp only [ev, Zb, reduceIte, Nat.reduceEqDiff, Z8, Z5, *]
         · simp only [ev]; rfl
         first
         | (· with_reducible exact Ty.ok39
            rotate_left 2
            refine Z2a 39 ?_
            rotate_right 2)
         | (· with_reducible exact Ty.ok41
            rotate_left 2
            refine Z2a 41 ?_
            rotate_right 2)
         | (· with_reducible exact Ty.ok43
            rotate_left 2
            refine Z2a 43 ?_
            rotate_right 2)
         | (· with_reducible exact Ty.ok48
            rotate_left 2
            refine Z2a 48 ?_
            rotate_right 2)
         | (· with_reducible exact Ty.ok49
            rotate_left 2
            refine Z2a 49 ?_
            rotate_right 2)
         | (· with_reducible exact Ty.ok62
            rotate_left 2
            refine Z2a 62 ?_
            rotate_right 2)
         | (· with_reducible exact Ty.ok63
            rotate_left 2
            refine Z2a 63 ?_
            rotate_right 2)
         | (· with_reducible exact Ty.ok64
            rotate_left 2
            refine Z2a 64 ?_
            rotate_right 2)
         )
      | (refine xd_clnew (f := ?_) (fs := ?_) (cs := ?_) (args := ?_) (v := ?_) (L := ?_) ?_ ?_ ?_ ?_ ?_ ?_
         rotate_left 6
         · simp only [ev]; rfl
         · first | with_reducible exact Ty.ok41 | with_reducible exact Ty.ok62 | with_reducible exact Ty.ok63
         rotate_left 1
         · decide +kernel
         rotate_right 1)
      | (refine xd_cl (f := ?_) (fs := ?_) (cs := ?_) (args := ?_) (v := ?_) ?_ ?_ ?_ ?_ ?_ ?_
         rotate_left 5
         · simp only [ev]; rfl
         · first | with_reducible exact Ty.ok39 | with_reducible exact Ty.ok43 | with_reducible exact Ty.ok48 | with_reducible exact Ty.ok49 | with_reducible exact Ty.ok64
         rotate_left 1
         · decide +kernel
         rotate_right 1)
      | (refine xd_gcl (f := ?_) (fs := ?_) (cs := ?_) (args := ?_) (v := ?_) (by exact rfl) ?_ ?_ ?_ ?_ ?_ ?_ ?_
         rotate_left 5
         · simp only [ev, Zb, reduceIte, Nat.reduceEqDiff, Z8, Z5, *]
         · simp only [ev]; rfl
         · first | with_reducible exact Ty.ok39 | with_reducible exact Ty.ok43 | with_reducible exact Ty.ok48 | with_reducible exact Ty.ok49 | with_reducible exact Ty.ok64
         rotate_left 1
         · decide +kernel
         rotate_right 1)
      | (refine xr_do (v := ?_) (h' := ?_) (by exact rfl) ?_ ?_; rotate_left 2)
      | (refine xr_st (v := ?_) (h' := ?_) (by exact rfl) ?_ ?_; rotate_left 2)
      | (refine xd_reg (ms := [0, 1, 0, 7, 15, 31, 63, 63, 63, 0, 639, 1791, 4095]) Ty.mx (by decide +kernel) (by decide +kernel) ?_)
      | (refine xd_reg (ms := [0, 0, 2, 7, 15, 31, 31, 31, 0, 319, 895, 2047]) Ty.mx (by decide +kernel) (by decide +kernel) ?_)
      | (refine xd_reg (ms := [0, 0, 2, 7, 15]) Ty.mx (by decide +kernel) (by decide +kernel) ?_)
      | (refine xd_do (v := ?_) (by exact rfl) (by decide +kernel) ?_ ?_; rotate_left 1)
      | (refine xd_gdo (v := ?_) (by exact rfl) (by decide +kernel) (by exact rfl) ?_ ?_ ?_
         rotate_left 1
         · simp only [ev, Zb, reduceIte, Nat.reduceEqDiff, Z8, Z5, *])
      | (refine xd_goff (by exact rfl) ?_ ?_
         · simp only [ev, Zb, reduceIte, Nat.reduceEqDiff, Z8, Z5, *])
      | (refine xd_gund (by exact rfl) ?_ ?_
         · simp only [ev, Zb, reduceIte, Nat.reduceEqDiff, Z8, Z5, *])
      | (refine xd_gif (b := ?_) (by exact rfl) ?_ (fun hb => ?_) (fun hb => ?_)
         rotate_left 1
         · simp only [ev, Zb, reduceIte, Nat.reduceEqDiff, Z8, Z5, *]; rfl)
      | (refine xr_gdo (v := ?_) (h' := ?_) (by exact rfl) (by exact rfl) ?_ ?_ ?_
         rotate_left 2
         · simp only [ev, Zb, reduceIte, Nat.reduceEqDiff, Z8, Z5, *])
      | (refine xr_gst (v := ?_) (h' := ?_) (by exact rfl) (by exact rfl) ?_ ?_ ?_
         rotate_left 2
         · simp only [ev, Zb, reduceIte, Nat.reduceEqDiff, Z8, Z5, *])
      | (refine xr_goff (by exact rfl) ?_ ?_
         · simp only [ev, Zb, reduceIte, Nat.reduceEqDiff, Z8, Z5, *])
      | (refine xr_gsoff (by exact rfl) ?_ ?_
         · simp only [ev, Zb, reduceIte, Nat.reduceEqDiff, Z8, Z5, *])
      | (refine xr_gund (by exact rfl) ?_ ?_
         · simp only [ev, Zb, reduceIte, Nat.reduceEqDiff, Z8, Z5, *])
      | (refine xr_gsund (by exact rfl) ?_ ?_
         · simp only [ev, Zb, reduceIte, Nat.reduceEqDiff, Z8, Z5, *])
      | (refine xr_gif (b := ?_) (by exact rfl) ?_ (fun hb => ?_) (fun hb => ?_)
         rotate_left 1
         · simp only [ev, Zb, reduceIte, Nat.reduceEqDiff, Z8, Z5, *]; rfl)
      | (refine aw_ift (by decide) ?_ ?_
         · simp only [ev, Zb, reduceIte, Nat.reduceEqDiff, *])
      | (refine aw_iff (by decide) ?_ ?_
         · simp only [ev, Zb, reduceIte, Nat.reduceEqDiff, *])
      | (refine aw_if (b := ?_) (by decide) ?_ (fun hb => ?_) (fun hb => ?_)
         rotate_left 1
         · simp only [ev, Zb, reduceIte, Nat.reduceEqDiff, *]; rfl)
      | (refine r_ret (vs := ?_) ?_ ?_
         rotate_left 1
         · simp only [resV, ev, Zb, reduceIte, Nat.reduceEqDiff, Zj, *]; rfl)
      | (with_reducible refine szDesk_ok _ ?_ ?_ _ _ _ _ ?_ ?_ ?_ ?_ ?_
         rotate_left 2
         · first | assumption | exact Sl.old (by assumption) _ | ((try (simp only [deskV, deskL, Z11, Z12, Z1y, Z1h, Za, Z9, Z7, Zc, Zd, Z6, Z3, Z2, Zf, Zi, Nat.reduceAdd, Zh])); first | exact Sl.old (by assumption) _ | exact sl_nilints | exact sl_nilitems | (refine sl_ints (Z4 _) ?_; exact rfl) | (refine sl_items (Z4 _) ?_; exact rfl) | (refine sl_ints0 (Z4 _) ?_; exact rfl) | (refine sl_items0 (Z4 _) ?_; exact rfl))
         · first | assumption | exact Sl.old (by assumption) _ | ((try (simp only [deskV, deskL, Z11, Z12, Z1y, Z1h, Za, Z9, Z7, Zc, Zd, Z6, Z3, Z2, Zf, Zi, Nat.reduceAdd, Zh])); first | exact Sl.old (by assumption) _ | exact sl_nilints | exact sl_nilitems | (refine sl_ints (Z4 _) ?_; exact rfl) | (refine sl_items (Z4 _) ?_; exact rfl) | (refine sl_ints0 (Z4 _) ?_; exact rfl) | (refine sl_items0 (Z4 _) ?_; exact rfl))
         · first | assumption | omega
         · first | assumption | omega
         · first | assumption | omega
         )
      | (with_reducible refine toDesk_ok _ ?_ ?_ _ _ _ ?_ ?_ ?_ ?_
         rotate_left 2
         · first | assumption | exact Sl.old (by assumption) _ | ((try (simp only [deskV, deskL, Z11, Z12, Z1y, Z1h, Za, Z9, Z7, Zc, Zd, Z6, Z3, Z2, Zf, Zi, Nat.reduceAdd, Zh])); first | exact Sl.old (by assumption) _ | exact sl_nilints | exact sl_nilitems | (refine sl_ints (Z4 _) ?_; exact rfl) | (refine sl_items (Z4 _) ?_; exact rfl) | (refine sl_ints0 (Z4 _) ?_; exact rfl) | (refine sl_items0 (Z4 _) ?_; exact rfl))
         · first | assumption | exact Sl.old (by assumption) _ | ((try (simp only [deskV, deskL, Z11, Z12, Z1y, Z1h, Za, Z9, Z7, Zc, Zd, Z6, Z3, Z2, Zf, Zi, Nat.reduceAdd, Zh])); first | exact Sl.old (by assumption) _ | exact sl_nilints | exact sl_nilitems | (refine sl_ints (Z4 _) ?_; exact rfl) | (refine sl_items (Z4 _) ?_; exact rfl) | (refine sl_ints0 (Z4 _) ?_; exact rfl) | (refine sl_items0 (Z4 _) ?_; exact rfl))
         · first | omega | (simp only [Z2]; omega)
         · first | omega | (simp only [Z2]; omega)
         )
      | (with_reducible refine eqDesk_ok _ _ ?_ ?_ ?_ ?_ _ _ _ _ _ ?_ ?_ ?_ ?_ ?_ ?_ ?_ ?_
         rotate_left 4
         · first | assumption | exact Sl.old (by assumption) _ | ((try (simp only [deskV, deskL, Z11, Z12, Z1y, Z1h, Za, Z9, Z7, Zc, Zd, Z6, Z3, Z2, Zf, Zi, Nat.reduceAdd, Zh])); first | exact Sl.old (by assumption) _ | exact sl_nilints | exact sl_nilitems | (refine sl_ints (Z4 _) ?_; exact rfl) | (refine sl_items (Z4 _) ?_; exact rfl) | (refine sl_ints0 (Z4 _) ?_; exact rfl) | (refine sl_items0 (Z4 _) ?_; exact rfl))
         · first | assumption | exact Sl.old (by assumption) _ | ((try (simp only [deskV, deskL, Z11, Z12, Z1y, Z1h, Za, Z9, Z7, Zc, Zd, Z6, Z3, Z2, Zf, Zi, Nat.reduceAdd, Zh])); first | exact Sl.old (by assumption) _ | exact sl_nilints | exact sl_nilitems | (refine sl_ints (Z4 _) ?_; exact rfl) | (refine sl_items (Z4 _) ?_; exact rfl) | (refine sl_ints0 (Z4 _) ?_; exact rfl) | (refine sl_items0 (Z4 _) ?_; exact rfl))
         · first | assumption | exact Sl.old (by assumption) _ | ((try (simp only [deskV, deskL, Z11, Z12, Z1y, Z1h, Za, Z9, Z7, Zc, Zd, Z6, Z3, Z2, Zf, Zi, Nat.reduceAdd, Zh])); first | exact Sl.old (by assumption) _ | exact sl_nilints | exact sl_nilitems | (refine sl_ints (Z4 _) ?_; exact rfl) | (refine sl_items (Z4 _) ?_; exact rfl) | (refine sl_ints0 (Z4 _) ?_; exact rfl) | (refine sl_items0 (Z4 _) ?_; exact rfl))
         · first | assumption | exact Sl.old (by assumption) _ | ((try (simp only [deskV, deskL, Z11, Z12, Z1y, Z1h, Za, Z9, Z7, Zc, Zd, Z6, Z3, Z2, Zf, Zi, Nat.reduceAdd, Zh])); first | exact Sl.old (by assumption) _ | exact sl_nilints | exact sl_nilitems | (refine sl_ints (Z4 _) ?_; exact rfl) | (refine sl_items (Z4 _) ?_; exact rfl) | (refine sl_ints0 (Z4 _) ?_; exact rfl) | (refine sl_items0 (Z4 _) ?_; exact rfl))
         · first | omega | (simp only [Z2]; omega)
         · first | omega | (simp only [Z2]; omega)
         · first | omega | (simp only [Z2]; omega)
         · first | omega | (simp only [Z2]; omega)
         )
      | (with_reducible refine markDesk_ok ?_ ?_ ?_ ?_ _ _ _ _ _ ?_ ?_ ?_ ?_ ?_ ?_
         rotate_left 4
         · first | assumption | exact Own.old (by assumption) _ | ((try (simp only [deskV, deskL, Z11, Z12, Z1y, Z1h, Za, Z9, Z7, Zc, Zd, Z6, Z3, Z2, Zf, Zi, Nat.reduceAdd, Zh])); first | exact Own.old (by assumption) _ | exact Own.nil _ | (refine Own.at ?_ ?_ (Z4 _); (exact rfl); first | exact ints_flen _ | exact items_flen _ | (simp only [Z34]; done) | (simp only [Z34]; omega)) | (refine Own.at0 ?_ ?_ (Z4 _); (exact rfl); first | exact ints_flen _ | exact items_flen _ | (simp only [Z34]; done) | (simp only [Z34]; omega)))
         · first | assumption | exact Own.old (by assumption) _ | ((try (simp only [deskV, deskL, Z11, Z12, Z1y, Z1h, Za, Z9, Z7, Zc, Zd, Z6, Z3, Z2, Zf, Zi, Nat.reduceAdd, Zh])); first | exact Own.old (by assumption) _ | exact Own.nil _ | (refine Own.at ?_ ?_ (Z4 _); (exact rfl); first | exact ints_flen _ | exact items_flen _ | (simp only [Z34]; done) | (simp only [Z34]; omega)) | (refine Own.at0 ?_ ?_ (Z4 _); (exact rfl); first | exact ints_flen _ | exact items_flen _ | (simp only [Z34]; done) | (simp only [Z34]; omega)))
         · first | exact .inl rfl | (right; simp [bid])
         · first | omega | (simp only [Z2]; omega)
         · first | omega | (simp only [Z2]; omega)
         · first | omega | (simp only [Z2]; omega)
         )
      | (with_reducible refine heldDesk_ok ?_ ?_ _ _ _ _ _ ?_ ?_ ?_ ?_ ?_
         rotate_left 2
         · first | assumption | exact Own.old (by assumption) _ | ((try (simp only [deskV, deskL, Z11, Z12, Z1y, Z1h, Za, Z9, Z7, Zc, Zd, Z6, Z3, Z2, Zf, Zi, Nat.reduceAdd, Zh])); first | exact Own.old (by assumption) _ | exact Own.nil _ | (refine Own.at ?_ ?_ (Z4 _); (exact rfl); first | exact ints_flen _ | exact items_flen _ | (simp only [Z34]; done) | (simp only [Z34]; omega)) | (refine Own.at0 ?_ ?_ (Z4 _); (exact rfl); first | exact ints_flen _ | exact items_flen _ | (simp only [Z34]; done) | (simp only [Z34]; omega)))
         · first | assumption | exact Own.old (by assumption) _ | ((try (simp only [deskV, deskL, Z11, Z12, Z1y, Z1h, Za, Z9, Z7, Zc, Zd, Z6, Z3, Z2, Zf, Zi, Nat.reduceAdd, Zh])); first | exact Own.old (by assumption) _ | exact Own.nil _ | (refine Own.at ?_ ?_ (Z4 _); (exact rfl); first | exact ints_flen _ | exact items_flen _ | (simp only [Z34]; done) | (simp only [Z34]; omega)) | (refine Own.at0 ?_ ?_ (Z4 _); (exact rfl); first | exact ints_flen _ | exact items_flen _ | (simp only [Z34]; done) | (simp only [Z34]; omega)))
         · first | omega | (simp only [Z2]; omega)
         · first | omega | (simp only [Z2]; omega)
         · first | omega | (simp only [Z2]; omega)
         )
      | (with_reducible refine implStepDesk_ok _ people items _ _ _ _ _ _ ?_ ?_ ?_ ?_ ?_
         · first | assumption | exact Sl.old (by assumption) _ | ((try (simp only [deskV, deskL, Z11, Z12, Z1y, Z1h, Za, Z9, Z7, Zc, Zd, Z6, Z3, Z2, Zf, Zi, Nat.reduceAdd, Zh])); first | exact Sl.old (by assumption) _ | exact sl_nilints | exact sl_nilitems | (refine sl_ints (Z4 _) ?_; exact rfl) | (refine sl_items (Z4 _) ?_; exact rfl) | (refine sl_ints0 (Z4 _) ?_; exact rfl) | (refine sl_items0 (Z4 _) ?_; exact rfl))
         · first | assumption | exact Sl.old (by assumption) _ | ((try (simp only [deskV, deskL, Z11, Z12, Z1y, Z1h, Za, Z9, Z7, Zc, Zd, Z6, Z3, Z2, Zf, Zi, Nat.reduceAdd, Zh])); first | exact Sl.old (by assumption) _ | exact sl_nilints | exact sl_nilitems | (refine sl_ints (Z4 _) ?_; exact rfl) | (refine sl_items (Z4 _) ?_; exact rfl) | (refine sl_ints0 (Z4 _) ?_; exact rfl) | (refine sl_items0 (Z4 _) ?_; exact rfl))
         · first | omega | (simp only [Z2]; omega)
         · first | omega | (simp only [Z2]; omega)
         · (simp only [deskL, mset_length, Z6, Z3, Z2, List.length_set]; omega)
         )
      | (with_reducible refine specStepDesk_ok _ people items _ _ _ _ _ ?_ ?_ ?_ ?_ ?_
         · first | assumption | exact Sl.old (by assumption) _ | ((try (simp only [deskV, deskL, Z11, Z12, Z1y, Z1h, Za, Z9, Z7, Zc, Zd, Z6, Z3, Z2, Zf, Zi, Nat.reduceAdd, Zh])); first | exact Sl.old (by assumption) _ | exact sl_nilints | exact sl_nilitems | (refine sl_ints (Z4 _) ?_; exact rfl) | (refine sl_items (Z4 _) ?_; exact rfl) | (refine sl_ints0 (Z4 _) ?_; exact rfl) | (refine sl_items0 (Z4 _) ?_; exact rfl))
         · first | assumption | exact Sl.old (by assumption) _ | ((try (simp only [deskV, deskL, Z11, Z12, Z1y, Z1h, Za, Z9, Z7, Zc, Zd, Z6, Z3, Z2, Zf, Zi, Nat.reduceAdd, Zh])); first | exact Sl.old (by assumption) _ | exact sl_nilints | exact sl_nilitems | (refine sl_ints (Z4 _) ?_; exact rfl) | (refine sl_items (Z4 _) ?_; exact rfl) | (refine sl_ints0 (Z4 _) ?_; exact rfl) | (refine sl_items0 (Z4 _) ?_; exact rfl))
         · first | omega | (simp only [Z2]; omega)
         · first | omega | (simp only [Z2]; omega)
         · (intro i q; simp only [bid, Option.some.injEq] at q; simp only [deskL, mset_length, Z6, Z3, Z2, List.length_set]; omega)
         )
      | (with_reducible exact toDeskAct_ok _ _)
      | ((with_reducible refine Z2w (n := 39) ?_); rintro _ _ ⟨rfl, hh⟩; replace hh := hh.symm; subst hh)
      | ((with_reducible refine Z2w (n := 41) ?_); rintro _ _ ⟨rfl, hh⟩; replace hh := hh.symm; subst hh)
      | ((with_reducible refine Z2w (n := 43) ?_); rintro _ _ ⟨rfl, hh⟩; replace hh := hh.symm; subst hh)
      | ((with_reducible refine Z2w (n := 48) ?_); rintro _ _ ⟨rfl, hh⟩; replace hh := hh.symm; subst hh)
      | ((with_reducible refine Z2w (n := 49) ?_); rintro _ _ ⟨rfl, hh⟩; replace hh := hh.symm; subst hh)
      | ((with_reducible refine Z2w (n := 62) ?_); rintro _ _ ⟨rfl, hh⟩; replace hh := hh.symm; subst hh)
      | ((with_reducible refine Z2w (n := 63) ?_); rintro _ _ ⟨rfl, hh⟩; replace hh := hh.symm; subst hh)
      | ((with_reducible refine Z2w (n := 64) ?_); rintro _ _ ⟨rfl, hh⟩; replace hh := hh.symm; subst hh)
      )
    rfl
  have hle := szDesk_le (by omega) hsz
  obtain ⟨hl3, hl4⟩ := hle
  rcases Bool.eq_false_or_eq_true (deskOk now people items) with hg | hg
  · have hln := stepItems_len (a := a) hg
    refine Z36 Try.func11 rfl Try.ntmps11 (by simp) (by dsimp only [Try.f11]) ?_
    repeat' (first
      | (with_reducible refine aw_parkR 24 ?_)
      | ((with_reducible refine eq_go ?_); simp only [stp, ev, Zb, Z2e, Z1z, Zk, Zl, reduceIte, Nat.reduceEqDiff, Zj, Zz, Zu, Z16, Z1a, Zm, Zp, Zo, Zd, Zx, Z2b, Z2x, Z1g, Z17, Zq, Zn, Zv, Z2p, Z2f, Z2o, Z2d, Z2g, Z1c, Z1b, Z2i, Z2n, Z2h, Z2j, Z2k, Z2l, Z2m, Z31, Z8, Z5, Z13, Zy, binV_bool_neq, binV_bool_eql, Ty.un4, Ze, Z1, Z0, ldv, stv, vcs, blt, lenV, Z10, Z3, Z2, Zf, Zg, Ze, Z1, Z0, Z14, Zw, Zh, Zr, Z33, Z15, Z7, Zc, Z6, Z3, Z2, Zf, Zi, Nat.reduceAdd, Nat.reduceMul, Nat.reduceLeDiff, Z11, Z12, Z1y, Z1h, Z2c, Z23, Z28, Z27, Z26, Z25, Z24, Z1m, Z1l, Z1k, Z1j, Z1i, Z1w, Z1v, Z1u, Z1t, Z1s, Z32, Z2y, Z2q, Z2r, Z2s, Z20, Z1q, Z1r, Z2z, Z2t, Z21, Z22, splice, Za, Z9, Z1, Z0, Z19, Zt, Zs, Z18, newB, vcs, Z30, Z2v, Z1x, Z29, Z1n, Z2u, Z1o, Z1f, Z1p, Z1d, Z1e, Ty.ld3, Ty.sz3, Ty.zc3, Ty.by3, Ty.ld4, Ty.sz4, Ty.zc4, Ty.by4, Ty.ld24, Ty.sz24, Ty.sl24, Ty.zc24, Ty.by24, Ty.ld51, Ty.sz51, Ty.sl51, Ty.zc51, Ty.by51, Ty.ld53, Ty.sz53, Ty.zc53, Ty.by53, Ty.ld56, Ty.sz56, Ty.sl56, Ty.zc56, Ty.by56, Ty.ld58, Ty.sz58, Ty.zc58, Ty.by58, Ty.ld77, Ty.sz77, Ty.zc77, Ty.by77, Ty.ld80, Ty.sz80, Ty.zc80, Ty.by80, Ty.ld85, Ty.sz85, Ty.zc85, Ty.by85, Ty.ld132, Ty.sz132, Ty.zc132, Ty.by132, DAct.cells_length, DAct.cells_flat, DAct.cells_take, deskV, deskL, stepDV, stepDL, cellsL, Z2x, *]; rfl)
      | (with_reducible refine aw_then ?_) | (with_reducible refine aw_skip ?_) | (with_reducible refine aw_ret ?_) | (with_reducible refine aw_exit ?_) | (with_reducible refine aw_block ?_) | (with_reducible refine xr_reg (by decide +kernel) ?_)
      | (with_reducible refine xr_nil ?_) | (with_reducible refine k_norm ?_) | (with_reducible refine k_ret ?_) | (with_reducible refine k_exit ?_) | (with_reducible refine b_norm ?_) | (with_reducible refine b_ret ?_) | (with_reducible refine b_exit ?_) | (with_reducible refine b_past (by decide) ?_)
      | (with_reducible refine xd_nil ?_)
      | (refine xr_cl (f := ?_) (fs := ?_) (cs := ?_) (args := ?_) (K := ?_) ?_ ?_ ?_ ?_ ?_
         rotate_left 5
         · simp only [ev]; rfl
         first
         | (· with_reducible exact Ty.ok39
            rotate_left 2
            refine Z2a 39 ?_
            rotate_right 2)
         | (· with_reducible exact Ty.ok41
            rotate_left 2
            refine Z2a 41 ?_
            rotate_right 2)
         | (· with_reducible exact Ty.ok43
            rotate_left 2
            refine Z2a 43 ?_
            rotate_right 2)
         | (· with_reducible exact Ty.ok48
            rotate_left 2
            refine Z2a 48 ?_
            rotate_right 2)
         | (· with_reducible exact Ty.ok49
            rotate_left 2
            refine Z2a 49 ?_
            rotate_right 2)
         | (· with_reducible exact Ty.ok62
            rotate_left 2
            refine Z2a 62 ?_
            rotate_right 2)
         | (· with_reducible exact Ty.ok63
            rotate_left 2
            refine Z2a 63 ?_
            rotate_right 2)
         | (· with_reducible exact Ty.ok64
            rotate_left 2
            refine Z2a 64 ?_
            rotate_right 2)
         )
      | (refine xr_gcl (f := ?_) (fs := ?_) (cs := ?_) (args := ?_) (K := ?_) (by exact rfl) ?_ ?_ ?_ ?_ ?_ ?_
         rotate_left 5
         · simp only [ev, Zb, reduceIte, Nat.reduceEqDiff, Z8, Z5, *]
         · simp only [ev]; rfl
         first
         | (· with_reducible exact Ty.ok39
            rotate_left 2
            refine Z2a 39 ?_
            rotate_right 2)
         | (· with_reducible exact Ty.ok41
            rotate_left 2
            refine Z2a 41 ?_
            rotate_right 2)
         | (· with_reducible exact Ty.ok43
            rotate_left 2
            refine Z2a 43 ?_
            rotate_right 2)
         | (· with_reducible exact Ty.ok48
            rotate_left 2
            refine Z2a 48 ?_
            rotate_right 2)
         | (· with_reducible exact Ty.ok49
            rotate_left 2
            refine Z2a 49 ?_
            rotate_right 2)
         | (· with_reducible exact Ty.ok62
            rotate_left 2
            refine Z2a 62 ?_
            rotate_right 2)
         | (· with_reducible exact Ty.ok63
            rotate_left 2
            refine Z2a 63 ?_
            rotate_right 2)
         | (· with_reducible exact Ty.ok64
            rotate_left 2
            refine Z2a 64 ?_
            rotate_right 2)
         )
      | (refine xd_clnew (f := ?_) (fs := ?_) (cs := ?_) (args := ?_) (v := ?_) (L := ?_) ?_ ?_ ?_ ?_ ?_ ?_
         rotate_left 6
         · simp only [ev]; rfl
         · first | with_reducible exact Ty.ok41 | with_reducible exact Ty.ok62 | with_reducible exact Ty.ok63
         rotate_left 1
         · decide +kernel
         rotate_right 1)
      | (refine xd_cl (f := ?_) (fs := ?_) (cs := ?_) (args := ?_) (v := ?_) ?_ ?_ ?_ ?_ ?_ ?_
         rotate_left 5
         · simp only [ev]; rfl
         · first | with_reducible exact Ty.ok39 | with_reducible exact Ty.ok43 | with_reducible exact Ty.ok48 | with_reducible exact Ty.ok49 | with_reducible exact Ty.ok64
         rotate_left 1
         · decide +kernel
         rotate_right 1)
      | (refine xd_gcl (f := ?_) (fs := ?_) (cs := ?_) (args := ?_) (v := ?_) (by exact rfl) ?_ ?_ ?_ ?_ ?_ ?_ ?_
         rotate_left 5
         · simp only [ev, Zb, reduceIte, Nat.reduceEqDiff, Z8, Z5, *]
         · simp only [ev]; rfl
         · first | with_reducible exact Ty.ok39 | with_reducible exact Ty.ok43 | with_reducible exact Ty.ok48 | with_reducible exact Ty.ok49 | with_reducible exact Ty.ok64
         rotate_left 1
         · decide +kernel
         rotate_right 1)
      | (refine xr_do (v := ?_) (h' := ?_) (by exact rfl) ?_ ?_; rotate_left 2)
      | (refine xr_st (v := ?_) (h' := ?_) (by exact rfl) ?_ ?_; rotate_left 2)
      | (refine xe_reg (ms := [0, 1, 0, 7, 15, 31, 63, 63, 63, 0, 639, 1791, 4095]) Ty.mx (by decide +kernel) (by decide +kernel) [[],[],[],[],[],[],[],[],[],[],[h.length + 9],[],[]] ?_)
      | (refine xe_reg (ms := [0, 0, 2, 7, 15, 31, 31, 31, 0, 319, 895, 2047]) Ty.mx (by decide +kernel) (by decide +kernel) [[],[],[],[],[],[],[],[],[],[h.length + 18],[],[]] ?_)
      | (refine xd_reg (ms := [0, 0, 2, 7, 15]) Ty.mx (by decide +kernel) (by decide +kernel) ?_)
      | (with_reducible refine xe_nil ?_)
      | (refine xe_do (v := ?_) (ids := []) (by exact rfl) (by decide +kernel) (by exact rfl) (by exact rfl) ?_ ?_; rotate_left 1)
      | (refine xe_st (v := ?_) (a := ?_) (h' := ?_) (ids := []) (by decide +kernel) (by exact rfl) ?_ ?_ ?_ ?_ ?_
         rotate_left 3
         · simp only [stp, ev, Zb, Z2e, Z1z, Zk, Zl, reduceIte, Nat.reduceEqDiff, Zj, Zz, Zu, Z16, Z1a, Zm, Zp, Zo, Zd, Zx, Z2b, Z2x, Z1g, Z17, Zq, Zn, Zv, Z2p, Z2f, Z2o, Z2d, Z2g, Z1c, Z1b, Z2i, Z2n, Z2h, Z2j, Z2k, Z2l, Z2m, Z31, Z8, Z5, Z13, Zy, binV_bool_neq, binV_bool_eql, Ty.un4, Ze, Z1, Z0, ldv, stv, vcs, blt, lenV, Z10, Z3, Z2, Zf, Zg, Ze, Z1, Z0, Z14, Zw, Zh, Zr, Z33, Z15, Z7, Zc, Z6, Z3, Z2, Zf, Zi, Nat.reduceAdd, Nat.reduceMul, Nat.reduceLeDiff, Z11, Z12, Z1y, Z1h, Z2c, Z23, Z28, Z27, Z26, Z25, Z24, Z1m, Z1l, Z1k, Z1j, Z1i, Z1w, Z1v, Z1u, Z1t, Z1s, Z32, Z2y, Z2q, Z2r, Z2s, Z20, Z1q, Z1r, Z2z, Z2t, Z21, Z22, splice, Za, Z9, Z1, Z0, Z19, Zt, Zs, Z18, newB, vcs, Z30, Z2v, Z1x, Z29, Z1n, Z2u, Z1o, Z1f, Z1p, Z1d, Z1e, Ty.ld3, Ty.sz3, Ty.zc3, Ty.by3, Ty.ld4, Ty.sz4, Ty.zc4, Ty.by4, Ty.ld24, Ty.sz24, Ty.sl24, Ty.zc24, Ty.by24, Ty.ld51, Ty.sz51, Ty.sl51, Ty.zc51, Ty.by51, Ty.ld53, Ty.sz53, Ty.zc53, Ty.by53, Ty.ld56, Ty.sz56, Ty.sl56, Ty.zc56, Ty.by56, Ty.ld58, Ty.sz58, Ty.zc58, Ty.by58, Ty.ld77, Ty.sz77, Ty.zc77, Ty.by77, Ty.ld80, Ty.sz80, Ty.zc80, Ty.by80, Ty.ld85, Ty.sz85, Ty.zc85, Ty.by85, Ty.ld132, Ty.sz132, Ty.zc132, Ty.by132, DAct.cells_length, DAct.cells_flat, DAct.cells_take, deskV, deskL, stepDV, stepDL, cellsL, Z2x, *]; rfl
         · exact rfl
         · simp
         skip)
      | (refine xe_do (v := ?_) (ids := [h.length + 9]) (by exact rfl) (by decide +kernel) (by exact rfl) (by exact rfl) ?_ ?_; rotate_left 1)
      | (refine xe_st (v := ?_) (a := ?_) (h' := ?_) (ids := [h.length + 9]) (by decide +kernel) (by exact rfl) ?_ ?_ ?_ ?_ ?_
         rotate_left 3
         · simp only [stp, ev, Zb, Z2e, Z1z, Zk, Zl, reduceIte, Nat.reduceEqDiff, Zj, Zz, Zu, Z16, Z1a, Zm, Zp, Zo, Zd, Zx, Z2b, Z2x, Z1g, Z17, Zq, Zn, Zv, Z2p, Z2f, Z2o, Z2d, Z2g, Z1c, Z1b, Z2i, Z2n, Z2h, Z2j, Z2k, Z2l, Z2m, Z31, Z8, Z5, Z13, Zy, binV_bool_neq, binV_bool_eql, Ty.un4, Ze, Z1, Z0, ldv, stv, vcs, blt, lenV, Z10, Z3, Z2, Zf, Zg, Ze, Z1, Z0, Z14, Zw, Zh, Zr, Z33, Z15, Z7, Zc, Z6, Z3, Z2, Zf, Zi, Nat.reduceAdd, Nat.reduceMul, Nat.reduceLeDiff, Z11, Z12, Z1y, Z1h, Z2c, Z23, Z28, Z27, Z26, Z25, Z24, Z1m, Z1l, Z1k, Z1j, Z1i, Z1w, Z1v, Z1u, Z1t, Z1s, Z32, Z2y, Z2q, Z2r, Z2s, Z20, Z1q, Z1r, Z2z, Z2t, Z21, Z22, splice, Za, Z9, Z1, Z0, Z19, Zt, Zs, Z18, newB, vcs, Z30, Z2v, Z1x, Z29, Z1n, Z2u, Z1o, Z1f, Z1p, Z1d, Z1e, Ty.ld3, Ty.sz3, Ty.zc3, Ty.by3, Ty.ld4, Ty.sz4, Ty.zc4, Ty.by4, Ty.ld24, Ty.sz24, Ty.sl24, Ty.zc24, Ty.by24, Ty.ld51, Ty.sz51, Ty.sl51, Ty.zc51, Ty.by51, Ty.ld53, Ty.sz53, Ty.zc53, Ty.by53, Ty.ld56, Ty.sz56, Ty.sl56, Ty.zc56, Ty.by56, Ty.ld58, Ty.sz58, Ty.zc58, Ty.by58, Ty.ld77, Ty.sz77, Ty.zc77, Ty.by77, Ty.ld80, Ty.sz80, Ty.zc80, Ty.by80, Ty.ld85, Ty.sz85, Ty.zc85, Ty.by85, Ty.ld132, Ty.sz132, Ty.zc132, Ty.by132, DAct.cells_length, DAct.cells_flat, DAct.cells_take, deskV, deskL, stepDV, stepDL, cellsL, Z2x, *]; rfl
         · exact rfl
         · simp
         skip)
      | (refine xe_do (v := ?_) (ids := [h.length + 18]) (by exact rfl) (by decide +kernel) (by exact rfl) (by exact rfl) ?_ ?_; rotate_left 1)
      | (refine xe_st (v := ?_) (a := ?_) (h' := ?_) (ids := [h.length + 18]) (by decide +kernel) (by exact rfl) ?_ ?_ ?_ ?_ ?_
         rotate_left 3
         · simp only [stp, ev, Zb, Z2e, Z1z, Zk, Zl, reduceIte, Nat.reduceEqDiff, Zj, Zz, Zu, Z16, Z1a, Zm, Zp, Zo, Zd, Zx, Z2b, Z2x, Z1g, Z17, Zq, Zn, Zv, Z2p, Z2f, Z2o, Z2d, Z2g, Z1c, Z1b, Z2i, Z2n, Z2h, Z2j, Z2k, Z2l, Z2m, Z31, Z8, Z5, Z13, Zy, binV_bool_neq, binV_bool_eql, Ty.un4, Ze, Z1, Z0, ldv, stv, vcs, blt, lenV, Z10, Z3, Z2, Zf, Zg, Ze, Z1, Z0, Z14, Zw, Zh, Zr, Z33, Z15, Z7, Zc, Z6, Z3, Z2, Zf, Zi, Nat.reduceAdd, Nat.reduceMul, Nat.reduceLeDiff, Z11, Z12, Z1y, Z1h, Z2c, Z23, Z28, Z27, Z26, Z25, Z24, Z1m, Z1l, Z1k, Z1j, Z1i, Z1w, Z1v, Z1u, Z1t, Z1s, Z32, Z2y, Z2q, Z2r, Z2s, Z20, Z1q, Z1r, Z2z, Z2t, Z21, Z22, splice, Za, Z9, Z1, Z0, Z19, Zt, Zs, Z18, newB, vcs, Z30, Z2v, Z1x, Z29, Z1n, Z2u, Z1o, Z1f, Z1p, Z1d, Z1e, Ty.ld3, Ty.sz3, Ty.zc3, Ty.by3, Ty.ld4, Ty.sz4, Ty.zc4, Ty.by4, Ty.ld24, Ty.sz24, Ty.sl24, Ty.zc24, Ty.by24, Ty.ld51, Ty.sz51, Ty.sl51, Ty.zc51, Ty.by51, Ty.ld53, Ty.sz53, Ty.zc53, Ty.by53, Ty.ld56, Ty.sz56, Ty.sl56, Ty.zc56, Ty.by56, Ty.ld58, Ty.sz58, Ty.zc58, Ty.by58, Ty.ld77, Ty.sz77, Ty.zc77, Ty.by77, Ty.ld80, Ty.sz80, Ty.zc80, Ty.by80, Ty.ld85, Ty.sz85, Ty.zc85, Ty.by85, Ty.ld132, Ty.sz132, Ty.zc132, Ty.by132, DAct.cells_length, DAct.cells_flat, DAct.cells_take, deskV, deskL, stepDV, stepDL, cellsL, Z2x, *]; rfl
         · exact rfl
         · simp
         skip)
      | (refine xe_alloc (z := ?_) ?_ ?_ (by exact rfl) ?_
         rotate_left 1
         · first | exact Ty.zc3 | exact Ty.zc4 | exact Ty.zc53 | exact Ty.zc58 | exact Ty.zc80 | exact Ty.zc85
         · decide)
      | (refine xe_pure (ids := []) (f := ?_) (fs := ?_) (cs := ?_) (args := ?_) (v := ?_) ?_ ?_ ?_ (by decide +kernel) (by exact rfl) (by exact rfl) ?_ ?_
         rotate_left 5
         · simp only [ev]; rfl
         · first | with_reducible exact Ty.ok39 | with_reducible exact Ty.ok43 | with_reducible exact Ty.ok48 | with_reducible exact Ty.ok49 | with_reducible exact Ty.ok64
         · simp only [stp, ev, Zb, Z2e, Z1z, Zk, Zl, reduceIte, Nat.reduceEqDiff, Zj, Zz, Zu, Z16, Z1a, Zm, Zp, Zo, Zd, Zx, Z2b, Z2x, Z1g, Z17, Zq, Zn, Zv, Z2p, Z2f, Z2o, Z2d, Z2g, Z1c, Z1b, Z2i, Z2n, Z2h, Z2j, Z2k, Z2l, Z2m, Z31, Z8, Z5, Z13, Zy, binV_bool_neq, binV_bool_eql, Ty.un4, Ze, Z1, Z0, ldv, stv, vcs, blt, lenV, Z10, Z3, Z2, Zf, Zg, Ze, Z1, Z0, Z14, Zw, Zh, Zr, Z33, Z15, Z7, Zc, Z6, Z3, Z2, Zf, Zi, Nat.reduceAdd, Nat.reduceMul, Nat.reduceLeDiff, Z11, Z12, Z1y, Z1h, Z2c, Z23, Z28, Z27, Z26, Z25, Z24, Z1m, Z1l, Z1k, Z1j, Z1i, Z1w, Z1v, Z1u, Z1t, Z1s, Z32, Z2y, Z2q, Z2r, Z2s, Z20, Z1q, Z1r, Z2z, Z2t, Z21, Z22, splice, Za, Z9, Z1, Z0, Z19, Zt, Zs, Z18, newB, vcs, Z30, Z2v, Z1x, Z29, Z1n, Z2u, Z1o, Z1f, Z1p, Z1d, Z1e, Ty.ld3, Ty.sz3, Ty.zc3, Ty.by3, Ty.ld4, Ty.sz4, Ty.zc4, Ty.by4, Ty.ld24, Ty.sz24, Ty.sl24, Ty.zc24, Ty.by24, Ty.ld51, Ty.sz51, Ty.sl51, Ty.zc51, Ty.by51, Ty.ld53, Ty.sz53, Ty.zc53, Ty.by53, Ty.ld56, Ty.sz56, Ty.sl56, Ty.zc56, Ty.by56, Ty.ld58, Ty.sz58, Ty.zc58, Ty.by58, Ty.ld77, Ty.sz77, Ty.zc77, Ty.by77, Ty.ld80, Ty.sz80, Ty.zc80, Ty.by80, Ty.ld85, Ty.sz85, Ty.zc85, Ty.by85, Ty.ld132, Ty.sz132, Ty.zc132, Ty.by132, DAct.cells_length, DAct.cells_flat, DAct.cells_take, deskV, deskL, stepDV, stepDL, cellsL, Z2x, *]; rfl
         · first
           | (with_reducible refine szDesk_ok _ ?_ ?_ _ _ _ _ ?_ ?_ ?_ ?_ ?_
              rotate_left 2
              · first | assumption | exact Sl.old (by assumption) _ | ((try (simp only [deskV, deskL, Z11, Z12, Z1y, Z1h, Za, Z9, Z7, Zc, Zd, Z6, Z3, Z2, Zf, Zi, Nat.reduceAdd, Zh])); first | exact Sl.old (by assumption) _ | exact sl_nilints | exact sl_nilitems | (refine sl_ints (Z4 _) ?_; exact rfl) | (refine sl_items (Z4 _) ?_; exact rfl) | (refine sl_ints0 (Z4 _) ?_; exact rfl) | (refine sl_items0 (Z4 _) ?_; exact rfl))
              · first | assumption | exact Sl.old (by assumption) _ | ((try (simp only [deskV, deskL, Z11, Z12, Z1y, Z1h, Za, Z9, Z7, Zc, Zd, Z6, Z3, Z2, Zf, Zi, Nat.reduceAdd, Zh])); first | exact Sl.old (by assumption) _ | exact sl_nilints | exact sl_nilitems | (refine sl_ints (Z4 _) ?_; exact rfl) | (refine sl_items (Z4 _) ?_; exact rfl) | (refine sl_ints0 (Z4 _) ?_; exact rfl) | (refine sl_items0 (Z4 _) ?_; exact rfl))
              · first | assumption | omega
              · first | assumption | omega
              · first | assumption | omega
              )
           | (with_reducible refine eqDesk_ok _ _ ?_ ?_ ?_ ?_ _ _ _ _ _ ?_ ?_ ?_ ?_ ?_ ?_ ?_ ?_
              rotate_left 4
              · first | assumption | exact Sl.old (by assumption) _ | ((try (simp only [deskV, deskL, Z11, Z12, Z1y, Z1h, Za, Z9, Z7, Zc, Zd, Z6, Z3, Z2, Zf, Zi, Nat.reduceAdd, Zh])); first | exact Sl.old (by assumption) _ | exact sl_nilints | exact sl_nilitems | (refine sl_ints (Z4 _) ?_; exact rfl) | (refine sl_items (Z4 _) ?_; exact rfl) | (refine sl_ints0 (Z4 _) ?_; exact rfl) | (refine sl_items0 (Z4 _) ?_; exact rfl))
              · first | assumption | exact Sl.old (by assumption) _ | ((try (simp only [deskV, deskL, Z11, Z12, Z1y, Z1h, Za, Z9, Z7, Zc, Zd, Z6, Z3, Z2, Zf, Zi, Nat.reduceAdd, Zh])); first | exact Sl.old (by assumption) _ | exact sl_nilints | exact sl_nilitems | (refine sl_ints (Z4 _) ?_; exact rfl) | (refine sl_items (Z4 _) ?_; exact rfl) | (refine sl_ints0 (Z4 _) ?_; exact rfl) | (refine sl_items0 (Z4 _) ?_; exact rfl))
              · first | assumption | exact Sl.old (by assumption) _ | ((try (simp only [deskV, deskL, Z11, Z12, Z1y, Z1h, Za, Z9, Z7, Zc, Zd, Z6, Z3, Z2, Zf, Zi, Nat.reduceAdd, Zh])); first | exact Sl.old (by assumption) _ | exact sl_nilints | exact sl_nilitems | (refine sl_ints (Z4 _) ?_; exact rfl) | (refine sl_items (Z4 _) ?_; exact rfl) | (refine sl_ints0 (Z4 _) ?_; exact rfl) | (refine sl_items0 (Z4 _) ?_; exact rfl))
              · first | assumption | exact Sl.old (by assumption) _ | ((try (simp only [deskV, deskL, Z11, Z12, Z1y, Z1h, Za, Z9, Z7, Zc, Zd, Z6, Z3, Z2, Zf, Zi, Nat.reduceAdd, Zh])); first | exact Sl.old (by assumption) _ | exact sl_nilints | exact sl_nilitems | (refine sl_ints (Z4 _) ?_; exact rfl) | (refine sl_items (Z4 _) ?_; exact rfl) | (refine sl_ints0 (Z4 _) ?_; exact rfl) | (refine sl_items0 (Z4 _) ?_; exact rfl))
              · omega
              · omega
              · omega
              · omega
              )
           | (with_reducible refine markDesk_ok ?_ ?_ ?_ ?_ _ _ _ _ _ ?_ ?_ ?_ ?_ ?_ ?_
              rotate_left 4
              · first | assumption | exact Own.old (by assumption) _ | ((try (simp only [deskV, deskL, Z11, Z12, Z1y, Z1h, Za, Z9, Z7, Zc, Zd, Z6, Z3, Z2, Zf, Zi, Nat.reduceAdd, Zh])); first | exact Own.old (by assumption) _ | exact Own.nil _ | (refine Own.at ?_ ?_ (Z4 _); (exact rfl); first | exact ints_flen _ | exact items_flen _ | (simp only [Z34]; done) | (simp only [Z34]; omega)) | (refine Own.at0 ?_ ?_ (Z4 _); (exact rfl); first | exact ints_flen _ | exact items_flen _ | (simp only [Z34]; done) | (simp only [Z34]; omega)))
              · first | assumption | exact Own.old (by assumption) _ | ((try (simp only [deskV, deskL, Z11, Z12, Z1y, Z1h, Za, Z9, Z7, Zc, Zd, Z6, Z3, Z2, Zf, Zi, Nat.reduceAdd, Zh])); first | exact Own.old (by assumption) _ | exact Own.nil _ | (refine Own.at ?_ ?_ (Z4 _); (exact rfl); first | exact ints_flen _ | exact items_flen _ | (simp only [Z34]; done) | (simp only [Z34]; omega)) | (refine Own.at0 ?_ ?_ (Z4 _); (exact rfl); first | exact ints_flen _ | exact items_flen _ | (simp only [Z34]; done) | (simp only [Z34]; omega)))
              · first | exact .inl rfl | (right; simp [bid])
              · omega
              · omega
              · omega
              )
           | (with_reducible refine heldDesk_ok ?_ ?_ _ _ _ _ _ ?_ ?_ ?_ ?_ ?_
              rotate_left 2
              · first | assumption | exact Own.old (by assumption) _ | ((try (simp only [deskV, deskL, Z11, Z12, Z1y, Z1h, Za, Z9, Z7, Zc, Zd, Z6, Z3, Z2, Zf, Zi, Nat.reduceAdd, Zh])); first | exact Own.old (by assumption) _ | exact Own.nil _ | (refine Own.at ?_ ?_ (Z4 _); (exact rfl); first | exact ints_flen _ | exact items_flen _ | (simp only [Z34]; done) | (simp only [Z34]; omega)) | (refine Own.at0 ?_ ?_ (Z4 _); (exact rfl); first | exact ints_flen _ | exact items_flen _ | (simp only [Z34]; done) | (simp only [Z34]; omega)))
              · first | assumption | exact Own.old (by assumption) _ | ((try (simp only [deskV, deskL, Z11, Z12, Z1y, Z1h, Za, Z9, Z7, Zc, Zd, Z6, Z3, Z2, Zf, Zi, Nat.reduceAdd, Zh])); first | exact Own.old (by assumption) _ | exact Own.nil _ | (refine Own.at ?_ ?_ (Z4 _); (exact rfl); first | exact ints_flen _ | exact items_flen _ | (simp only [Z34]; done) | (simp only [Z34]; omega)) | (refine Own.at0 ?_ ?_ (Z4 _); (exact rfl); first | exact ints_flen _ | exact items_flen _ | (simp only [Z34]; done) | (simp only [Z34]; omega)))
              · omega
              · omega
              · omega
              )
           | (with_reducible refine toDeskAct_ok _ _
              )
         skip)
      | (refine xe_cl (f := ?_) (fs := ?_) (cs := ?_) (args := ?_) (v := ?_) (ids := []) (L := ?_) (a := true) ?_ ?_ ?_ (by decide +kernel) (by exact rfl) (by exact rfl) (fun q => by cases q) ?_ ?_
         rotate_left 6
         · simp only [ev]; rfl
         · first | with_reducible exact Ty.ok41 | with_reducible exact Ty.ok62 | with_reducible exact Ty.ok63
         · simp only [stp, ev, Zb, Z2e, Z1z, Zk, Zl, reduceIte, Nat.reduceEqDiff, Zj, Zz, Zu, Z16, Z1a, Zm, Zp, Zo, Zd, Zx, Z2b, Z2x, Z1g, Z17, Zq, Zn, Zv, Z2p, Z2f, Z2o, Z2d, Z2g, Z1c, Z1b, Z2i, Z2n, Z2h, Z2j, Z2k, Z2l, Z2m, Z31, Z8, Z5, Z13, Zy, binV_bool_neq, binV_bool_eql, Ty.un4, Ze, Z1, Z0, ldv, stv, vcs, blt, lenV, Z10, Z3, Z2, Zf, Zg, Ze, Z1, Z0, Z14, Zw, Zh, Zr, Z33, Z15, Z7, Zc, Z6, Z3, Z2, Zf, Zi, Nat.reduceAdd, Nat.reduceMul, Nat.reduceLeDiff, Z11, Z12, Z1y, Z1h, Z2c, Z23, Z28, Z27, Z26, Z25, Z24, Z1m, Z1l, Z1k, Z1j, Z1i, Z1w, Z1v, Z1u, Z1t, Z1s, Z32, Z2y, Z2q, Z2r, Z2s, Z20, Z1q, Z1r, Z2z, Z2t, Z21, Z22, splice, Za, Z9, Z1, Z0, Z19, Zt, Zs, Z18, newB, vcs, Z30, Z2v, Z1x, Z29, Z1n, Z2u, Z1o, Z1f, Z1p, Z1d, Z1e, Ty.ld3, Ty.sz3, Ty.zc3, Ty.by3, Ty.ld4, Ty.sz4, Ty.zc4, Ty.by4, Ty.ld24, Ty.sz24, Ty.sl24, Ty.zc24, Ty.by24, Ty.ld51, Ty.sz51, Ty.sl51, Ty.zc51, Ty.by51, Ty.ld53, Ty.sz53, Ty.zc53, Ty.by53, Ty.ld56, Ty.sz56, Ty.sl56, Ty.zc56, Ty.by56, Ty.ld58, Ty.sz58, Ty.zc58, Ty.by58, Ty.ld77, Ty.sz77, Ty.zc77, Ty.by77, Ty.ld80, Ty.sz80, Ty.zc80, Ty.by80, Ty.ld85, Ty.sz85, Ty.zc85, Ty.by85, Ty.ld132, Ty.sz132, Ty.zc132, Ty.by132, DAct.cells_length, DAct.cells_flat, DAct.cells_take, deskV, deskL, stepDV, stepDL, cellsL, Z2x, *]; rfl
         · simp only [Z2c]
           first
           | (with_reducible refine toDesk_ok _ ?_ ?_ _ _ _ ?_ ?_ ?_ ?_
              rotate_left 2
              · first | assumption | exact Sl.old (by assumption) _ | ((try (simp only [deskV, deskL, Z11, Z12, Z1y, Z1h, Za, Z9, Z7, Zc, Zd, Z6, Z3, Z2, Zf, Zi, Nat.reduceAdd, Zh])); first | exact Sl.old (by assumption) _ | exact sl_nilints | exact sl_nilitems | (refine sl_ints (Z4 _) ?_; exact rfl) | (refine sl_items (Z4 _) ?_; exact rfl) | (refine sl_ints0 (Z4 _) ?_; exact rfl) | (refine sl_items0 (Z4 _) ?_; exact rfl))
              · first | assumption | exact Sl.old (by assumption) _ | ((try (simp only [deskV, deskL, Z11, Z12, Z1y, Z1h, Za, Z9, Z7, Zc, Zd, Z6, Z3, Z2, Zf, Zi, Nat.reduceAdd, Zh])); first | exact Sl.old (by assumption) _ | exact sl_nilints | exact sl_nilitems | (refine sl_ints (Z4 _) ?_; exact rfl) | (refine sl_items (Z4 _) ?_; exact rfl) | (refine sl_ints0 (Z4 _) ?_; exact rfl) | (refine sl_items0 (Z4 _) ?_; exact rfl))
              · omega
              · omega
              )
           | (with_reducible refine implStepDesk_ok _ people items _ _ _ _ _ _ ?_ ?_ ?_ ?_ ?_
              · first | assumption | exact Sl.old (by assumption) _ | ((try (simp only [deskV, deskL, Z11, Z12, Z1y, Z1h, Za, Z9, Z7, Zc, Zd, Z6, Z3, Z2, Zf, Zi, Nat.reduceAdd, Zh])); first | exact Sl.old (by assumption) _ | exact sl_nilints | exact sl_nilitems | (refine sl_ints (Z4 _) ?_; exact rfl) | (refine sl_items (Z4 _) ?_; exact rfl) | (refine sl_ints0 (Z4 _) ?_; exact rfl) | (refine sl_items0 (Z4 _) ?_; exact rfl))
              · first | assumption | exact Sl.old (by assumption) _ | ((try (simp only [deskV, deskL, Z11, Z12, Z1y, Z1h, Za, Z9, Z7, Zc, Zd, Z6, Z3, Z2, Zf, Zi, Nat.reduceAdd, Zh])); first | exact Sl.old (by assumption) _ | exact sl_nilints | exact sl_nilitems | (refine sl_ints (Z4 _) ?_; exact rfl) | (refine sl_items (Z4 _) ?_; exact rfl) | (refine sl_ints0 (Z4 _) ?_; exact rfl) | (refine sl_items0 (Z4 _) ?_; exact rfl))
              · omega
              · omega
              · (simp only [deskL, mset_length, Z6, Z3, Z2, List.length_set]; omega)
              )
           | (with_reducible refine specStepDesk_ok _ people items _ _ _ _ _ ?_ ?_ ?_ ?_ ?_
              · first | assumption | exact Sl.old (by assumption) _ | ((try (simp only [deskV, deskL, Z11, Z12, Z1y, Z1h, Za, Z9, Z7, Zc, Zd, Z6, Z3, Z2, Zf, Zi, Nat.reduceAdd, Zh])); first | exact Sl.old (by assumption) _ | exact sl_nilints | exact sl_nilitems | (refine sl_ints (Z4 _) ?_; exact rfl) | (refine sl_items (Z4 _) ?_; exact rfl) | (refine sl_ints0 (Z4 _) ?_; exact rfl) | (refine sl_items0 (Z4 _) ?_; exact rfl))
              · first | assumption | exact Sl.old (by assumption) _ | ((try (simp only [deskV, deskL, Z11, Z12, Z1y, Z1h, Za, Z9, Z7, Zc, Zd, Z6, Z3, Z2, Zf, Zi, Nat.reduceAdd, Zh])); first | exact Sl.old (by assumption) _ | exact sl_nilints | exact sl_nilitems | (refine sl_ints (Z4 _) ?_; exact rfl) | (refine sl_items (Z4 _) ?_; exact rfl) | (refine sl_ints0 (Z4 _) ?_; exact rfl) | (refine sl_items0 (Z4 _) ?_; exact rfl))
              · omega
              · omega
              · (intro i q; simp only [bid, Option.some.injEq] at q; simp only [deskL, mset_length, Z6, Z3, Z2, List.length_set]; omega)
              )
         skip)
      | (refine xe_free (X := ?_) (Y := ?_) (ids := []) (v := ?_) (by exact rfl) (by exact rfl) ?_ (by exact rfl) ?_ ?_ ?_
         rotate_left 2
         · exact rfl
         · (try simp only [outL_cons, outL_nil]); simp only [Z2c, stp, ev, Zb, Z2e, Z1z, Zk, Zl, reduceIte, Nat.reduceEqDiff, Zj, Zz, Zu, Z16, Z1a, Zm, Zp, Zo, Zd, Zx, Z2b, Z2x, Z1g, Z17, Zq, Zn, Zv, Z2p, Z2f, Z2o, Z2d, Z2g, Z1c, Z1b, Z2i, Z2n, Z2h, Z2j, Z2k, Z2l, Z2m, Z31, Z8, Z5, Z13, Zy, binV_bool_neq, binV_bool_eql, Ty.un4, Ze, Z1, Z0, ldv, stv, vcs, blt, lenV, Z10, Z3, Z2, Zf, Zg, Ze, Z1, Z0, Z14, Zw, Zh, Zr, Z33, Z15, Z7, Zc, Z6, Z3, Z2, Zf, Zi, Nat.reduceAdd, Nat.reduceMul, Nat.reduceLeDiff, Z11, Z12, Z1y, Z1h, Z2c, Z23, Z28, Z27, Z26, Z25, Z24, Z1m, Z1l, Z1k, Z1j, Z1i, Z1w, Z1v, Z1u, Z1t, Z1s, Z32, Z2y, Z2q, Z2r, Z2s, Z20, Z1q, Z1r, Z2z, Z2t, Z21, Z22, splice, Za, Z9, Z1, Z0, Z19, Zt, Zs, Z18, newB, vcs, Z30, Z2v, Z1x, Z29, Z1n, Z2u, Z1o, Z1f, Z1p, Z1d, Z1e, Ty.ld3, Ty.sz3, Ty.zc3, Ty.by3, Ty.ld4, Ty.sz4, Ty.zc4, Ty.by4, Ty.ld24, Ty.sz24, Ty.sl24, Ty.zc24, Ty.by24, Ty.ld51, Ty.sz51, Ty.sl51, Ty.zc51, Ty.by51, Ty.ld53, Ty.sz53, Ty.zc53, Ty.by53, Ty.ld56, Ty.sz56, Ty.sl56, Ty.zc56, Ty.by56, Ty.ld58, Ty.sz58, Ty.zc58, Ty.by58, Ty.ld77, Ty.sz77, Ty.zc77, Ty.by77, Ty.ld80, Ty.sz80, Ty.zc80, Ty.by80, Ty.ld85, Ty.sz85, Ty.zc85, Ty.by85, Ty.ld132, Ty.sz132, Ty.zc132, Ty.by132, DAct.cells_length, DAct.cells_flat, DAct.cells_take, deskV, deskL, stepDV, stepDL, cellsL, Z2x, *]; rfl
         · (first | exact ids_af (DAct.af _))
         skip)
      | (refine xe_free (X := ?_) (Y := ?_) (ids := []) (v := ?_) (by exact rfl) (by exact rfl) ?_ (by exact rfl) ?_ ?_ ?_
         rotate_left 2
         · exact Z7 _ _ _
         · (try simp only [outL_cons, outL_nil]); simp only [Z2c, stp, ev, Zb, Z2e, Z1z, Zk, Zl, reduceIte, Nat.reduceEqDiff, Zj, Zz, Zu, Z16, Z1a, Zm, Zp, Zo, Zd, Zx, Z2b, Z2x, Z1g, Z17, Zq, Zn, Zv, Z2p, Z2f, Z2o, Z2d, Z2g, Z1c, Z1b, Z2i, Z2n, Z2h, Z2j, Z2k, Z2l, Z2m, Z31, Z8, Z5, Z13, Zy, binV_bool_neq, binV_bool_eql, Ty.un4, Ze, Z1, Z0, ldv, stv, vcs, blt, lenV, Z10, Z3, Z2, Zf, Zg, Ze, Z1, Z0, Z14, Zw, Zh, Zr, Z33, Z15, Z7, Zc, Z6, Z3, Z2, Zf, Zi, Nat.reduceAdd, Nat.reduceMul, Nat.reduceLeDiff, Z11, Z12, Z1y, Z1h, Z2c, Z23, Z28, Z27, Z26, Z25, Z24, Z1m, Z1l, Z1k, Z1j, Z1i, Z1w, Z1v, Z1u, Z1t, Z1s, Z32, Z2y, Z2q, Z2r, Z2s, Z20, Z1q, Z1r, Z2z, Z2t, Z21, Z22, splice, Za, Z9, Z1, Z0, Z19, Zt, Zs, Z18, newB, vcs, Z30, Z2v, Z1x, Z29, Z1n, Z2u, Z1o, Z1f, Z1p, Z1d, Z1e, Ty.ld3, Ty.sz3, Ty.zc3, Ty.by3, Ty.ld4, Ty.sz4, Ty.zc4, Ty.by4, Ty.ld24, Ty.sz24, Ty.sl24, Ty.zc24, Ty.by24, Ty.ld51, Ty.sz51, Ty.sl51, Ty.zc51, Ty.by51, Ty.ld53, Ty.sz53, Ty.zc53, Ty.by53, Ty.ld56, Ty.sz56, Ty.sl56, Ty.zc56, Ty.by56, Ty.ld58, Ty.sz58, Ty.zc58, Ty.by58, Ty.ld77, Ty.sz77, Ty.zc77, Ty.by77, Ty.ld80, Ty.sz80, Ty.zc80, Ty.by80, Ty.ld85, Ty.sz85, Ty.zc85, Ty.by85, Ty.ld132, Ty.sz132, Ty.zc132, Ty.by132, DAct.cells_length, DAct.cells_flat, DAct.cells_take, deskV, deskL, stepDV, stepDL, cellsL, Z2x, *]; rfl
         · (first | exact ids_af (DAct.af _))
         skip)
      | (refine xe_free (X := ?_) (Y := ?_) (ids := []) (v := ?_) (by exact rfl) (by exact rfl) ?_ (by exact rfl) ?_ ?_ ?_
         rotate_left 2
         · exact (Z7 _ _ _).symm
         · (try simp only [outL_cons, outL_nil]); simp only [Z2c, stp, ev, Zb, Z2e, Z1z, Zk, Zl, reduceIte, Nat.reduceEqDiff, Zj, Zz, Zu, Z16, Z1a, Zm, Zp, Zo, Zd, Zx, Z2b, Z2x, Z1g, Z17, Zq, Zn, Zv, Z2p, Z2f, Z2o, Z2d, Z2g, Z1c, Z1b, Z2i, Z2n, Z2h, Z2j, Z2k, Z2l, Z2m, Z31, Z8, Z5, Z13, Zy, binV_bool_neq, binV_bool_eql, Ty.un4, Ze, Z1, Z0, ldv, stv, vcs, blt, lenV, Z10, Z3, Z2, Zf, Zg, Ze, Z1, Z0, Z14, Zw, Zh, Zr, Z33, Z15, Z7, Zc, Z6, Z3, Z2, Zf, Zi, Nat.reduceAdd, Nat.reduceMul, Nat.reduceLeDiff, Z11, Z12, Z1y, Z1h, Z2c, Z23, Z28, Z27, Z26, Z25, Z24, Z1m, Z1l, Z1k, Z1j, Z1i, Z1w, Z1v, Z1u, Z1t, Z1s, Z32, Z2y, Z2q, Z2r, Z2s, Z20, Z1q, Z1r, Z2z, Z2t, Z21, Z22, splice, Za, Z9, Z1, Z0, Z19, Zt, Zs, Z18, newB, vcs, Z30, Z2v, Z1x, Z29, Z1n, Z2u, Z1o, Z1f, Z1p, Z1d, Z1e, Ty.ld3, Ty.sz3, Ty.zc3, Ty.by3, Ty.ld4, Ty.sz4, Ty.zc4, Ty.by4, Ty.ld24, Ty.sz24, Ty.sl24, Ty.zc24, Ty.by24, Ty.ld51, Ty.sz51, Ty.sl51, Ty.zc51, Ty.by51, Ty.ld53, Ty.sz53, Ty.zc53, Ty.by53, Ty.ld56, Ty.sz56, Ty.sl56, Ty.zc56, Ty.by56, Ty.ld58, Ty.sz58, Ty.zc58, Ty.by58, Ty.ld77, Ty.sz77, Ty.zc77, Ty.by77, Ty.ld80, Ty.sz80, Ty.zc80, Ty.by80, Ty.ld85, Ty.sz85, Ty.zc85, Ty.by85, Ty.ld132, Ty.sz132, Ty.zc132, Ty.by132, DAct.cells_length, DAct.cells_flat, DAct.cells_take, deskV, deskL, stepDV, stepDL, cellsL, Z2x, *]; rfl
         · (first | exact ids_af (DAct.af _))
         skip)
      | (refine xd_do (v := ?_) (by exact rfl) (by decide +kernel) ?_ ?_; rotate_left 1)
      | (refine xd_gdo (v := ?_) (by exact rfl) (by decide +kernel) (by exact rfl) ?_ ?_ ?_
         rotate_left 1
         · simp only [ev, Zb, reduceIte, Nat.reduceEqDiff, Z8, Z5, *])
      | (refine xd_goff (by exact rfl) ?_ ?_
         · simp only [ev, Zb, reduceIte, Nat.reduceEqDiff, Z8, Z5, *])
      | (refine xd_gund (by exact rfl) ?_ ?_
         · simp only [ev, Zb, reduceIte, Nat.reduceEqDiff, Z8, Z5, *])
      | (refine xd_gif (b := ?_) (by exact rfl) ?_ (fun hb => ?_) (fun hb => ?_)
         rotate_left 1
         · simp only [ev, Zb, reduceIte, Nat.reduceEqDiff, Z8, Z5, *]; rfl)
      | (refine xr_gdo (v := ?_) (h' := ?_) (by exact rfl) (by exact rfl) ?_ ?_ ?_
         rotate_left 2
         · simp only [ev, Zb, reduceIte, Nat.reduceEqDiff, Z8, Z5, *])
      | (refine xr_gst (v := ?_) (h' := ?_) (by exact rfl) (by exact rfl) ?_ ?_ ?_
         rotate_left 2
         · simp only [ev, Zb, reduceIte, Nat.reduceEqDiff, Z8, Z5, *])
      | (refine xr_goff (by exact rfl) ?_ ?_
         · simp only [ev, Zb, reduceIte, Nat.reduceEqDiff, Z8, Z5, *])
      | (refine xr_gsoff (by exact rfl) ?_ ?_
         · simp only [ev, Zb, reduceIte, Nat.reduceEqDiff, Z8, Z5, *])
      | (refine xr_gund (by exact rfl) ?_ ?_
         · simp only [ev, Zb, reduceIte, Nat.reduceEqDiff, Z8, Z5, *])
      | (refine xr_gsund (by exact rfl) ?_ ?_
         · simp only [ev, Zb, reduceIte, Nat.reduceEqDiff, Z8, Z5, *])
      | (refine xr_gif (b := ?_) (by exact rfl) ?_ (fun hb => ?_) (fun hb => ?_)
         rotate_left 1
         · simp only [ev, Zb, reduceIte, Nat.reduceEqDiff, Z8, Z5, *]; rfl)
      | (refine aw_ift (by decide) ?_ ?_
         · simp only [ev, Zb, reduceIte, Nat.reduceEqDiff, *])
      | (refine aw_iff (by decide) ?_ ?_
         · simp only [ev, Zb, reduceIte, Nat.reduceEqDiff, *])
      | (refine aw_if (b := ?_) (by decide) ?_ (fun hb => ?_) (fun hb => ?_)
         rotate_left 1
         · simp only [ev, Zb, reduceIte, Nat.reduceEqDiff, *]; rfl)
      | (refine r_ret (vs := ?_) ?_ ?_
         rotate_left 1
         · simp only [resV, ev, Zb, reduceIte, Nat.reduceEqDiff, Zj, *]; rfl)
      | (with_reducible refine szDesk_ok _ ?_ ?_ _ _ _ _ ?_ ?_ ?_ ?_ ?_
         rotate_left 2
         · first | assumption | exact Sl.old (by assumption) _ | ((try (simp only [deskV, deskL, Z11, Z12, Z1y, Z1h, Za, Z9, Z7, Zc, Zd, Z6, Z3, Z2, Zf, Zi, Nat.reduceAdd, Zh])); first | exact Sl.old (by assumption) _ | exact sl_nilints | exact sl_nilitems | (refine sl_ints (Z4 _) ?_; exact rfl) | (refine sl_items (Z4 _) ?_; exact rfl) | (refine sl_ints0 (Z4 _) ?_; exact rfl) | (refine sl_items0 (Z4 _) ?_; exact rfl))
         · first | assumption | exact Sl.old (by assumption) _ | ((try (simp only [deskV, deskL, Z11, Z12, Z1y, Z1h, Za, Z9, Z7, Zc, Zd, Z6, Z3, Z2, Zf, Zi, Nat.reduceAdd, Zh])); first | exact Sl.old (by assumption) _ | exact sl_nilints | exact sl_nilitems | (refine sl_ints (Z4 _) ?_; exact rfl) | (refine sl_items (Z4 _) ?_; exact rfl) | (refine sl_ints0 (Z4 _) ?_; exact rfl) | (refine sl_items0 (Z4 _) ?_; exact rfl))
         · first | assumption | omega
         · first | assumption | omega
         · first | assumption | omega
         )
      | (with_reducible refine toDesk_ok _ ?_ ?_ _ _ _ ?_ ?_ ?_ ?_
         rotate_left 2
         · first | assumption | exact Sl.old (by assumption) _ | ((try (simp only [deskV, deskL, Z11, Z12, Z1y, Z1h, Za, Z9, Z7, Zc, Zd, Z6, Z3, Z2, Zf, Zi, Nat.reduceAdd, Zh])); first | exact Sl.old (by assumption) _ | exact sl_nilints | exact sl_nilitems | (refine sl_ints (Z4 _) ?_; exact rfl) | (refine sl_items (Z4 _) ?_; exact rfl) | (refine sl_ints0 (Z4 _) ?_; exact rfl) | (refine sl_items0 (Z4 _) ?_; exact rfl))
         · first | assumption | exact Sl.old (by assumption) _ | ((try (simp only [deskV, deskL, Z11, Z12, Z1y, Z1h, Za, Z9, Z7, Zc, Zd, Z6, Z3, Z2, Zf, Zi, Nat.reduceAdd, Zh])); first | exact Sl.old (by assumption) _ | exact sl_nilints | exact sl_nilitems | (refine sl_ints (Z4 _) ?_; exact rfl) | (refine sl_items (Z4 _) ?_; exact rfl) | (refine sl_ints0 (Z4 _) ?_; exact rfl) | (refine sl_items0 (Z4 _) ?_; exact rfl))
         · first | omega | (simp only [Z2]; omega)
         · first | omega | (simp only [Z2]; omega)
         )
      | (with_reducible refine eqDesk_ok _ _ ?_ ?_ ?_ ?_ _ _ _ _ _ ?_ ?_ ?_ ?_ ?_ ?_ ?_ ?_
         rotate_left 4
         · first | assumption | exact Sl.old (by assumption) _ | ((try (simp only [deskV, deskL, Z11, Z12, Z1y, Z1h, Za, Z9, Z7, Zc, Zd, Z6, Z3, Z2, Zf, Zi, Nat.reduceAdd, Zh])); first | exact Sl.old (by assumption) _ | exact sl_nilints | exact sl_nilitems | (refine sl_ints (Z4 _) ?_; exact rfl) | (refine sl_items (Z4 _) ?_; exact rfl) | (refine sl_ints0 (Z4 _) ?_; exact rfl) | (refine sl_items0 (Z4 _) ?_; exact rfl))
         · first | assumption | exact Sl.old (by assumption) _ | ((try (simp only [deskV, deskL, Z11, Z12, Z1y, Z1h, Za, Z9, Z7, Zc, Zd, Z6, Z3, Z2, Zf, Zi, Nat.reduceAdd, Zh])); first | exact Sl.old (by assumption) _ | exact sl_nilints | exact sl_nilitems | (refine sl_ints (Z4 _) ?_; exact rfl) | (refine sl_items (Z4 _) ?_; exact rfl) | (refine sl_ints0 (Z4 _) ?_; exact rfl) | (refine sl_items0 (Z4 _) ?_; exact rfl))
         · first | assumption | exact Sl.old (by assumption) _ | ((try (simp only [deskV, deskL, Z11, Z12, Z1y, Z1h, Za, Z9, Z7, Zc, Zd, Z6, Z3, Z2, Zf, Zi, Nat.reduceAdd, Zh])); first | exact Sl.old (by assumption) _ | exact sl_nilints | exact sl_nilitems | (refine sl_ints (Z4 _) ?_; exact rfl) | (refine sl_items (Z4 _) ?_; exact rfl) | (refine sl_ints0 (Z4 _) ?_; exact rfl) | (refine sl_items0 (Z4 _) ?_; exact rfl))
         · first | assumption | exact Sl.old (by assumption) _ | ((try (simp only [deskV, deskL, Z11, Z12, Z1y, Z1h, Za, Z9, Z7, Zc, Zd, Z6, Z3, Z2, Zf, Zi, Nat.reduceAdd, Zh])); first | exact Sl.old (by assumption) _ | exact sl_nilints | exact sl_nilitems | (refine sl_ints (Z4 _) ?_; exact rfl) | (refine sl_items (Z4 _) ?_; exact rfl) | (refine sl_ints0 (Z4 _) ?_; exact rfl) | (refine sl_items0 (Z4 _) ?_; exact rfl))
         · first | omega | (simp only [Z2]; omega)
         · first | omega | (simp only [Z2]; omega)
         · first | omega | (simp only [Z2]; omega)
         · first | omega | (simp only [Z2]; omega)
         )
      | (with_reducible refine markDesk_ok ?_ ?_ ?_ ?_ _ _ _ _ _ ?_ ?_ ?_ ?_ ?_ ?_
         rotate_left 4
         · first | assumption | exact Own.old (by assumption) _ | ((try (simp only [deskV, deskL, Z11, Z12, Z1y, Z1h, Za, Z9, Z7, Zc, Zd, Z6, Z3, Z2, Zf, Zi, Nat.reduceAdd, Zh])); first | exact Own.old (by assumption) _ | exact Own.nil _ | (refine Own.at ?_ ?_ (Z4 _); (exact rfl); first | exact ints_flen _ | exact items_flen _ | (simp only [Z34]; done) | (simp only [Z34]; omega)) | (refine Own.at0 ?_ ?_ (Z4 _); (exact rfl); first | exact ints_flen _ | exact items_flen _ | (simp only [Z34]; done) | (simp only [Z34]; omega)))
         · first | assumption | exact Own.old (by assumption) _ | ((try (simp only [deskV, deskL, Z11, Z12, Z1y, Z1h, Za, Z9, Z7, Zc, Zd, Z6, Z3, Z2, Zf, Zi, Nat.reduceAdd, Zh])); first | exact Own.old (by assumption) _ | exact Own.nil _ | (refine Own.at ?_ ?_ (Z4 _); (exact rfl); first | exact ints_flen _ | exact items_flen _ | (simp only [Z34]; done) | (simp only [Z34]; omega)) | (refine Own.at0 ?_ ?_ (Z4 _); (exact rfl); first | exact ints_flen _ | exact items_flen _ | (simp only [Z34]; done) | (simp only [Z34]; omega)))
         · first | exact .inl rfl | (right; simp [bid])
         · first | omega | (simp only [Z2]; omega)
         · first | omega | (simp only [Z2]; omega)
         · first | omega | (simp only [Z2]; omega)
         )
      | (with_reducible refine heldDesk_ok ?_ ?_ _ _ _ _ _ ?_ ?_ ?_ ?_ ?_
         rotate_left 2
         · first | assumption | exact Own.old (by assumption) _ | ((try (simp only [deskV, deskL, Z11, Z12, Z1y, Z1h, Za, Z9, Z7, Zc, Zd, Z6, Z3, Z2, Zf, Zi, Nat.reduceAdd, Zh])); first | exact Own.old (by assumption) _ | exact Own.nil _ | (refine Own.at ?_ ?_ (Z4 _); (exact rfl); first | exact ints_flen _ | exact items_flen _ | (simp only [Z34]; done) | (simp only [Z34]; omega)) | (refine Own.at0 ?_ ?_ (Z4 _); (exact rfl); first | exact ints_flen _ | exact items_flen _ | (simp only [Z34]; done) | (simp only [Z34]; omega)))
         · first | assumption | exact Own.old (by assumption) _ | ((try (simp only [deskV, deskL, Z11, Z12, Z1y, Z1h, Za, Z9, Z7, Zc, Zd, Z6, Z3, Z2, Zf, Zi, Nat.reduceAdd, Zh])); first | exact Own.old (by assumption) _ | exact Own.nil _ | (refine Own.at ?_ ?_ (Z4 _); (exact rfl); first | exact ints_flen _ | exact items_flen _ | (simp only [Z34]; done) | (simp only [Z34]; omega)) | (refine Own.at0 ?_ ?_ (Z4 _); (exact rfl); first | exact ints_flen _ | exact items_flen _ | (simp only [Z34]; done) | (simp only [Z34]; omega)))
         · first | omega | (simp only [Z2]; omega)
         · first | omega | (simp only [Z2]; omega)
         · first | omega | (simp only [Z2]; omega)
         )
      | (with_reducible refine implStepDesk_ok _ people items _ _ _ _ _ _ ?_ ?_ ?_ ?_ ?_
         · first | assumption | exact Sl.old (by assumption) _ | ((try (simp only [deskV, deskL, Z11, Z12, Z1y, Z1h, Za, Z9, Z7, Zc, Zd, Z6, Z3, Z2, Zf, Zi, Nat.reduceAdd, Zh])); first | exact Sl.old (by assumption) _ | exact sl_nilints | exact sl_nilitems | (refine sl_ints (Z4 _) ?_; exact rfl) | (refine sl_items (Z4 _) ?_; exact rfl) | (refine sl_ints0 (Z4 _) ?_; exact rfl) | (refine sl_items0 (Z4 _) ?_; exact rfl))
         · first | assumption | exact Sl.old (by assumption) _ | ((try (simp only [deskV, deskL, Z11, Z12, Z1y, Z1h, Za, Z9, Z7, Zc, Zd, Z6, Z3, Z2, Zf, Zi, Nat.reduceAdd, Zh])); first | exact Sl.old (by assumption) _ | exact sl_nilints | exact sl_nilitems | (refine sl_ints (Z4 _) ?_; exact rfl) | (refine sl_items (Z4 _) ?_; exact rfl) | (refine sl_ints0 (Z4 _) ?_; exact rfl) | (refine sl_items0 (Z4 _) ?_; exact rfl))
         · first | omega | (simp only [Z2]; omega)
         · first | omega | (simp only [Z2]; omega)
         · (simp only [deskL, mset_length, Z6, Z3, Z2, List.length_set]; omega)
         )
      | (with_reducible refine specStepDesk_ok _ people items _ _ _ _ _ ?_ ?_ ?_ ?_ ?_
         · first | assumption | exact Sl.old (by assumption) _ | ((try (simp only [deskV, deskL, Z11, Z12, Z1y, Z1h, Za, Z9, Z7, Zc, Zd, Z6, Z3, Z2, Zf, Zi, Nat.reduceAdd, Zh])); first | exact Sl.old (by assumption) _ | exact sl_nilints | exact sl_nilitems | (refine sl_ints (Z4 _) ?_; exact rfl) | (refine sl_items (Z4 _) ?_; exact rfl) | (refine sl_ints0 (Z4 _) ?_; exact rfl) | (refine sl_items0 (Z4 _) ?_; exact rfl))
         · first | assumption | exact Sl.old (by assumption) _ | ((try (simp only [deskV, deskL, Z11, Z12, Z1y, Z1h, Za, Z9, Z7, Zc, Zd, Z6, Z3, Z2, Zf, Zi, Nat.reduceAdd, Zh])); first | exact Sl.old (by assumption) _ | exact sl_nilints | exact sl_nilitems | (refine sl_ints (Z4 _) ?_; exact rfl) | (refine sl_items (Z4 _) ?_; exact rfl) | (refine sl_ints0 (Z4 _) ?_; exact rfl) | (refine sl_items0 (Z4 _) ?_; exact rfl))
         · first | omega | (simp only [Z2]; omega)
         · first | omega | (simp only [Z2]; omega)
         · (intro i q; simp only [bid, Option.some.injEq] at q; simp only [deskL, mset_length, Z6, Z3, Z2, List.length_set]; omega)
         )
      | (with_reducible exact toDeskAct_ok _ _)
      | ((with_reducible refine Z2w (n := 39) ?_); rintro _ _ ⟨rfl, hh⟩; replace hh := hh.symm; subst hh)
      | ((with_reducible refine Z2w (n := 41) ?_); rintro _ _ ⟨rfl, hh⟩; replace hh := hh.symm; subst hh)
      | ((with_reducible refine Z2w (n := 43) ?_); rintro _ _ ⟨rfl, hh⟩; replace hh := hh.symm; subst hh)
      | ((with_reducible refine Z2w (n := 48) ?_); rintro _ _ ⟨rfl, hh⟩; replace hh := hh.symm; subst hh)
      | ((with_reducible refine Z2w (n := 49) ?_); rintro _ _ ⟨rfl, hh⟩; replace hh := hh.symm; subst hh)
      | ((with_reducible refine Z2w (n := 62) ?_); rintro _ _ ⟨rfl, hh⟩; replace hh := hh.symm; subst hh)
      | ((with_reducible refine Z2w (n := 63) ?_); rintro _ _ ⟨rfl, hh⟩; replace hh := hh.symm; subst hh)
      | ((with_reducible refine Z2w (n := 64) ?_); rintro _ _ ⟨rfl, hh⟩; replace hh := hh.symm; subst hh)
      )
    all_goals first | (exfalso; simp at hb; done) | (exfalso; simp at hb; omega) | skip
    refine ⟨?_⟩
    repeat' (first
      | ((with_reducible refine eq_go ?_); simp only [stp, ev, Zb, Z2e, Z1z, Zk, Zl, reduceIte, Nat.reduceEqDiff, Zj, Zz, Zu, Z16, Z1a, Zm, Zp, Zo, Zd, Zx, Z2b, Z2x, Z1g, Z17, Zq, Zn, Zv, Z2p, Z2f, Z2o, Z2d, Z2g, Z1c, Z1b, Z2i, Z2n, Z2h, Z2j, Z2k, Z2l, Z2m, Z31, Z8, Z5, Z13, Zy, binV_bool_neq, binV_bool_eql, Ty.un4, Ze, Z1, Z0, ldv, stv, vcs, blt, lenV, Z10, Z3, Z2, Zf, Zg, Ze, Z1, Z0, Z14, Zw, Zh, Zr, Z33, Z15, Z7, Zc, Z6, Z3, Z2, Zf, Zi, Nat.reduceAdd, Nat.reduceMul, Nat.reduceLeDiff, Z11, Z12, Z1y, Z1h, Z2c, Z23, Z28, Z27, Z26, Z25, Z24, Z1m, Z1l, Z1k, Z1j, Z1i, Z1w, Z1v, Z1u, Z1t, Z1s, Z32, Z2y, Z2q, Z2r, Z2s, Z20, Z1q, Z1r, Z2z, Z2t, Z21, Z22, splice, Za, Z9, Z1, Z0, Z19, Zt, Zs, Z18, newB, vcs, Z30, Z2v, Z1x, Z29, Z1n, Z2u, Z1o, Z1f, Z1p, Z1d, Z1e, Ty.ld3, Ty.sz3, Ty.zc3, Ty.by3, Ty.ld4, Ty.sz4, Ty.zc4, Ty.by4, Ty.ld24, Ty.sz24, Ty.sl24, Ty.zc24, Ty.by24, Ty.ld51, Ty.sz51, Ty.sl51, Ty.zc51, Ty.by51, Ty.ld53, Ty.sz53, Ty.zc53, Ty.by53, Ty.ld56, Ty.sz56, Ty.sl56, Ty.zc56, Ty.by56, Ty.ld58, Ty.sz58, Ty.zc58, Ty.by58, Ty.ld77, Ty.sz77, Ty.zc77, Ty.by77, Ty.ld80, Ty.sz80, Ty.zc80, Ty.by80, Ty.ld85, Ty.sz85, Ty.zc85, Ty.by85, Ty.ld132, Ty.sz132, Ty.zc132, Ty.by132, DAct.cells_length, DAct.cells_flat, DAct.cells_take, deskV, deskL, stepDV, stepDL, cellsL, Z2x, *]; rfl)
      | (with_reducible refine aw_then ?_) | (with_reducible refine aw_skip ?_) | (with_reducible refine aw_ret ?_) | (with_reducible refine aw_exit ?_) | (with_reducible refine aw_block ?_) | (with_reducible refine xr_reg (by decide +kernel) ?_)
      | (with_reducible refine xr_nil ?_) | (with_reducible refine k_norm ?_) | (with_reducible refine k_ret ?_) | (with_reducible refine k_exit ?_) | (with_reducible refine b_norm ?_) | (with_reducible refine b_ret ?_) | (with_reducible refine b_exit ?_) | (with_reducible refine b_past (by decide) ?_)
      | (with_reducible refine xd_nil ?_)
      | (refine xr_cl (f := ?_) (fs := ?_) (cs := ?_) (args := ?_) (K := ?_) ?_ ?_ ?_ ?_ ?_
         rotate_left 5
         · simp only [ev]; rfl
         first
         | (· with_reducible exact Ty.ok39
            rotate_left 2
            refine Z2a 39 ?_
            rotate_right 2)
         | (· with_reducible exact Ty.ok41
            rotate_left 2
            refine Z2a 41 ?_
            rotate_right 2)
         | (· with_reducible exact Ty.ok43
            rotate_left 2
            refine Z2a 43 ?_
            rotate_right 2)
         | (· with_reducible exact Ty.ok48
            rotate_left 2
            refine Z2a 48 ?_
            rotate_right 2)
         | (· with_reducible exact Ty.ok49
            rotate_left 2
            refine Z2a 49 ?_
            rotate_right 2)
         | (· with_reducible exact Ty.ok62
            rotate_left 2
            refine Z2a 62 ?_
            rotate_right 2)
         | (· with_reducible exact Ty.ok63
            rotate_left 2
            refine Z2a 63 ?_
            rotate_right 2)
         | (· with_reducible exact Ty.ok64
            rotate_left 2
            refine Z2a 64 ?_
            rotate_right 2)
         )
      | (refine xr_gcl (f := ?_) (fs := ?_) (cs := ?_) (args := ?_) (K := ?_) (by exact rfl) ?_ ?_ ?_ ?_ ?_ ?_
         rotate_left 5
         · simp only [ev, Zb, reduceIte, Nat.reduceEqDiff, Z8, Z5, *]
         · simp only [ev]; rfl
         first
         | (· with_reducible exact Ty.ok39
            rotate_left 2
            refine Z2a 39 ?_
            rotate_right 2)
         | (· with_reducible exact Ty.ok41
            rotate_left 2
            refine Z2a 41 ?_
            rotate_right 2)
         | (· with_reducible exact Ty.ok43
            rotate_left 2
            refine Z2a 43 ?_
            rotate_right 2)
         | (· with_reducible exact Ty.ok48
            rotate_left 2
            refine Z2a 48 ?_
            rotate_right 2)
         | (· with_reducible exact Ty.ok49
            rotate_left 2
            refine Z2a 49 ?_
            rotate_right 2)
         | (· with_reducible exact Ty.ok62
            rotate_left 2
            refine Z2a 62 ?_
            rotate_right 2)
         | (· with_reducible exact Ty.ok63
            rotate_left 2
            refine Z2a 63 ?_
            rotate_right 2)
         | (· with_reducible exact Ty.ok64
            rotate_left 2
            refine Z2a 64 ?_
            rotate_right 2)
         )
      | (refine xd_clnew (f := ?_) (fs := ?_) (cs := ?_) (args := ?_) (v := ?_) (L := ?_) ?_ ?_ ?_ ?_ ?_ ?_
         rotate_left 6
         · simp only [ev]; rfl
         · first | with_reducible exact Ty.ok41 | with_reducible exact Ty.ok62 | with_reducible exact Ty.ok63
         rotate_left 1
         · decide +kernel
         rotate_right 1)
      | (refine xd_cl (f := ?_) (fs := ?_) (cs := ?_) (args := ?_) (v := ?_) ?_ ?_ ?_ ?_ ?_ ?_
         rotate_left 5
         · simp only [ev]; rfl
         · first | with_reducible exact Ty.ok39 | with_reducible exact Ty.ok43 | with_reducible exact Ty.ok48 | with_reducible exact Ty.ok49 | with_reducible exact Ty.ok64
         rotate_left 1
         · decide +kernel
         rotate_right 1)
      | (refine xd_gcl (f := ?_) (fs := ?_) (cs := ?_) (args := ?_) (v := ?_) (by exact rfl) ?_ ?_ ?_ ?_ ?_ ?_ ?_
         rotate_left 5
         · simp only [ev, Zb, reduceIte, Nat.reduceEqDiff, Z8, Z5, *]
         · simp only [ev]; rfl
         · first | with_reducible exact Ty.ok39 | with_reducible exact Ty.ok43 | with_reducible exact Ty.ok48 | with_reducible exact Ty.ok49 | with_reducible exact Ty.ok64
         rotate_left 1
         · decide +kernel
         rotate_right 1)
      | (refine xr_do (v := ?_) (h' := ?_) (by exact rfl) ?_ ?_; rotate_left 2)
      | (refine xr_st (v := ?_) (h' := ?_) (by exact rfl) ?_ ?_; rotate_left 2)
      | (refine xe_reg (ms := [0, 1, 0, 7, 15, 31, 63, 63, 63, 0, 639, 1791, 4095]) Ty.mx (by decide +kernel) (by decide +kernel) [[],[],[],[],[],[],[],[],[],[],[h.length + 33],[],[]] ?_)
      | (refine xd_reg (ms := [0, 0, 2, 7, 15, 31, 31, 31, 0, 319, 895, 2047]) Ty.mx (by decide +kernel) (by decide +kernel) ?_)
      | (refine xd_reg (ms := [0, 0, 2, 7, 15]) Ty.mx (by decide +kernel) (by decide +kernel) ?_)
      | (with_reducible refine xe_nil ?_)
      | (refine xe_do (v := ?_) (ids := []) (by exact rfl) (by decide +kernel) (by exact rfl) (by exact rfl) ?_ ?_; rotate_left 1)
      | (refine xe_st (v := ?_) (a := ?_) (h' := ?_) (ids := []) (by decide +kernel) (by exact rfl) ?_ ?_ ?_ ?_ ?_
         rotate_left 3
         · simp only [stp, ev, Zb, Z2e, Z1z, Zk, Zl, reduceIte, Nat.reduceEqDiff, Zj, Zz, Zu, Z16, Z1a, Zm, Zp, Zo, Zd, Zx, Z2b, Z2x, Z1g, Z17, Zq, Zn, Zv, Z2p, Z2f, Z2o, Z2d, Z2g, Z1c, Z1b, Z2i, Z2n, Z2h, Z2j, Z2k, Z2l, Z2m, Z31, Z8, Z5, Z13, Zy, binV_bool_neq, binV_bool_eql, Ty.un4, Ze, Z1, Z0, ldv, stv, vcs, blt, lenV, Z10, Z3, Z2, Zf, Zg, Ze, Z1, Z0, Z14, Zw, Zh, Zr, Z33, Z15, Z7, Zc, Z6, Z3, Z2, Zf, Zi, Nat.reduceAdd, Nat.reduceMul, Nat.reduceLeDiff, Z11, Z12, Z1y, Z1h, Z2c, Z23, Z28, Z27, Z26, Z25, Z24, Z1m, Z1l, Z1k, Z1j, Z1i, Z1w, Z1v, Z1u, Z1t, Z1s, Z32, Z2y, Z2q, Z2r, Z2s, Z20, Z1q, Z1r, Z2z, Z2t, Z21, Z22, splice, Za, Z9, Z1, Z0, Z19, Zt, Zs, Z18, newB, vcs, Z30, Z2v, Z1x, Z29, Z1n, Z2u, Z1o, Z1f, Z1p, Z1d, Z1e, Ty.ld3, Ty.sz3, Ty.zc3, Ty.by3, Ty.ld4, Ty.sz4, Ty.zc4, Ty.by4, Ty.ld24, Ty.sz24, Ty.sl24, Ty.zc24, Ty.by24, Ty.ld51, Ty.sz51, Ty.sl51, Ty.zc51, Ty.by51, Ty.ld53, Ty.sz53, Ty.zc53, Ty.by53, Ty.ld56, Ty.sz56, Ty.sl56, Ty.zc56, Ty.by56, Ty.ld58, Ty.sz58, Ty.zc58, Ty.by58, Ty.ld77, Ty.sz77, Ty.zc77, Ty.by77, Ty.ld80, Ty.sz80, Ty.zc80, Ty.by80, Ty.ld85, Ty.sz85, Ty.zc85, Ty.by85, Ty.ld132, Ty.sz132, Ty.zc132, Ty.by132, DAct.cells_length, DAct.cells_flat, DAct.cells_take, deskV, deskL, stepDV, stepDL, cellsL, Z2x, *]; rfl
         · exact rfl
         · simp
         skip)
      | (refine xe_do (v := ?_) (ids := [h.length + 33]) (by exact rfl) (by decide +kernel) (by exact rfl) (by exact rfl) ?_ ?_; rotate_left 1)
      | (refine xe_st (v := ?_) (a := ?_) (h' := ?_) (ids := [h.length + 33]) (by decide +kernel) (by exact rfl) ?_ ?_ ?_ ?_ ?_
         rotate_left 3
         · simp only [stp, ev, Zb, Z2e, Z1z, Zk, Zl, reduceIte, Nat.reduceEqDiff, Zj, Zz, Zu, Z16, Z1a, Zm, Zp, Zo, Zd, Zx, Z2b, Z2x, Z1g, Z17, Zq, Zn, Zv, Z2p, Z2f, Z2o, Z2d, Z2g, Z1c, Z1b, Z2i, Z2n, Z2h, Z2j, Z2k, Z2l, Z2m, Z31, Z8, Z5, Z13, Zy, binV_bool_neq, binV_bool_eql, Ty.un4, Ze, Z1, Z0, ldv, stv, vcs, blt, lenV, Z10, Z3, Z2, Zf, Zg, Ze, Z1, Z0, Z14, Zw, Zh, Zr, Z33, Z15, Z7, Zc, Z6, Z3, Z2, Zf, Zi, Nat.reduceAdd, Nat.reduceMul, Nat.reduceLeDiff, Z11, Z12, Z1y, Z1h, Z2c, Z23, Z28, Z27, Z26, Z25, Z24, Z1m, Z1l, Z1k, Z1j, Z1i, Z1w, Z1v, Z1u, Z1t, Z1s, Z32, Z2y, Z2q, Z2r, Z2s, Z20, Z1q, Z1r, Z2z, Z2t, Z21, Z22, splice, Za, Z9, Z1, Z0, Z19, Zt, Zs, Z18, newB, vcs, Z30, Z2v, Z1x, Z29, Z1n, Z2u, Z1o, Z1f, Z1p, Z1d, Z1e, Ty.ld3, Ty.sz3, Ty.zc3, Ty.by3, Ty.ld4, Ty.sz4, Ty.zc4, Ty.by4, Ty.ld24, Ty.sz24, Ty.sl24, Ty.zc24, Ty.by24, Ty.ld51, Ty.sz51, Ty.sl51, Ty.zc51, Ty.by51, Ty.ld53, Ty.sz53, Ty.zc53, Ty.by53, Ty.ld56, Ty.sz56, Ty.sl56, Ty.zc56, Ty.by56, Ty.ld58, Ty.sz58, Ty.zc58, Ty.by58, Ty.ld77, Ty.sz77, Ty.zc77, Ty.by77, Ty.ld80, Ty.sz80, Ty.zc80, Ty.by80, Ty.ld85, Ty.sz85, Ty.zc85, Ty.by85, Ty.ld132, Ty.sz132, Ty.zc132, Ty.by132, DAct.cells_length, DAct.cells_flat, DAct.cells_take, deskV, deskL, stepDV, stepDL, cellsL, Z2x, *]; rfl
         · exact rfl
         · simp
         skip)
      | (refine xe_alloc (z := ?_) ?_ ?_ (by exact rfl) ?_
         rotate_left 1
         · first | exact Ty.zc3 | exact Ty.zc4 | exact Ty.zc53 | exact Ty.zc58 | exact Ty.zc80 | exact Ty.zc85
         · decide)
      | (refine xe_pure (ids := []) (f := ?_) (fs := ?_) (cs := ?_) (args := ?_) (v := ?_) ?_ ?_ ?_ (by decide +kernel) (by exact rfl) (by exact rfl) ?_ ?_
         rotate_left 5
         · simp only [ev]; rfl
         · first | with_reducible exact Ty.ok39 | with_reducible exact Ty.ok43 | with_reducible exact Ty.ok48 | with_reducible exact Ty.ok49 | with_reducible exact Ty.ok64
         · simp only [stp, ev, Zb, Z2e, Z1z, Zk, Zl, reduceIte, Nat.reduceEqDiff, Zj, Zz, Zu, Z16, Z1a, Zm, Zp, Zo, Zd, Zx, Z2b, Z2x, Z1g, Z17, Zq, Zn, Zv, Z2p, Z2f, Z2o, Z2d, Z2g, Z1c, Z1b, Z2i, Z2n, Z2h, Z2j, Z2k, Z2l, Z2m, Z31, Z8, Z5, Z13, Zy, binV_bool_neq, binV_bool_eql, Ty.un4, Ze, Z1, Z0, ldv, stv, vcs, blt, lenV, Z10, Z3, Z2, Zf, Zg, Ze, Z1, Z0, Z14, Zw, Zh, Zr, Z33, Z15, Z7, Zc, Z6, Z3, Z2, Zf, Zi, Nat.reduceAdd, Nat.reduceMul, Nat.reduceLeDiff, Z11, Z12, Z1y, Z1h, Z2c, Z23, Z28, Z27, Z26, Z25, Z24, Z1m, Z1l, Z1k, Z1j, Z1i, Z1w, Z1v, Z1u, Z1t, Z1s, Z32, Z2y, Z2q, Z2r, Z2s, Z20, Z1q, Z1r, Z2z, Z2t, Z21, Z22, splice, Za, Z9, Z1, Z0, Z19, Zt, Zs, Z18, newB, vcs, Z30, Z2v, Z1x, Z29, Z1n, Z2u, Z1o, Z1f, Z1p, Z1d, Z1e, Ty.ld3, Ty.sz3, Ty.zc3, Ty.by3, Ty.ld4, Ty.sz4, Ty.zc4, Ty.by4, Ty.ld24, Ty.sz24, Ty.sl24, Ty.zc24, Ty.by24, Ty.ld51, Ty.sz51, Ty.sl51, Ty.zc51, Ty.by51, Ty.ld53, Ty.sz53, Ty.zc53, Ty.by53, Ty.ld56, Ty.sz56, Ty.sl56, Ty.zc56, Ty.by56, Ty.ld58, Ty.sz58, Ty.zc58, Ty.by58, Ty.ld77, Ty.sz77, Ty.zc77, Ty.by77, Ty.ld80, Ty.sz80, Ty.zc80, Ty.by80, Ty.ld85, Ty.sz85, Ty.zc85, Ty.by85, Ty.ld132, Ty.sz132, Ty.zc132, Ty.by132, DAct.cells_length, DAct.cells_flat, DAct.cells_take, deskV, deskL, stepDV, stepDL, cellsL, Z2x, *]; rfl
         · first
           | (with_reducible refine szDesk_ok _ ?_ ?_ _ _ _ _ ?_ ?_ ?_ ?_ ?_
              rotate_left 2
              · first | assumption | exact Sl.old (by assumption) _ | ((try (simp only [deskV, deskL, Z11, Z12, Z1y, Z1h, Za, Z9, Z7, Zc, Zd, Z6, Z3, Z2, Zf, Zi, Nat.reduceAdd, Zh])); first | exact Sl.old (by assumption) _ | exact sl_nilints | exact sl_nilitems | (refine sl_ints (Z4 _) ?_; exact rfl) | (refine sl_items (Z4 _) ?_; exact rfl) | (refine sl_ints0 (Z4 _) ?_; exact rfl) | (refine sl_items0 (Z4 _) ?_; exact rfl))
              · first | assumption | exact Sl.old (by assumption) _ | ((try (simp only [deskV, deskL, Z11, Z12, Z1y, Z1h, Za, Z9, Z7, Zc, Zd, Z6, Z3, Z2, Zf, Zi, Nat.reduceAdd, Zh])); first | exact Sl.old (by assumption) _ | exact sl_nilints | exact sl_nilitems | (refine sl_ints (Z4 _) ?_; exact rfl) | (refine sl_items (Z4 _) ?_; exact rfl) | (refine sl_ints0 (Z4 _) ?_; exact rfl) | (refine sl_items0 (Z4 _) ?_; exact rfl))
              · first | assumption | omega
              · first | assumption | omega
              · first | assumption | omega
              )
           | (with_reducible refine eqDesk_ok _ _ ?_ ?_ ?_ ?_ _ _ _ _ _ ?_ ?_ ?_ ?_ ?_ ?_ ?_ ?_
              rotate_left 4
              · first | assumption | exact Sl.old (by assumption) _ | ((try (simp only [deskV, deskL, Z11, Z12, Z1y, Z1h, Za, Z9, Z7, Zc, Zd, Z6, Z3, Z2, Zf, Zi, Nat.reduceAdd, Zh])); first | exact Sl.old (by assumption) _ | exact sl_nilints | exact sl_nilitems | (refine sl_ints (Z4 _) ?_; exact rfl) | (refine sl_items (Z4 _) ?_; exact rfl) | (refine sl_ints0 (Z4 _) ?_; exact rfl) | (refine sl_items0 (Z4 _) ?_; exact rfl))
              · first | assumption | exact Sl.old (by assumption) _ | ((try (simp only [deskV, deskL, Z11, Z12, Z1y, Z1h, Za, Z9, Z7, Zc, Zd, Z6, Z3, Z2, Zf, Zi, Nat.reduceAdd, Zh])); first | exact Sl.old (by assumption) _ | exact sl_nilints | exact sl_nilitems | (refine sl_ints (Z4 _) ?_; exact rfl) | (refine sl_items (Z4 _) ?_; exact rfl) | (refine sl_ints0 (Z4 _) ?_; exact rfl) | (refine sl_items0 (Z4 _) ?_; exact rfl))
              · first | assumption | exact Sl.old (by assumption) _ | ((try (simp only [deskV, deskL, Z11, Z12, Z1y, Z1h, Za, Z9, Z7, Zc, Zd, Z6, Z3, Z2, Zf, Zi, Nat.reduceAdd, Zh])); first | exact Sl.old (by assumption) _ | exact sl_nilints | exact sl_nilitems | (refine sl_ints (Z4 _) ?_; exact rfl) | (refine sl_items (Z4 _) ?_; exact rfl) | (refine sl_ints0 (Z4 _) ?_; exact rfl) | (refine sl_items0 (Z4 _) ?_; exact rfl))
              · first | assumption | exact Sl.old (by assumption) _ | ((try (simp only [deskV, deskL, Z11, Z12, Z1y, Z1h, Za, Z9, Z7, Zc, Zd, Z6, Z3, Z2, Zf, Zi, Nat.reduceAdd, Zh])); first | exact Sl.old (by assumption) _ | exact sl_nilints | exact sl_nilitems | (refine sl_ints (Z4 _) ?_; exact rfl) | (refine sl_items (Z4 _) ?_; exact rfl) | (refine sl_ints0 (Z4 _) ?_; exact rfl) | (refine sl_items0 (Z4 _) ?_; exact rfl))
              · omega
              · omega
              · omega
              · omega
              )
           | (with_reducible refine markDesk_ok ?_ ?_ ?_ ?_ _ _ _ _ _ ?_ ?_ ?_ ?_ ?_ ?_
              rotate_left 4
              · first | assumption | exact Own.old (by assumption) _ | ((try (simp only [deskV, deskL, Z11, Z12, Z1y, Z1h, Za, Z9, Z7, Zc, Zd, Z6, Z3, Z2, Zf, Zi, Nat.reduceAdd, Zh])); first | exact Own.old (by assumption) _ | exact Own.nil _ | (refine Own.at ?_ ?_ (Z4 _); (exact rfl); first | exact ints_flen _ | exact items_flen _ | (simp only [Z34]; done) | (simp only [Z34]; omega)) | (refine Own.at0 ?_ ?_ (Z4 _); (exact rfl); first | exact ints_flen _ | exact items_flen _ | (simp only [Z34]; done) | (simp only [Z34]; omega)))
              · first | assumption | exact Own.old (by assumption) _ | ((try (simp only [deskV, deskL, Z11, Z12, Z1y, Z1h, Za, Z9, Z7, Zc, Zd, Z6, Z3, Z2, Zf, Zi, Nat.reduceAdd, Zh])); first | exact Own.old (by assumption) _ | exact Own.nil _ | (refine Own.at ?_ ?_ (Z4 _); (exact rfl); first | exact ints_flen _ | exact items_flen _ | (simp only [Z34]; done) | (simp only [Z34]; omega)) | (refine Own.at0 ?_ ?_ (Z4 _); (exact rfl); first | exact ints_flen _ | exact items_flen _ | (simp only [Z34]; done) | (simp only [Z34]; omega)))
              · first | exact .inl rfl | (right; simp [bid])
              · omega
              · omega
              · omega
              )
           | (with_reducible refine heldDesk_ok ?_ ?_ _ _ _ _ _ ?_ ?_ ?_ ?_ ?_
              rotate_left 2
              · first | assumption | exact Own.old (by assumption) _ | ((try (simp only [deskV, deskL, Z11, Z12, Z1y, Z1h, Za, Z9, Z7, Zc, Zd, Z6, Z3, Z2, Zf, Zi, Nat.reduceAdd, Zh])); first | exact Own.old (by assumption) _ | exact Own.nil _ | (refine Own.at ?_ ?_ (Z4 _); (exact rfl); first | exact ints_flen _ | exact items_flen _ | (simp only [Z34]; done) | (simp only [Z34]; omega)) | (refine Own.at0 ?_ ?_ (Z4 _); (exact rfl); first | exact ints_flen _ | exact items_flen _ | (simp only [Z34]; done) | (simp only [Z34]; omega)))
              · first | assumption | exact Own.old (by assumption) _ | ((try (simp only [deskV, deskL, Z11, Z12, Z1y, Z1h, Za, Z9, Z7, Zc, Zd, Z6, Z3, Z2, Zf, Zi, Nat.reduceAdd, Zh])); first | exact Own.old (by assumption) _ | exact Own.nil _ | (refine Own.at ?_ ?_ (Z4 _); (exact rfl); first | exact ints_flen _ | exact items_flen _ | (simp only [Z34]; done) | (simp only [Z34]; omega)) | (refine Own.at0 ?_ ?_ (Z4 _); (exact rfl); first | exact ints_flen _ | exact items_flen _ | (simp only [Z34]; done) | (simp only [Z34]; omega)))
              · omega
              · omega
              · omega
              )
           | (with_reducible refine toDeskAct_ok _ _
              )
         skip)
      | (refine xe_cl (f := ?_) (fs := ?_) (cs := ?_) (args := ?_) (v := ?_) (ids := []) (L := ?_) (a := true) ?_ ?_ ?_ (by decide +kernel) (by exact rfl) (by exact rfl) (fun q => by cases q) ?_ ?_
         rotate_left 6
         · simp only [ev]; rfl
         · first | with_reducible exact Ty.ok41 | with_reducible exact Ty.ok62 | with_reducible exact Ty.ok63
         · simp only [stp, ev, Zb, Z2e, Z1z, Zk, Zl, reduceIte, Nat.reduceEqDiff, Zj, Zz, Zu, Z16, Z1a, Zm, Zp, Zo, Zd, Zx, Z2b, Z2x, Z1g, Z17, Zq, Zn, Zv, Z2p, Z2f, Z2o, Z2d, Z2g, Z1c, Z1b, Z2i, Z2n, Z2h, Z2j, Z2k, Z2l, Z2m, Z31, Z8, Z5, Z13, Zy, binV_bool_neq, binV_bool_eql, Ty.un4, Ze, Z1, Z0, ldv, stv, vcs, blt, lenV, Z10, Z3, Z2, Zf, Zg, Ze, Z1, Z0, Z14, Zw, Zh, Zr, Z33, Z15, Z7, Zc, Z6, Z3, Z2, Zf, Zi, Nat.reduceAdd, Nat.reduceMul, Nat.reduceLeDiff, Z11, Z12, Z1y, Z1h, Z2c, Z23, Z28, Z27, Z26, Z25, Z24, Z1m, Z1l, Z1k, Z1j, Z1i, Z1w, Z1v, Z1u, Z1t, Z1s, Z32, Z2y, Z2q, Z2r, Z2s, Z20, Z1q, Z1r, Z2z, Z2t, Z21, Z22, splice, Za, Z9, Z1, Z0, Z19, Zt, Zs, Z18, newB, vcs, Z30, Z2v, Z1x, Z29, Z1n, Z2u, Z1o, Z1f, Z1p, Z1d, Z1e, Ty.ld3, Ty.sz3, Ty.zc3, Ty.by3, Ty.ld4, Ty.sz4, Ty.zc4, Ty.by4, Ty.ld24, Ty.sz24, Ty.sl24, Ty.zc24, Ty.by24, Ty.ld51, Ty.sz51, Ty.sl51, Ty.zc51, Ty.by51, Ty.ld53, Ty.sz53, Ty.zc53, Ty.by53, Ty.ld56, Ty.sz56, Ty.sl56, Ty.zc56, Ty.by56, Ty.ld58, Ty.sz58, Ty.zc58, Ty.by58, Ty.ld77, Ty.sz77, Ty.zc77, Ty.by77, Ty.ld80, Ty.sz80, Ty.zc80, Ty.by80, Ty.ld85, Ty.sz85, Ty.zc85, Ty.by85, Ty.ld132, Ty.sz132, Ty.zc132, Ty.by132, DAct.cells_length, DAct.cells_flat, DAct.cells_take, deskV, deskL, stepDV, stepDL, cellsL, Z2x, *]; rfl
         · simp only [Z2c]
           first
           | (with_reducible refine toDesk_ok _ ?_ ?_ _ _ _ ?_ ?_ ?_ ?_
              rotate_left 2
              · first | assumption | exact Sl.old (by assumption) _ | ((try (simp only [deskV, deskL, Z11, Z12, Z1y, Z1h, Za, Z9, Z7, Zc, Zd, Z6, Z3, Z2, Zf, Zi, Nat.reduceAdd, Zh])); first | exact Sl.old (by assumption) _ | exact sl_nilints | exact sl_nilitems | (refine sl_ints (Z4 _) ?_; exact rfl) | (refine sl_items (Z4 _) ?_; exact rfl) | (refine sl_ints0 (Z4 _) ?_; exact rfl) | (refine sl_items0 (Z4 _) ?_; exact rfl))
              · first | assumption | exact Sl.old (by assumption) _ | ((try (simp only [deskV, deskL, Z11, Z12, Z1y, Z1h, Za, Z9, Z7, Zc, Zd, Z6, Z3, Z2, Zf, Zi, Nat.reduceAdd, Zh])); first | exact Sl.old (by assumption) _ | exact sl_nilints | exact sl_nilitems | (refine sl_ints (Z4 _) ?_; exact rfl) | (refine sl_items (Z4 _) ?_; exact rfl) | (refine sl_ints0 (Z4 _) ?_; exact rfl) | (refine sl_items0 (Z4 _) ?_; exact rfl))
              · omega
              · omega
              )
           | (with_reducible refine implStepDesk_ok _ people items _ _ _ _ _ _ ?_ ?_ ?_ ?_ ?_
              · first | assumption | exact Sl.old (by assumption) _ | ((try (simp only [deskV, deskL, Z11, Z12, Z1y, Z1h, Za, Z9, Z7, Zc, Zd, Z6, Z3, Z2, Zf, Zi, Nat.reduceAdd, Zh])); first | exact Sl.old (by assumption) _ | exact sl_nilints | exact sl_nilitems | (refine sl_ints (Z4 _) ?_; exact rfl) | (refine sl_items (Z4 _) ?_; exact rfl) | (refine sl_ints0 (Z4 _) ?_; exact rfl) | (refine sl_items0 (Z4 _) ?_; exact rfl))
              · first | assumption | exact Sl.old (by assumption) _ | ((try (simp only [deskV, deskL, Z11, Z12, Z1y, Z1h, Za, Z9, Z7, Zc, Zd, Z6, Z3, Z2, Zf, Zi, Nat.reduceAdd, Zh])); first | exact Sl.old (by assumption) _ | exact sl_nilints | exact sl_nilitems | (refine sl_ints (Z4 _) ?_; exact rfl) | (refine sl_items (Z4 _) ?_; exact rfl) | (refine sl_ints0 (Z4 _) ?_; exact rfl) | (refine sl_items0 (Z4 _) ?_; exact rfl))
              · omega
              · omega
              · (simp only [deskL, mset_length, Z6, Z3, Z2, List.length_set]; omega)
              )
           | (with_reducible refine specStepDesk_ok _ people items _ _ _ _ _ ?_ ?_ ?_ ?_ ?_
              · first | assumption | exact Sl.old (by assumption) _ | ((try (simp only [deskV, deskL, Z11, Z12, Z1y, Z1h, Za, Z9, Z7, Zc, Zd, Z6, Z3, Z2, Zf, Zi, Nat.reduceAdd, Zh])); first | exact Sl.old (by assumption) _ | exact sl_nilints | exact sl_nilitems | (refine sl_ints (Z4 _) ?_; exact rfl) | (refine sl_items (Z4 _) ?_; exact rfl) | (refine sl_ints0 (Z4 _) ?_; exact rfl) | (refine sl_items0 (Z4 _) ?_; exact rfl))
              · first | assumption | exact Sl.old (by assumption) _ | ((try (simp only [deskV, deskL, Z11, Z12, Z1y, Z1h, Za, Z9, Z7, Zc, Zd, Z6, Z3, Z2, Zf, Zi, Nat.reduceAdd, Zh])); first | exact Sl.old (by assumption) _ | exact sl_nilints | exact sl_nilitems | (refine sl_ints (Z4 _) ?_; exact rfl) | (refine sl_items (Z4 _) ?_; exact rfl) | (refine sl_ints0 (Z4 _) ?_; exact rfl) | (refine sl_items0 (Z4 _) ?_; exact rfl))
              · omega
              · omega
              · (intro i q; simp only [bid, Option.some.injEq] at q; simp only [deskL, mset_length, Z6, Z3, Z2, List.length_set]; omega)
              )
         skip)
      | (refine xe_free (X := ?_) (Y := ?_) (ids := []) (v := ?_) (by exact rfl) (by exact rfl) ?_ (by exact rfl) ?_ ?_ ?_
         rotate_left 2
         · exact rfl
         · (try simp only [outL_cons, outL_nil]); simp only [Z2c, stp, ev, Zb, Z2e, Z1z, Zk, Zl, reduceIte, Nat.reduceEqDiff, Zj, Zz, Zu, Z16, Z1a, Zm, Zp, Zo, Zd, Zx, Z2b, Z2x, Z1g, Z17, Zq, Zn, Zv, Z2p, Z2f, Z2o, Z2d, Z2g, Z1c, Z1b, Z2i, Z2n, Z2h, Z2j, Z2k, Z2l, Z2m, Z31, Z8, Z5, Z13, Zy, binV_bool_neq, binV_bool_eql, Ty.un4, Ze, Z1, Z0, ldv, stv, vcs, blt, lenV, Z10, Z3, Z2, Zf, Zg, Ze, Z1, Z0, Z14, Zw, Zh, Zr, Z33, Z15, Z7, Zc, Z6, Z3, Z2, Zf, Zi, Nat.reduceAdd, Nat.reduceMul, Nat.reduceLeDiff, Z11, Z12, Z1y, Z1h, Z2c, Z23, Z28, Z27, Z26, Z25, Z24, Z1m, Z1l, Z1k, Z1j, Z1i, Z1w, Z1v, Z1u, Z1t, Z1s, Z32, Z2y, Z2q, Z2r, Z2s, Z20, Z1q, Z1r, Z2z, Z2t, Z21, Z22, splice, Za, Z9, Z1, Z0, Z19, Zt, Zs, Z18, newB, vcs, Z30, Z2v, Z1x, Z29, Z1n, Z2u, Z1o, Z1f, Z1p, Z1d, Z1e, Ty.ld3, Ty.sz3, Ty.zc3, Ty.by3, Ty.ld4, Ty.sz4, Ty.zc4, Ty.by4, Ty.ld24, Ty.sz24, Ty.sl24, Ty.zc24, Ty.by24, Ty.ld51, Ty.sz51, Ty.sl51, Ty.zc51, Ty.by51, Ty.ld53, Ty.sz53, Ty.zc53, Ty.by53, Ty.ld56, Ty.sz56, Ty.sl56, Ty.zc56, Ty.by56, Ty.ld58, Ty.sz58, Ty.zc58, Ty.by58, Ty.ld77, Ty.sz77, Ty.zc77, Ty.by77, Ty.ld80, Ty.sz80, Ty.zc80, Ty.by80, Ty.ld85, Ty.sz85, Ty.zc85, Ty.by85, Ty.ld132, Ty.sz132, Ty.zc132, Ty.by132, DAct.cells_length, DAct.cells_flat, DAct.cells_take, deskV, deskL, stepDV, stepDL, cellsL, Z2x, *]; rfl
         · (first | exact ids_af (DAct.af _))
         skip)
      | (refine xe_free (X := ?_) (Y := ?_) (ids := []) (v := ?_) (by exact rfl) (by exact rfl) ?_ (by exact rfl) ?_ ?_ ?_
         rotate_left 2
         · exact Z7 _ _ _
         · (try simp only [outL_cons, outL_nil]); simp only [Z2c, stp, ev, Zb, Z2e, Z1z, Zk, Zl, reduceIte, Nat.reduceEqDiff, Zj, Zz, Zu, Z16, Z1a, Zm, Zp, Zo, Zd, Zx, Z2b, Z2x, Z1g, Z17, Zq, Zn, Zv, Z2p, Z2f, Z2o, Z2d, Z2g, Z1c, Z1b, Z2i, Z2n, Z2h, Z2j, Z2k, Z2l, Z2m, Z31, Z8, Z5, Z13, Zy, binV_bool_neq, binV_bool_eql, Ty.un4, Ze, Z1, Z0, ldv, stv, vcs, blt, lenV, Z10, Z3, Z2, Zf, Zg, Ze, Z1, Z0, Z14, Zw, Zh, Zr, Z33, Z15, Z7, Zc, Z6, Z3, Z2, Zf, Zi, Nat.reduceAdd, Nat.reduceMul, Nat.reduceLeDiff, Z11, Z12, Z1y, Z1h, Z2c, Z23, Z28, Z27, Z26, Z25, Z24, Z1m, Z1l, Z1k, Z1j, Z1i, Z1w, Z1v, Z1u, Z1t, Z1s, Z32, Z2y, Z2q, Z2r, Z2s, Z20, Z1q, Z1r, Z2z, Z2t, Z21, Z22, splice, Za, Z9, Z1, Z0, Z19, Zt, Zs, Z18, newB, vcs, Z30, Z2v, Z1x, Z29, Z1n, Z2u, Z1o, Z1f, Z1p, Z1d, Z1e, Ty.ld3, Ty.sz3, Ty.zc3, Ty.by3, Ty.ld4, Ty.sz4, Ty.zc4, Ty.by4, Ty.ld24, Ty.sz24, Ty.sl24, Ty.zc24, Ty.by24, Ty.ld51, Ty.sz51, Ty.sl51, Ty.zc51, Ty.by51, Ty.ld53, Ty.sz53, Ty.zc53, Ty.by53, Ty.ld56, Ty.sz56, Ty.sl56, Ty.zc56, Ty.by56, Ty.ld58, Ty.sz58, Ty.zc58, Ty.by58, Ty.ld77, Ty.sz77, Ty.zc77, Ty.by77, Ty.ld80, Ty.sz80, Ty.zc80, Ty.by80, Ty.ld85, Ty.sz85, Ty.zc85, Ty.by85, Ty.ld132, Ty.sz132, Ty.zc132, Ty.by132, DAct.cells_length, DAct.cells_flat, DAct.cells_take, deskV, deskL, stepDV, stepDL, cellsL, Z2x, *]; rfl
         · (first | exact ids_af (DAct.af _))
         skip)
      | (refine xe_free (X := ?_) (Y := ?_) (ids := []) (v := ?_) (by exact rfl) (by exact rfl) ?_ (by exact rfl) ?_ ?_ ?_
         rotate_left 2
         · exact (Z7 _ _ _).symm
         · (try simp only [outL_cons, outL_nil]); simp only [Z2c, stp, ev, Zb, Z2e, Z1z, Zk, Zl, reduceIte, Nat.reduceEqDiff, Zj, Zz, Zu, Z16, Z1a, Zm, Zp, Zo, Zd, Zx, Z2b, Z2x, Z1g, Z17, Zq, Zn, Zv, Z2p, Z2f, Z2o, Z2d, Z2g, Z1c, Z1b, Z2i, Z2n, Z2h, Z2j, Z2k, Z2l, Z2m, Z31, Z8, Z5, Z13, Zy, binV_bool_neq, binV_bool_eql, Ty.un4, Ze, Z1, Z0, ldv, stv, vcs, blt, lenV, Z10, Z3, Z2, Zf, Zg, Ze, Z1, Z0, Z14, Zw, Zh, Zr, Z33, Z15, Z7, Zc, Z6, Z3, Z2, Zf, Zi, Nat.reduceAdd, Nat.reduceMul, Nat.reduceLeDiff, Z11, Z12, Z1y, Z1h, Z2c, Z23, Z28, Z27, Z26, Z25, Z24, Z1m, Z1l, Z1k, Z1j, Z1i, Z1w, Z1v, Z1u, Z1t, Z1s, Z32, Z2y, Z2q, Z2r, Z2s, Z20, Z1q, Z1r, Z2z, Z2t, Z21, Z22, splice, Za, Z9, Z1, Z0, Z19, Zt, Zs, Z18, newB, vcs, Z30, Z2v, Z1x, Z29, Z1n, Z2u, Z1o, Z1f, Z1p, Z1d, Z1e, Ty.ld3, Ty.sz3, Ty.zc3, Ty.by3, Ty.ld4, Ty.sz4, Ty.zc4, Ty.by4, Ty.ld24, Ty.sz24, Ty.sl24, Ty.zc24, Ty.by24, Ty.ld51, Ty.sz51, Ty.sl51, Ty.zc51, Ty.by51, Ty.ld53, Ty.sz53, Ty.zc53, Ty.by53, Ty.ld56, Ty.sz56, Ty.sl56, Ty.zc56, Ty.by56, Ty.ld58, Ty.sz58, Ty.zc58, Ty.by58, Ty.ld77, Ty.sz77, Ty.zc77, Ty.by77, Ty.ld80, Ty.sz80, Ty.zc80, Ty.by80, Ty.ld85, Ty.sz85, Ty.zc85, Ty.by85, Ty.ld132, Ty.sz132, Ty.zc132, Ty.by132, DAct.cells_length, DAct.cells_flat, DAct.cells_take, deskV, deskL, stepDV, stepDL, cellsL, Z2x, *]; rfl
         · (first | exact ids_af (DAct.af _))
         skip)
      | (refine xd_do (v := ?_) (by exact rfl) (by decide +kernel) ?_ ?_; rotate_left 1)
      | (refine xd_gdo (v := ?_) (by exact rfl) (by decide +kernel) (by exact rfl) ?_ ?_ ?_
         rotate_left 1
         · simp only [ev, Zb, reduceIte, Nat.reduceEqDiff, Z8, Z5, *])
      | (refine xd_goff (by exact rfl) ?_ ?_
         · simp only [ev, Zb, reduceIte, Nat.reduceEqDiff, Z8, Z5, *])
      | (refine xd_gund (by exact rfl) ?_ ?_
         · simp only [ev, Zb, reduceIte, Nat.reduceEqDiff, Z8, Z5, *])
      | (refine xd_gif (b := ?_) (by exact rfl) ?_ (fun hb => ?_) (fun hb => ?_)
         rotate_left 1
         · simp only [ev, Zb, reduceIte, Nat.reduceEqDiff, Z8, Z5, *]; rfl)
      | (refine xr_gdo (v := ?_) (h' := ?_) (by exact rfl) (by exact rfl) ?_ ?_ ?_
         rotate_left 2
         · simp only [ev, Zb, reduceIte, Nat.reduceEqDiff, Z8, Z5, *])
      | (refine xr_gst (v := ?_) (h' := ?_) (by exact rfl) (by exact rfl) ?_ ?_ ?_
         rotate_left 2
         · simp only [ev, Zb, reduceIte, Nat.reduceEqDiff, Z8, Z5, *])
      | (refine xr_goff (by exact rfl) ?_ ?_
         · simp only [ev, Zb, reduceIte, Nat.reduceEqDiff, Z8, Z5, *])
      | (refine xr_gsoff (by exact rfl) ?_ ?_
         · simp only [ev, Zb, reduceIte, Nat.reduceEqDiff, Z8, Z5, *])
      | (refine xr_gund (by exact rfl) ?_ ?_
         · simp only [ev, Zb, reduceIte, Nat.reduceEqDiff, Z8, Z5, *])
      | (refine xr_gsund (by exact rfl) ?_ ?_
         · simp only [ev, Zb, reduceIte, Nat.reduceEqDiff, Z8, Z5, *])
      | (refine xr_gif (b := ?_) (by exact rfl) ?_ (fun hb => ?_) (fun hb => ?_)
         rotate_left 1
         · simp only [ev, Zb, reduceIte, Nat.reduceEqDiff, Z8, Z5, *]; rfl)
      | (refine aw_ift (by decide) ?_ ?_
         · simp only [ev, Zb, reduceIte, Nat.reduceEqDiff, *])
      | (refine aw_iff (by decide) ?_ ?_
         · simp only [ev, Zb, reduceIte, Nat.reduceEqDiff, *])
      | (refine aw_if (b := ?_) (by decide) ?_ (fun hb => ?_) (fun hb => ?_)
         rotate_left 1
         · simp only [ev, Zb, reduceIte, Nat.reduceEqDiff, *]; rfl)
      | (refine r_ret (vs := ?_) ?_ ?_
         rotate_left 1
         · simp only [resV, ev, Zb, reduceIte, Nat.reduceEqDiff, Zj, *]; rfl)
      | (with_reducible refine szDesk_ok _ ?_ ?_ _ _ _ _ ?_ ?_ ?_ ?_ ?_
         rotate_left 2
         · first | assumption | exact Sl.old (by assumption) _ | ((try (simp only [deskV, deskL, Z11, Z12, Z1y, Z1h, Za, Z9, Z7, Zc, Zd, Z6, Z3, Z2, Zf, Zi, Nat.reduceAdd, Zh])); first | exact Sl.old (by assumption) _ | exact sl_nilints | exact sl_nilitems | (refine sl_ints (Z4 _) ?_; exact rfl) | (refine sl_items (Z4 _) ?_; exact rfl) | (refine sl_ints0 (Z4 _) ?_; exact rfl) | (refine sl_items0 (Z4 _) ?_; exact rfl))
         · first | assumption | exact Sl.old (by assumption) _ | ((try (simp only [deskV, deskL, Z11, Z12, Z1y, Z1h, Za, Z9, Z7, Zc, Zd, Z6, Z3, Z2, Zf, Zi, Nat.reduceAdd, Zh])); first | exact Sl.old (by assumption) _ | exact sl_nilints | exact sl_nilitems | (refine sl_ints (Z4 _) ?_; exact rfl) | (refine sl_items (Z4 _) ?_; exact rfl) | (refine sl_ints0 (Z4 _) ?_; exact rfl) | (refine sl_items0 (Z4 _) ?_; exact rfl))
         · first | assumption | omega
         · first | assumption | omega
         · first | assumption | omega
         )
      | (with_reducible refine toDesk_ok _ ?_ ?_ _ _ _ ?_ ?_ ?_ ?_
         rotate_left 2
         · first | assumption | exact Sl.old (by assumption) _ | ((try (simp only [deskV, deskL, Z11, Z12, Z1y, Z1h, Za, Z9, Z7, Zc, Zd, Z6, Z3, Z2, Zf, Zi, Nat.reduceAdd, Zh])); first | exact Sl.old (by assumption) _ | exact sl_nilints | exact sl_nilitems | (refine sl_ints (Z4 _) ?_; exact rfl) | (refine sl_items (Z4 _) ?_; exact rfl) | (refine sl_ints0 (Z4 _) ?_; exact rfl) | (refine sl_items0 (Z4 _) ?_; exact rfl))
         · first | assumption | exact Sl.old (by assumption) _ | ((try (simp only [deskV, deskL, Z11, Z12, Z1y, Z1h, Za, Z9, Z7, Zc, Zd, Z6, Z3, Z2, Zf, Zi, Nat.reduceAdd, Zh])); first | exact Sl.old (by assumption) _ | exact sl_nilints | exact sl_nilitems | (refine sl_ints (Z4 _) ?_; exact rfl) | (refine sl_items (Z4 _) ?_; exact rfl) | (refine sl_ints0 (Z4 _) ?_; exact rfl) | (refine sl_items0 (Z4 _) ?_; exact rfl))
         · first | omega | (simp only [Z2]; omega)
         · first | omega | (simp only [Z2]; omega)
         )
      | (with_reducible refine eqDesk_ok _ _ ?_ ?_ ?_ ?_ _ _ _ _ _ ?_ ?_ ?_ ?_ ?_ ?_ ?_ ?_
         rotate_left 4
         · first | assumption | exact Sl.old (by assumption) _ | ((try (simp only [deskV, deskL, Z11, Z12, Z1y, Z1h, Za, Z9, Z7, Zc, Zd, Z6, Z3, Z2, Zf, Zi, Nat.reduceAdd, Zh])); first | exact Sl.old (by assumption) _ | exact sl_nilints | exact sl_nilitems | (refine sl_ints (Z4 _) ?_; exact rfl) | (refine sl_items (Z4 _) ?_; exact rfl) | (refine sl_ints0 (Z4 _) ?_; exact rfl) | (refine sl_items0 (Z4 _) ?_; exact rfl))
         · first | assumption | exact Sl.old (by assumption) _ | ((try (simp only [deskV, deskL, Z11, Z12, Z1y, Z1h, Za, Z9, Z7, Zc, Zd, Z6, Z3, Z2, Zf, Zi, Nat.reduceAdd, Zh])); first | exact Sl.old (by assumption) _ | exact sl_nilints | exact sl_nilitems | (refine sl_ints (Z4 _) ?_; exact rfl) | (refine sl_items (Z4 _) ?_; exact rfl) | (refine sl_ints0 (Z4 _) ?_; exact rfl) | (refine sl_items0 (Z4 _) ?_; exact rfl))
         · first | assumption | exact Sl.old (by assumption) _ | ((try (simp only [deskV, deskL, Z11, Z12, Z1y, Z1h, Za, Z9, Z7, Zc, Zd, Z6, Z3, Z2, Zf, Zi, Nat.reduceAdd, Zh])); first | exact Sl.old (by assumption) _ | exact sl_nilints | exact sl_nilitems | (refine sl_ints (Z4 _) ?_; exact rfl) | (refine sl_items (Z4 _) ?_; exact rfl) | (refine sl_ints0 (Z4 _) ?_; exact rfl) | (refine sl_items0 (Z4 _) ?_; exact rfl))
         · first | assumption | exact Sl.old (by assumption) _ | ((try (simp only [deskV, deskL, Z11, Z12, Z1y, Z1h, Za, Z9, Z7, Zc, Zd, Z6, Z3, Z2, Zf, Zi, Nat.reduceAdd, Zh])); first | exact Sl.old (by assumption) _ | exact sl_nilints | exact sl_nilitems | (refine sl_ints (Z4 _) ?_; exact rfl) | (refine sl_items (Z4 _) ?_; exact rfl) | (refine sl_ints0 (Z4 _) ?_; exact rfl) | (refine sl_items0 (Z4 _) ?_; exact rfl))
         · first | omega | (simp only [Z2]; omega)
         · first | omega | (simp only [Z2]; omega)
         · first | omega | (simp only [Z2]; omega)
         · first | omega | (simp only [Z2]; omega)
         )
      | (with_reducible refine markDesk_ok ?_ ?_ ?_ ?_ _ _ _ _ _ ?_ ?_ ?_ ?_ ?_ ?_
         rotate_left 4
         · first | assumption | exact Own.old (by assumption) _ | ((try (simp only [deskV, deskL, Z11, Z12, Z1y, Z1h, Za, Z9, Z7, Zc, Zd, Z6, Z3, Z2, Zf, Zi, Nat.reduceAdd, Zh])); first | exact Own.old (by assumption) _ | exact Own.nil _ | (refine Own.at ?_ ?_ (Z4 _); (exact rfl); first | exact ints_flen _ | exact items_flen _ | (simp only [Z34]; done) | (simp only [Z34]; omega)) | (refine Own.at0 ?_ ?_ (Z4 _); (exact rfl); first | exact ints_flen _ | exact items_flen _ | (simp only [Z34]; done) | (simp only [Z34]; omega)))
         · first | assumption | exact Own.old (by assumption) _ | ((try (simp only [deskV, deskL, Z11, Z12, Z1y, Z1h, Za, Z9, Z7, Zc, Zd, Z6, Z3, Z2, Zf, Zi, Nat.reduceAdd, Zh])); first | exact Own.old (by assumption) _ | exact Own.nil _ | (refine Own.at ?_ ?_ (Z4 _); (exact rfl); first | exact ints_flen _ | exact items_flen _ | (simp only [Z34]; done) | (simp only [Z34]; omega)) | (refine Own.at0 ?_ ?_ (Z4 _); (exact rfl); first | exact ints_flen _ | exact items_flen _ | (simp only [Z34]; done) | (simp only [Z34]; omega)))
         · first | exact .inl rfl | (right; simp [bid])
         · first | omega | (simp only [Z2]; omega)
         · first | omega | (simp only [Z2]; omega)
         · first | omega | (simp only [Z2]; omega)
         )
      | (with_reducible refine heldDesk_ok ?_ ?_ _ _ _ _ _ ?_ ?_ ?_ ?_ ?_
         rotate_left 2
         · first | assumption | exact Own.old (by assumption) _ | ((try (simp only [deskV, deskL, Z11, Z12, Z1y, Z1h, Za, Z9, Z7, Zc, Zd, Z6, Z3, Z2, Zf, Zi, Nat.reduceAdd, Zh])); first | exact Own.old (by assumption) _ | exact Own.nil _ | (refine Own.at ?_ ?_ (Z4 _); (exact rfl); first | exact ints_flen _ | exact items_flen _ | (simp only [Z34]; done) | (simp only [Z34]; omega)) | (refine Own.at0 ?_ ?_ (Z4 _); (exact rfl); first | exact ints_flen _ | exact items_flen _ | (simp only [Z34]; done) | (simp only [Z34]; omega)))
         · first | assumption | exact Own.old (by assumption) _ | ((try (simp only [deskV, deskL, Z11, Z12, Z1y, Z1h, Za, Z9, Z7, Zc, Zd, Z6, Z3, Z2, Zf, Zi, Nat.reduceAdd, Zh])); first | exact Own.old (by assumption) _ | exact Own.nil _ | (refine Own.at ?_ ?_ (Z4 _); (exact rfl); first | exact ints_flen _ | exact items_flen _ | (simp only [Z34]; done) | (simp only [Z34]; omega)) | (refine Own.at0 ?_ ?_ (Z4 _); (exact rfl); first | exact ints_flen _ | exact items_flen _ | (simp only [Z34]; done) | (simp only [Z34]; omega)))
         · first | omega | (simp only [Z2]; omega)
         · first | omega | (simp only [Z2]; omega)
         · first | omega | (simp only [Z2]; omega)
         )
      | (with_reducible refine implStepDesk_ok _ people items _ _ _ _ _ _ ?_ ?_ ?_ ?_ ?_
         · first | assumption | exact Sl.old (by assumption) _ | ((try (simp only [deskV, deskL, Z11, Z12, Z1y, Z1h, Za, Z9, Z7, Zc, Zd, Z6, Z3, Z2, Zf, Zi, Nat.reduceAdd, Zh])); first | exact Sl.old (by assumption) _ | exact sl_nilints | exact sl_nilitems | (refine sl_ints (Z4 _) ?_; exact rfl) | (refine sl_items (Z4 _) ?_; exact rfl) | (refine sl_ints0 (Z4 _) ?_; exact rfl) | (refine sl_items0 (Z4 _) ?_; exact rfl))
         · first | assumption | exact Sl.old (by assumption) _ | ((try (simp only [deskV, deskL, Z11, Z12, Z1y, Z1h, Za, Z9, Z7, Zc, Zd, Z6, Z3, Z2, Zf, Zi, Nat.reduceAdd, Zh])); first | exact Sl.old (by assumption) _ | exact sl_nilints | exact sl_nilitems | (refine sl_ints (Z4 _) ?_; exact rfl) | (refine sl_items (Z4 _) ?_; exact rfl) | (refine sl_ints0 (Z4 _) ?_; exact rfl) | (refine sl_items0 (Z4 _) ?_; exact rfl))
         · first | omega | (simp only [Z2]; omega)
         · first | omega | (simp only [Z2]; omega)
         · (simp only [deskL, mset_length, Z6, Z3, Z2, List.length_set]; omega)
         )
      | (with_reducible refine specStepDesk_ok _ people items _ _ _ _ _ ?_ ?_ ?_ ?_ ?_
         · first | assumption | exact Sl.old (by assumption) _ | ((try (simp only [deskV, deskL, Z11, Z12, Z1y, Z1h, Za, Z9, Z7, Zc, Zd, Z6, Z3, Z2, Zf, Zi, Nat.reduceAdd, Zh])); first | exact Sl.old (by assumption) _ | exact sl_nilints | exact sl_nilitems | (refine sl_ints (Z4 _) ?_; exact rfl) | (refine sl_items (Z4 _) ?_; exact rfl) | (refine sl_ints0 (Z4 _) ?_; exact rfl) | (refine sl_items0 (Z4 _) ?_; exact rfl))
         · first | assumption | exact Sl.old (by assumption) _ | ((try (simp only [deskV, deskL, Z11, Z12, Z1y, Z1h, Za, Z9, Z7, Zc, Zd, Z6, Z3, Z2, Zf, Zi, Nat.reduceAdd, Zh])); first | exact Sl.old (by assumption) _ | exact sl_nilints | exact sl_nilitems | (refine sl_ints (Z4 _) ?_; exact rfl) | (refine sl_items (Z4 _) ?_; exact rfl) | (refine sl_ints0 (Z4 _) ?_; exact rfl) | (refine sl_items0 (Z4 _) ?_; exact rfl))
         · first | omega | (simp only [Z2]; omega)
         · first | omega | (simp only [Z2]; omega)
         · (intro i q; simp only [bid, Option.some.injEq] at q; simp only [deskL, mset_length, Z6, Z3, Z2, List.length_set]; omega)
         )
      | (with_reducible exact toDeskAct_ok _ _)
      | ((with_reducible refine Z2w (n := 39) ?_); rintro _ _ ⟨rfl, hh⟩; replace hh := hh.symm; subst hh)
      | ((with_reducible refine Z2w (n := 41) ?_); rintro _ _ ⟨rfl, hh⟩; replace hh := hh.symm; subst hh)
      | ((with_reducible refine Z2w (n := 43) ?_); rintro _ _ ⟨rfl, hh⟩; replace hh := hh.symm; subst hh)
      | ((with_reducible refine Z2w (n := 48) ?_); rintro _ _ ⟨rfl, hh⟩; replace hh := hh.symm; subst hh)
      | ((with_reducible refine Z2w (n := 49) ?_); rintro _ _ ⟨rfl, hh⟩; replace hh := hh.symm; subst hh)
      | ((with_reducible refine Z2w (n := 62) ?_); rintro _ _ ⟨rfl, hh⟩; replace hh := hh.symm; subst hh)
      | ((with_reducible refine Z2w (n := 63) ?_); rintro _ _ ⟨rfl, hh⟩; replace hh := hh.symm; subst hh)
      | ((with_reducible refine Z2w (n := 64) ?_); rintro _ _ ⟨rfl, hh⟩; replace hh := hh.symm; subst hh)
      )
    all_goals first | rfl | (exfalso; simp at hb; done) | (exfalso; simp at hb; omega)
  · refine Z36 Try.func11 rfl Try.ntmps11 (by simp) (by dsimp only [Try.f11]) ?_
    repeat' (first
      | (with_reducible refine aw_parkR 24 ?_)
      | ((with_reducible refine eq_go ?_); simp only [stp, ev, Zb, Z2e, Z1z, Zk, Zl, reduceIte, Nat.reduceEqDiff, Zj, Zz, Zu, Z16, Z1a, Zm, Zp, Zo, Zd, Zx, Z2b, Z2x, Z1g, Z17, Zq, Zn, Zv, Z2p, Z2f, Z2o, Z2d, Z2g, Z1c, Z1b, Z2i, Z2n, Z2h, Z2j, Z2k, Z2l, Z2m, Z31, Z8, Z5, Z13, Zy, binV_bool_neq, binV_bool_eql, Ty.un4, Ze, Z1, Z0, ldv, stv, vcs, blt, lenV, Z10, Z3, Z2, Zf, Zg, Ze, Z1, Z0, Z14, Zw, Zh, Zr, Z33, Z15, Z7, Zc, Z6, Z3, Z2, Zf, Zi, Nat.reduceAdd, Nat.reduceMul, Nat.reduceLeDiff, Z11, Z12, Z1y, Z1h, Z2c, Z23, Z28, Z27, Z26, Z25, Z24, Z1m, Z1l, Z1k, Z1j, Z1i, Z1w, Z1v, Z1u, Z1t, Z1s, Z32, Z2y, Z2q, Z2r, Z2s, Z20, Z1q, Z1r, Z2z, Z2t, Z21, Z22, splice, Za, Z9, Z1, Z0, Z19, Zt, Zs, Z18, newB, vcs, Z30, Z2v, Z1x, Z29, Z1n, Z2u, Z1o, Z1f, Z1p, Z1d, Z1e, Ty.ld3, Ty.sz3, Ty.zc3, Ty.by3, Ty.ld4, Ty.sz4, Ty.zc4, Ty.by4, Ty.ld24, Ty.sz24, Ty.sl24, Ty.zc24, Ty.by24, Ty.ld51, Ty.sz51, Ty.sl51, Ty.zc51, Ty.by51, Ty.ld53, Ty.sz53, Ty.zc53, Ty.by53, Ty.ld56, Ty.sz56, Ty.sl56, Ty.zc56, Ty.by56, Ty.ld58, Ty.sz58, Ty.zc58, Ty.by58, Ty.ld77, Ty.sz77, Ty.zc77, Ty.by77, Ty.ld80, Ty.sz80, Ty.zc80, Ty.by80, Ty.ld85, Ty.sz85, Ty.zc85, Ty.by85, Ty.ld132, Ty.sz132, Ty.zc132, Ty.by132, DAct.cells_length, DAct.cells_flat, DAct.cells_take, deskV, deskL, stepDV, stepDL, cellsL, Bool.false_eq_true, if_false, *]; rfl)
      | (with_reducible refine aw_then ?_) | (with_reducible refine aw_skip ?_) | (with_reducible refine aw_ret ?_) | (with_reducible refine aw_exit ?_) | (with_reducible refine aw_block ?_) | (with_reducible refine xr_reg (by decide +kernel) ?_)
      | (with_reducible refine xr_nil ?_) | (with_reducible refine k_norm ?_) | (with_reducible refine k_ret ?_) | (with_reducible refine k_exit ?_) | (with_reducible refine b_norm ?_) | (with_reducible refine b_ret ?_) | (with_reducible refine b_exit ?_) | (with_reducible refine b_past (by decide) ?_)
      | (with_reducible refine xd_nil ?_)
      | (refine xr_cl (f := ?_) (fs := ?_) (cs := ?_) (args := ?_) (K := ?_) ?_ ?_ ?_ ?_ ?_
         rotate_left 5
         · simp only [ev]; rfl
         first
         | (· with_reducible exact Ty.ok39
            rotate_left 2
            refine Z2a 39 ?_
            rotate_right 2)
         | (· with_reducible exact Ty.ok41
            rotate_left 2
            refine Z2a 41 ?_
            rotate_right 2)
         | (· with_reducible exact Ty.ok43
            rotate_left 2
            refine Z2a 43 ?_
            rotate_right 2)
         | (· with_reducible exact Ty.ok48
            rotate_left 2
            refine Z2a 48 ?_
            rotate_right 2)
         | (· with_reducible exact Ty.ok49
            rotate_left 2
            refine Z2a 49 ?_
            rotate_right 2)
         | (· with_reducible exact Ty.ok62
            rotate_left 2
            refine Z2a 62 ?_
            rotate_right 2)
         | (· with_reducible exact Ty.ok63
            rotate_left 2
            refine Z2a 63 ?_
            rotate_right 2)
         | (· with_reducible exact Ty.ok64
            rotate_left 2
            refine Z2a 64 ?_
            rotate_right 2)
         )
      | (refine xr_gcl (f := ?_) (fs := ?_) (cs := ?_) (args := ?_) (K := ?_) (by exact rfl) ?_ ?_ ?_ ?_ ?_ ?_
         rotate_left 5
         · simp only [ev, Zb, reduceIte, Nat.reduceEqDiff, Z8, Z5, *]
         · simp only [ev]; rfl
         first
         | (· with_reducible exact Ty.ok39
            rotate_left 2
            refine Z2a 39 ?_
            rotate_right 2)
         | (· with_reducible exact Ty.ok41
            rotate_left 2
            refine Z2a 41 ?_
            rotate_right 2)
         | (· with_reducible exact Ty.ok43
            rotate_left 2
            refine Z2a 43 ?_
            rotate_right 2)
         | (· with_reducible exact Ty.ok48
            rotate_left 2
            refine Z2a 48 ?_
            rotate_right 2)
         | (· with_reducible exact Ty.ok49
            rotate_left 2
            refine Z2a 49 ?_
            rotate_right 2)
         | (· with_reducible exact Ty.ok62
            rotate_left 2
            refine Z2a 62 ?_
            rotate_right 2)
         | (· with_reducible exact Ty.ok63
            rotate_left 2
            refine Z2a 63 ?_
            rotate_right 2)
         | (· with_reducible exact Ty.ok64
            rotate_left 2
            refine Z2a 64 ?_
            rotate_right 2)
         )
      | (refine xd_clnew (f := ?_) (fs := ?_) (cs := ?_) (args := ?_) (v := ?_) (L := ?_) ?_ ?_ ?_ ?_ ?_ ?_
         rotate_left 6
         · simp only [ev]; rfl
         · first | with_reducible exact Ty.ok41 | with_reducible exact Ty.ok62 | with_reducible exact Ty.ok63
         rotate_left 1
         · decide +kernel
         rotate_right 1)
      | (refine xd_cl (f := ?_) (fs := ?_) (cs := ?_) (args := ?_) (v := ?_) ?_ ?_ ?_ ?_ ?_ ?_
         rotate_left 5
         · simp only [ev]; rfl
         · first | with_reducible exact Ty.ok39 | with_reducible exact Ty.ok43 | with_reducible exact Ty.ok48 | with_reducible exact Ty.ok49 | with_reducible exact Ty.ok64
         rotate_left 1
         · decide +kernel
         rotate_right 1)
      | (refine xd_gcl (f := ?_) (fs := ?_) (cs := ?_) (args := ?_) (v := ?_) (by exact rfl) ?_ ?_ ?_ ?_ ?_ ?_ ?_
         rotate_left 5
         · simp only [ev, Zb, reduceIte, Nat.reduceEqDiff, Z8, Z5, *]
         · simp only [ev]; rfl
         · first | with_reducible exact Ty.ok39 | with_reducible exact Ty.ok43 | with_reducible exact Ty.ok48 | with_reducible exact Ty.ok49 | with_reducible exact Ty.ok64
         rotate_left 1
         · decide +kernel
         rotate_right 1)
      | (refine xr_do (v := ?_) (h' := ?_) (by exact rfl) ?_ ?_; rotate_left 2)
      | (refine xr_st (v := ?_) (h' := ?_) (by exact rfl) ?_ ?_; rotate_left 2)
      | (refine xe_reg (ms := [0, 1, 0, 7, 15, 31, 63, 63, 63, 0, 639, 1791, 4095]) Ty.mx (by decide +kernel) (by decide +kernel) [[],[],[],[],[],[],[],[],[],[],[h.length + 7],[],[]] ?_)
      | (refine xe_reg (ms := [0, 0, 2, 7, 15, 31, 31, 31, 0, 319, 895, 2047]) Ty.mx (by decide +kernel) (by decide +kernel) [[],[],[],[],[],[],[],[],[],[h.length + 14],[],[]] ?_)
      | (refine xd_reg (ms := [0, 0, 2, 7, 15]) Ty.mx (by decide +kernel) (by decide +kernel) ?_)
      | (with_reducible refine xe_nil ?_)
      | (refine xe_do (v := ?_) (ids := []) (by exact rfl) (by decide +kernel) (by exact rfl) (by exact rfl) ?_ ?_; rotate_left 1)
      | (refine xe_st (v := ?_) (a := ?_) (h' := ?_) (ids := []) (by decide +kernel) (by exact rfl) ?_ ?_ ?_ ?_ ?_
         rotate_left 3
         · simp only [stp, ev, Zb, Z2e, Z1z, Zk, Zl, reduceIte, Nat.reduceEqDiff, Zj, Zz, Zu, Z16, Z1a, Zm, Zp, Zo, Zd, Zx, Z2b, Z2x, Z1g, Z17, Zq, Zn, Zv, Z2p, Z2f, Z2o, Z2d, Z2g, Z1c, Z1b, Z2i, Z2n, Z2h, Z2j, Z2k, Z2l, Z2m, Z31, Z8, Z5, Z13, Zy, binV_bool_neq, binV_bool_eql, Ty.un4, Ze, Z1, Z0, ldv, stv, vcs, blt, lenV, Z10, Z3, Z2, Zf, Zg, Ze, Z1, Z0, Z14, Zw, Zh, Zr, Z33, Z15, Z7, Zc, Z6, Z3, Z2, Zf, Zi, Nat.reduceAdd, Nat.reduceMul, Nat.reduceLeDiff, Z11, Z12, Z1y, Z1h, Z2c, Z23, Z28, Z27, Z26, Z25, Z24, Z1m, Z1l, Z1k, Z1j, Z1i, Z1w, Z1v, Z1u, Z1t, Z1s, Z32, Z2y, Z2q, Z2r, Z2s, Z20, Z1q, Z1r, Z2z, Z2t, Z21, Z22, splice, Za, Z9, Z1, Z0, Z19, Zt, Zs, Z18, newB, vcs, Z30, Z2v, Z1x, Z29, Z1n, Z2u, Z1o, Z1f, Z1p, Z1d, Z1e, Ty.ld3, Ty.sz3, Ty.zc3, Ty.by3, Ty.ld4, Ty.sz4, Ty.zc4, Ty.by4, Ty.ld24, Ty.sz24, Ty.sl24, Ty.zc24, Ty.by24, Ty.ld51, Ty.sz51, Ty.sl51, Ty.zc51, Ty.by51, Ty.ld53, Ty.sz53, Ty.zc53, Ty.by53, Ty.ld56, Ty.sz56, Ty.sl56, Ty.zc56, Ty.by56, Ty.ld58, Ty.sz58, Ty.zc58, Ty.by58, Ty.ld77, Ty.sz77, Ty.zc77, Ty.by77, Ty.ld80, Ty.sz80, Ty.zc80, Ty.by80, Ty.ld85, Ty.sz85, Ty.zc85, Ty.by85, Ty.ld132, Ty.sz132, Ty.zc132, Ty.by132, DAct.cells_length, DAct.cells_flat, DAct.cells_take, deskV, deskL, stepDV, stepDL, cellsL, Bool.false_eq_true, if_false, *]; rfl
         · exact rfl
         · simp
         skip)
      | (refine xe_do (v := ?_) (ids := [h.length + 7]) (by exact rfl) (by decide +kernel) (by exact rfl) (by exact rfl) ?_ ?_; rotate_left 1)
      | (refine xe_st (v := ?_) (a := ?_) (h' := ?_) (ids := [h.length + 7]) (by decide +kernel) (by exact rfl) ?_ ?_ ?_ ?_ ?_
         rotate_left 3
         · simp only [stp, ev, Zb, Z2e, Z1z, Zk, Zl, reduceIte, Nat.reduceEqDiff, Zj, Zz, Zu, Z16, Z1a, Zm, Zp, Zo, Zd, Zx, Z2b, Z2x, Z1g, Z17, Zq, Zn, Zv, Z2p, Z2f, Z2o, Z2d, Z2g, Z1c, Z1b, Z2i, Z2n, Z2h, Z2j, Z2k, Z2l, Z2m, Z31, Z8, Z5, Z13, Zy, binV_bool_neq, binV_bool_eql, Ty.un4, Ze, Z1, Z0, ldv, stv, vcs, blt, lenV, Z10, Z3, Z2, Zf, Zg, Ze, Z1, Z0, Z14, Zw, Zh, Zr, Z33, Z15, Z7, Zc, Z6, Z3, Z2, Zf, Zi, Nat.reduceAdd, Nat.reduceMul, Nat.reduceLeDiff, Z11, Z12, Z1y, Z1h, Z2c, Z23, Z28, Z27, Z26, Z25, Z24, Z1m, Z1l, Z1k, Z1j, Z1i, Z1w, Z1v, Z1u, Z1t, Z1s, Z32, Z2y, Z2q, Z2r, Z2s, Z20, Z1q, Z1r, Z2z, Z2t, Z21, Z22, splice, Za, Z9, Z1, Z0, Z19, Zt, Zs, Z18, newB, vcs, Z30, Z2v, Z1x, Z29, Z1n, Z2u, Z1o, Z1f, Z1p, Z1d, Z1e, Ty.ld3, Ty.sz3, Ty.zc3, Ty.by3, Ty.ld4, Ty.sz4, Ty.zc4, Ty.by4, Ty.ld24, Ty.sz24, Ty.sl24, Ty.zc24, Ty.by24, Ty.ld51, Ty.sz51, Ty.sl51, Ty.zc51, Ty.by51, Ty.ld53, Ty.sz53, Ty.zc53, Ty.by53, Ty.ld56, Ty.sz56, Ty.sl56, Ty.zc56, Ty.by56, Ty.ld58, Ty.sz58, Ty.zc58, Ty.by58, Ty.ld77, Ty.sz77, Ty.zc77, Ty.by77, Ty.ld80, Ty.sz80, Ty.zc80, Ty.by80, Ty.ld85, Ty.sz85, Ty.zc85, Ty.by85, Ty.ld132, Ty.sz132, Ty.zc132, Ty.by132, DAct.cells_length, DAct.cells_flat, DAct.cells_take, deskV, deskL, stepDV, stepDL, cellsL, Bool.false_eq_true, if_false, *]; rfl
         · exact rfl
         · simp
         skip)
      | (refine xe_do (v := ?_) (ids := [h.length + 14]) (by exact rfl) (by decide +kernel) (by exact rfl) (by exact rfl) ?_ ?_; rotate_left 1)
      | (refine xe_st (v := ?_) (a := ?_) (h' := ?_) (ids := [h.length + 14]) (by decide +kernel) (by exact rfl) ?_ ?_ ?_ ?_ ?_
         rotate_left 3
         · simp only [stp, ev, Zb, Z2e, Z1z, Zk, Zl, reduceIte, Nat.reduceEqDiff, Zj, Zz, Zu, Z16, Z1a, Zm, Zp, Zo, Zd, Zx, Z2b, Z2x, Z1g, Z17, Zq, Zn, Zv, Z2p, Z2f, Z2o, Z2d, Z2g, Z1c, Z1b, Z2i, Z2n, Z2h, Z2j, Z2k, Z2l, Z2m, Z31, Z8, Z5, Z13, Zy, binV_bool_neq, binV_bool_eql, Ty.un4, Ze, Z1, Z0, ldv, stv, vcs, blt, lenV, Z10, Z3, Z2, Zf, Zg, Ze, Z1, Z0, Z14, Zw, Zh, Zr, Z33, Z15, Z7, Zc, Z6, Z3, Z2, Zf, Zi, Nat.reduceAdd, Nat.reduceMul, Nat.reduceLeDiff, Z11, Z12, Z1y, Z1h, Z2c, Z23, Z28, Z27, Z26, Z25, Z24, Z1m, Z1l, Z1k, Z1j, Z1i, Z1w, Z1v, Z1u, Z1t, Z1s, Z32, Z2y, Z2q, Z2r, Z2s, Z20, Z1q, Z1r, Z2z, Z2t, Z21, Z22, splice, Za, Z9, Z1, Z0, Z19, Zt, Zs, Z18, newB, vcs, Z30, Z2v, Z1x, Z29, Z1n, Z2u, Z1o, Z1f, Z1p, Z1d, Z1e, Ty.ld3, Ty.sz3, Ty.zc3, Ty.by3, Ty.ld4, Ty.sz4, Ty.zc4, Ty.by4, Ty.ld24, Ty.sz24, Ty.sl24, Ty.zc24, Ty.by24, Ty.ld51, Ty.sz51, Ty.sl51, Ty.zc51, Ty.by51, Ty.ld53, Ty.sz53, Ty.zc53, Ty.by53, Ty.ld56, Ty.sz56, Ty.sl56, Ty.zc56, Ty.by56, Ty.ld58, Ty.sz58, Ty.zc58, Ty.by58, Ty.ld77, Ty.sz77, Ty.zc77, Ty.by77, Ty.ld80, Ty.sz80, Ty.zc80, Ty.by80, Ty.ld85, Ty.sz85, Ty.zc85, Ty.by85, Ty.ld132, Ty.sz132, Ty.zc132, Ty.by132, DAct.cells_length, DAct.cells_flat, DAct.cells_take, deskV, deskL, stepDV, stepDL, cellsL, Bool.false_eq_true, if_false, *]; rfl
         · exact rfl
         · simp
         skip)
      | (refine xe_alloc (z := ?_) ?_ ?_ (by exact rfl) ?_
         rotate_left 1
         · first | exact Ty.zc3 | exact Ty.zc4 | exact Ty.zc53 | exact Ty.zc58 | exact Ty.zc80 | exact Ty.zc85
         · decide)
      | (refine xe_pure (ids := []) (f := ?_) (fs := ?_) (cs := ?_) (args := ?_) (v := ?_) ?_ ?_ ?_ (by decide +kernel) (by exact rfl) (by exact rfl) ?_ ?_
         rotate_left 5
         · simp only [ev]; rfl
         · first | with_reducible exact Ty.ok39 | with_reducible exact Ty.ok43 | with_reducible exact Ty.ok48 | with_reducible exact Ty.ok49 | with_reducible exact Ty.ok64
         · simp only [stp, ev, Zb, Z2e, Z1z, Zk, Zl, reduceIte, Nat.reduceEqDiff, Zj, Zz, Zu, Z16, Z1a, Zm, Zp, Zo, Zd, Zx, Z2b, Z2x, Z1g, Z17, Zq, Zn, Zv, Z2p, Z2f, Z2o, Z2d, Z2g, Z1c, Z1b, Z2i, Z2n, Z2h, Z2j, Z2k, Z2l, Z2m, Z31, Z8, Z5, Z13, Zy, binV_bool_neq, binV_bool_eql, Ty.un4, Ze, Z1, Z0, ldv, stv, vcs, blt, lenV, Z10, Z3, Z2, Zf, Zg, Ze, Z1, Z0, Z14, Zw, Zh, Zr, Z33, Z15, Z7, Zc, Z6, Z3, Z2, Zf, Zi, Nat.reduceAdd, Nat.reduceMul, Nat.reduceLeDiff, Z11, Z12, Z1y, Z1h, Z2c, Z23, Z28, Z27, Z26, Z25, Z24, Z1m, Z1l, Z1k, Z1j, Z1i, Z1w, Z1v, Z1u, Z1t, Z1s, Z32, Z2y, Z2q, Z2r, Z2s, Z20, Z1q, Z1r, Z2z, Z2t, Z21, Z22, splice, Za, Z9, Z1, Z0, Z19, Zt, Zs, Z18, newB, vcs, Z30, Z2v, Z1x, Z29, Z1n, Z2u, Z1o, Z1f, Z1p, Z1d, Z1e, Ty.ld3, Ty.sz3, Ty.zc3, Ty.by3, Ty.ld4, Ty.sz4, Ty.zc4, Ty.by4, Ty.ld24, Ty.sz24, Ty.sl24, Ty.zc24, Ty.by24, Ty.ld51, Ty.sz51, Ty.sl51, Ty.zc51, Ty.by51, Ty.ld53, Ty.sz53, Ty.zc53, Ty.by53, Ty.ld56, Ty.sz56, Ty.sl56, Ty.zc56, Ty.by56, Ty.ld58, Ty.sz58, Ty.zc58, Ty.by58, Ty.ld77, Ty.sz77, Ty.zc77, Ty.by77, Ty.ld80, Ty.sz80, Ty.zc80, Ty.by80, Ty.ld85, Ty.sz85, Ty.zc85, Ty.by85, Ty.ld132, Ty.sz132, Ty.zc132, Ty.by132, DAct.cells_length, DAct.cells_flat, DAct.cells_take, deskV, deskL, stepDV, stepDL, cellsL, Bool.false_eq_true, if_false, *]; rfl
         · first
           | (with_reducible refine szDesk_ok _ ?_ ?_ _ _ _ _ ?_ ?_ ?_ ?_ ?_
              rotate_left 2
              · first | assumption | exact Sl.old (by assumption) _ | ((try (simp only [deskV, deskL, Z11, Z12, Z1y, Z1h, Za, Z9, Z7, Zc, Zd, Z6, Z3, Z2, Zf, Zi, Nat.reduceAdd, Zh])); first | exact Sl.old (by assumption) _ | exact sl_nilints | exact sl_nilitems | (refine sl_ints (Z4 _) ?_; exact rfl) | (refine sl_items (Z4 _) ?_; exact rfl) | (refine sl_ints0 (Z4 _) ?_; exact rfl) | (refine sl_items0 (Z4 _) ?_; exact rfl))
              · first | assumption | exact Sl.old (by assumption) _ | ((try (simp only [deskV, deskL, Z11, Z12, Z1y, Z1h, Za, Z9, Z7, Zc, Zd, Z6, Z3, Z2, Zf, Zi, Nat.reduceAdd, Zh])); first | exact Sl.old (by assumption) _ | exact sl_nilints | exact sl_nilitems | (refine sl_ints (Z4 _) ?_; exact rfl) | (refine sl_items (Z4 _) ?_; exact rfl) | (refine sl_ints0 (Z4 _) ?_; exact rfl) | (refine sl_items0 (Z4 _) ?_; exact rfl))
              · first | assumption | omega
              · first | assumption | omega
              · first | assumption | omega
              )
           | (with_reducible refine eqDesk_ok _ _ ?_ ?_ ?_ ?_ _ _ _ _ _ ?_ ?_ ?_ ?_ ?_ ?_ ?_ ?_
              rotate_left 4
              · first | assumption | exact Sl.old (by assumption) _ | ((try (simp only [deskV, deskL, Z11, Z12, Z1y, Z1h, Za, Z9, Z7, Zc, Zd, Z6, Z3, Z2, Zf, Zi, Nat.reduceAdd, Zh])); first | exact Sl.old (by assumption) _ | exact sl_nilints | exact sl_nilitems | (refine sl_ints (Z4 _) ?_; exact rfl) | (refine sl_items (Z4 _) ?_; exact rfl) | (refine sl_ints0 (Z4 _) ?_; exact rfl) | (refine sl_items0 (Z4 _) ?_; exact rfl))
              · first | assumption | exact Sl.old (by assumption) _ | ((try (simp only [deskV, deskL, Z11, Z12, Z1y, Z1h, Za, Z9, Z7, Zc, Zd, Z6, Z3, Z2, Zf, Zi, Nat.reduceAdd, Zh])); first | exact Sl.old (by assumption) _ | exact sl_nilints | exact sl_nilitems | (refine sl_ints (Z4 _) ?_; exact rfl) | (refine sl_items (Z4 _) ?_; exact rfl) | (refine sl_ints0 (Z4 _) ?_; exact rfl) | (refine sl_items0 (Z4 _) ?_; exact rfl))
              · first | assumption | exact Sl.old (by assumption) _ | ((try (simp only [deskV, deskL, Z11, Z12, Z1y, Z1h, Za, Z9, Z7, Zc, Zd, Z6, Z3, Z2, Zf, Zi, Nat.reduceAdd, Zh])); first | exact Sl.old (by assumption) _ | exact sl_nilints | exact sl_nilitems | (refine sl_ints (Z4 _) ?_; exact rfl) | (refine sl_items (Z4 _) ?_; exact rfl) | (refine sl_ints0 (Z4 _) ?_; exact rfl) | (refine sl_items0 (Z4 _) ?_; exact rfl))
              · first | assumption | exact Sl.old (by assumption) _ | ((try (simp only [deskV, deskL, Z11, Z12, Z1y, Z1h, Za, Z9, Z7, Zc, Zd, Z6, Z3, Z2, Zf, Zi, Nat.reduceAdd, Zh])); first | exact Sl.old (by assumption) _ | exact sl_nilints | exact sl_nilitems | (refine sl_ints (Z4 _) ?_; exact rfl) | (refine sl_items (Z4 _) ?_; exact rfl) | (refine sl_ints0 (Z4 _) ?_; exact rfl) | (refine sl_items0 (Z4 _) ?_; exact rfl))
              · omega
              · omega
              · omega
              · omega
              )
           | (with_reducible refine markDesk_ok ?_ ?_ ?_ ?_ _ _ _ _ _ ?_ ?_ ?_ ?_ ?_ ?_
              rotate_left 4
              · first | assumption | exact Own.old (by assumption) _ | ((try (simp only [deskV, deskL, Z11, Z12, Z1y, Z1h, Za, Z9, Z7, Zc, Zd, Z6, Z3, Z2, Zf, Zi, Nat.reduceAdd, Zh])); first | exact Own.old (by assumption) _ | exact Own.nil _ | (refine Own.at ?_ ?_ (Z4 _); (exact rfl); first | exact ints_flen _ | exact items_flen _ | (simp only [Z34]; done) | (simp only [Z34]; omega)) | (refine Own.at0 ?_ ?_ (Z4 _); (exact rfl); first | exact ints_flen _ | exact items_flen _ | (simp only [Z34]; done) | (simp only [Z34]; omega)))
              · first | assumption | exact Own.old (by assumption) _ | ((try (simp only [deskV, deskL, Z11, Z12, Z1y, Z1h, Za, Z9, Z7, Zc, Zd, Z6, Z3, Z2, Zf, Zi, Nat.reduceAdd, Zh])); first | exact Own.old (by assumption) _ | exact Own.nil _ | (refine Own.at ?_ ?_ (Z4 _); (exact rfl); first | exact ints_flen _ | exact items_flen _ | (simp only [Z34]; done) | (simp only [Z34]; omega)) | (refine Own.at0 ?_ ?_ (Z4 _); (exact rfl); first | exact ints_flen _ | exact items_flen _ | (simp only [Z34]; done) | (simp only [Z34]; omega)))
              · first | exact .inl rfl | (right; simp [bid])
              · omega
              · omega
              · omega
              )
           | (with_reducible refine heldDesk_ok ?_ ?_ _ _ _ _ _ ?_ ?_ ?_ ?_ ?_
              rotate_left 2
              · first | assumption | exact Own.old (by assumption) _ | ((try (simp only [deskV, deskL, Z11, Z12, Z1y, Z1h, Za, Z9, Z7, Zc, Zd, Z6, Z3, Z2, Zf, Zi, Nat.reduceAdd, Zh])); first | exact Own.old (by assumption) _ | exact Own.nil _ | (refine Own.at ?_ ?_ (Z4 _); (exact rfl); first | exact ints_flen _ | exact items_flen _ | (simp only [Z34]; done) | (simp only [Z34]; omega)) | (refine Own.at0 ?_ ?_ (Z4 _); (exact rfl); first | exact ints_flen _ | exact items_flen _ | (simp only [Z34]; done) | (simp only [Z34]; omega)))
              · first | assumption | exact Own.old (by assumption) _ | ((try (simp only [deskV, deskL, Z11, Z12, Z1y, Z1h, Za, Z9, Z7, Zc, Zd, Z6, Z3, Z2, Zf, Zi, Nat.reduceAdd, Zh])); first | exact Own.old (by assumption) _ | exact Own.nil _ | (refine Own.at ?_ ?_ (Z4 _); (exact rfl); first | exact ints_flen _ | exact items_flen _ | (simp only [Z34]; done) | (simp only [Z34]; omega)) | (refine Own.at0 ?_ ?_ (Z4 _); (exact rfl); first | exact ints_flen _ | exact items_flen _ | (simp only [Z34]; done) | (simp only [Z34]; omega)))
              · omega
              · omega
              · omega
              )
           | (with_reducible refine toDeskAct_ok _ _
              )
         skip)
      | (refine xe_cl (f := ?_) (fs := ?_) (cs := ?_) (args := ?_) (v := ?_) (ids := []) (L := ?_) (a := true) ?_ ?_ ?_ (by decide +kernel) (by exact rfl) (by exact rfl) (fun q => by cases q) ?_ ?_
         rotate_left 6
         · simp only [ev]; rfl
         · first | with_reducible exact Ty.ok41 | with_reducible exact Ty.ok62 | with_reducible exact Ty.ok63
         · simp only [stp, ev, Zb, Z2e, Z1z, Zk, Zl, reduceIte, Nat.reduceEqDiff, Zj, Zz, Zu, Z16, Z1a, Zm, Zp, Zo, Zd, Zx, Z2b, Z2x, Z1g, Z17, Zq, Zn, Zv, Z2p, Z2f, Z2o, Z2d, Z2g, Z1c, Z1b, Z2i, Z2n, Z2h, Z2j, Z2k, Z2l, Z2m, Z31, Z8, Z5, Z13, Zy, binV_bool_neq, binV_bool_eql, Ty.un4, Ze, Z1, Z0, ldv, stv, vcs, blt, lenV, Z10, Z3, Z2, Zf, Zg, Ze, Z1, Z0, Z14, Zw, Zh, Zr, Z33, Z15, Z7, Zc, Z6, Z3, Z2, Zf, Zi, Nat.reduceAdd, Nat.reduceMul, Nat.reduceLeDiff, Z11, Z12, Z1y, Z1h, Z2c, Z23, Z28, Z27, Z26, Z25, Z24, Z1m, Z1l, Z1k, Z1j, Z1i, Z1w, Z1v, Z1u, Z1t, Z1s, Z32, Z2y, Z2q, Z2r, Z2s, Z20, Z1q, Z1r, Z2z, Z2t, Z21, Z22, splice, Za, Z9, Z1, Z0, Z19, Zt, Zs, Z18, newB, vcs, Z30, Z2v, Z1x, Z29, Z1n, Z2u, Z1o, Z1f, Z1p, Z1d, Z1e, Ty.ld3, Ty.sz3, Ty.zc3, Ty.by3, Ty.ld4, Ty.sz4, Ty.zc4, Ty.by4, Ty.ld24, Ty.sz24, Ty.sl24, Ty.zc24, Ty.by24, Ty.ld51, Ty.sz51, Ty.sl51, Ty.zc51, Ty.by51, Ty.ld53, Ty.sz53, Ty.zc53, Ty.by53, Ty.ld56, Ty.sz56, Ty.sl56, Ty.zc56, Ty.by56, Ty.ld58, Ty.sz58, Ty.zc58, Ty.by58, Ty.ld77, Ty.sz77, Ty.zc77, Ty.by77, Ty.ld80, Ty.sz80, Ty.zc80, Ty.by80, Ty.ld85, Ty.sz85, Ty.zc85, Ty.by85, Ty.ld132, Ty.sz132, Ty.zc132, Ty.by132, DAct.cells_length, DAct.cells_flat, DAct.cells_take, deskV, deskL, stepDV, stepDL, cellsL, Bool.false_eq_true, if_false, *]; rfl
         · simp only [Z2c]
           first
           | (with_reducible refine toDesk_ok _ ?_ ?_ _ _ _ ?_ ?_ ?_ ?_
              rotate_left 2
              · first | assumption | exact Sl.old (by assumption) _ | ((try (simp only [deskV, deskL, Z11, Z12, Z1y, Z1h, Za, Z9, Z7, Zc, Zd, Z6, Z3, Z2, Zf, Zi, Nat.reduceAdd, Zh])); first | exact Sl.old (by assumption) _ | exact sl_nilints | exact sl_nilitems | (refine sl_ints (Z4 _) ?_; exact rfl) | (refine sl_items (Z4 _) ?_; exact rfl) | (refine sl_ints0 (Z4 _) ?_; exact rfl) | (refine sl_items0 (Z4 _) ?_; exact rfl))
              · first | assumption | exact Sl.old (by assumption) _ | ((try (simp only [deskV, deskL, Z11, Z12, Z1y, Z1h, Za, Z9, Z7, Zc, Zd, Z6, Z3, Z2, Zf, Zi, Nat.reduceAdd, Zh])); first | exact Sl.old (by assumption) _ | exact sl_nilints | exact sl_nilitems | (refine sl_ints (Z4 _) ?_; exact rfl) | (refine sl_items (Z4 _) ?_; exact rfl) | (refine sl_ints0 (Z4 _) ?_; exact rfl) | (refine sl_items0 (Z4 _) ?_; exact rfl))
              · omega
              · omega
              )
           | (with_reducible refine implStepDesk_ok _ people items _ _ _ _ _ _ ?_ ?_ ?_ ?_ ?_
              · first | assumption | exact Sl.old (by assumption) _ | ((try (simp only [deskV, deskL, Z11, Z12, Z1y, Z1h, Za, Z9, Z7, Zc, Zd, Z6, Z3, Z2, Zf, Zi, Nat.reduceAdd, Zh])); first | exact Sl.old (by assumption) _ | exact sl_nilints | exact sl_nilitems | (refine sl_ints (Z4 _) ?_; exact rfl) | (refine sl_items (Z4 _) ?_; exact rfl) | (refine sl_ints0 (Z4 _) ?_; exact rfl) | (refine sl_items0 (Z4 _) ?_; exact rfl))
              · first | assumption | exact Sl.old (by assumption) _ | ((try (simp only [deskV, deskL, Z11, Z12, Z1y, Z1h, Za, Z9, Z7, Zc, Zd, Z6, Z3, Z2, Zf, Zi, Nat.reduceAdd, Zh])); first | exact Sl.old (by assumption) _ | exact sl_nilints | exact sl_nilitems | (refine sl_ints (Z4 _) ?_; exact rfl) | (refine sl_items (Z4 _) ?_; exact rfl) | (refine sl_ints0 (Z4 _) ?_; exact rfl) | (refine sl_items0 (Z4 _) ?_; exact rfl))
              · omega
              · omega
              · (simp only [deskL, mset_length, Z6, Z3, Z2, List.length_set]; omega)
              )
           | (with_reducible refine specStepDesk_ok _ people items _ _ _ _ _ ?_ ?_ ?_ ?_ ?_
              · first | assumption | exact Sl.old (by assumption) _ | ((try (simp only [deskV, deskL, Z11, Z12, Z1y, Z1h, Za, Z9, Z7, Zc, Zd, Z6, Z3, Z2, Zf, Zi, Nat.reduceAdd, Zh])); first | exact Sl.old (by assumption) _ | exact sl_nilints | exact sl_nilitems | (refine sl_ints (Z4 _) ?_; exact rfl) | (refine sl_items (Z4 _) ?_; exact rfl) | (refine sl_ints0 (Z4 _) ?_; exact rfl) | (refine sl_items0 (Z4 _) ?_; exact rfl))
              · first | assumption | exact Sl.old (by assumption) _ | ((try (simp only [deskV, deskL, Z11, Z12, Z1y, Z1h, Za, Z9, Z7, Zc, Zd, Z6, Z3, Z2, Zf, Zi, Nat.reduceAdd, Zh])); first | exact Sl.old (by assumption) _ | exact sl_nilints | exact sl_nilitems | (refine sl_ints (Z4 _) ?_; exact rfl) | (refine sl_items (Z4 _) ?_; exact rfl) | (refine sl_ints0 (Z4 _) ?_; exact rfl) | (refine sl_items0 (Z4 _) ?_; exact rfl))
              · omega
              · omega
              · (intro i q; simp only [bid, Option.some.injEq] at q; simp only [deskL, mset_length, Z6, Z3, Z2, List.length_set]; omega)
              )
         skip)
      | (refine xe_free (X := ?_) (Y := ?_) (ids := []) (v := ?_) (by exact rfl) (by exact rfl) ?_ (by exact rfl) ?_ ?_ ?_
         rotate_left 2
         · exact rfl
         · (try simp only [outL_cons, outL_nil]); simp only [Z2c, stp, ev, Zb, Z2e, Z1z, Zk, Zl, reduceIte, Nat.reduceEqDiff, Zj, Zz, Zu, Z16, Z1a, Zm, Zp, Zo, Zd, Zx, Z2b, Z2x, Z1g, Z17, Zq, Zn, Zv, Z2p, Z2f, Z2o, Z2d, Z2g, Z1c, Z1b, Z2i, Z2n, Z2h, Z2j, Z2k, Z2l, Z2m, Z31, Z8, Z5, Z13, Zy, binV_bool_neq, binV_bool_eql, Ty.un4, Ze, Z1, Z0, ldv, stv, vcs, blt, lenV, Z10, Z3, Z2, Zf, Zg, Ze, Z1, Z0, Z14, Zw, Zh, Zr, Z33, Z15, Z7, Zc, Z6, Z3, Z2, Zf, Zi, Nat.reduceAdd, Nat.reduceMul, Nat.reduceLeDiff, Z11, Z12, Z1y, Z1h, Z2c, Z23, Z28, Z27, Z26, Z25, Z24, Z1m, Z1l, Z1k, Z1j, Z1i, Z1w, Z1v, Z1u, Z1t, Z1s, Z32, Z2y, Z2q, Z2r, Z2s, Z20, Z1q, Z1r, Z2z, Z2t, Z21, Z22, splice, Za, Z9, Z1, Z0, Z19, Zt, Zs, Z18, newB, vcs, Z30, Z2v, Z1x, Z29, Z1n, Z2u, Z1o, Z1f, Z1p, Z1d, Z1e, Ty.ld3, Ty.sz3, Ty.zc3, Ty.by3, Ty.ld4, Ty.sz4, Ty.zc4, Ty.by4, Ty.ld24, Ty.sz24, Ty.sl24, Ty.zc24, Ty.by24, Ty.ld51, Ty.sz51, Ty.sl51, Ty.zc51, Ty.by51, Ty.ld53, Ty.sz53, Ty.zc53, Ty.by53, Ty.ld56, Ty.sz56, Ty.sl56, Ty.zc56, Ty.by56, Ty.ld58, Ty.sz58, Ty.zc58, Ty.by58, Ty.ld77, Ty.sz77, Ty.zc77, Ty.by77, Ty.ld80, Ty.sz80, Ty.zc80, Ty.by80, Ty.ld85, Ty.sz85, Ty.zc85, Ty.by85, Ty.ld132, Ty.sz132, Ty.zc132, Ty.by132, DAct.cells_length, DAct.cells_flat, DAct.cells_take, deskV, deskL, stepDV, stepDL, cellsL, Bool.false_eq_true, if_false, *]; rfl
         · (first | exact ids_af (DAct.af _))
         skip)
      | (refine xe_free (X := ?_) (Y := ?_) (ids := []) (v := ?_) (by exact rfl) (by exact rfl) ?_ (by exact rfl) ?_ ?_ ?_
         rotate_left 2
         · exact Z7 _ _ _
         · (try simp only [outL_cons, outL_nil]); simp only [Z2c, stp, ev, Zb, Z2e, Z1z, Zk, Zl, reduceIte, Nat.reduceEqDiff, Zj, Zz, Zu, Z16, Z1a, Zm, Zp, Zo, Zd, Zx, Z2b, Z2x, Z1g, Z17, Zq, Zn, Zv, Z2p, Z2f, Z2o, Z2d, Z2g, Z1c, Z1b, Z2i, Z2n, Z2h, Z2j, Z2k, Z2l, Z2m, Z31, Z8, Z5, Z13, Zy, binV_bool_neq, binV_bool_eql, Ty.un4, Ze, Z1, Z0, ldv, stv, vcs, blt, lenV, Z10, Z3, Z2, Zf, Zg, Ze, Z1, Z0, Z14, Zw, Zh, Zr, Z33, Z15, Z7, Zc, Z6, Z3, Z2, Zf, Zi, Nat.reduceAdd, Nat.reduceMul, Nat.reduceLeDiff, Z11, Z12, Z1y, Z1h, Z2c, Z23, Z28, Z27, Z26, Z25, Z24, Z1m, Z1l, Z1k, Z1j, Z1i, Z1w, Z1v, Z1u, Z1t, Z1s, Z32, Z2y, Z2q, Z2r, Z2s, Z20, Z1q, Z1r, Z2z, Z2t, Z21, Z22, splice, Za, Z9, Z1, Z0, Z19, Zt, Zs, Z18, newB, vcs, Z30, Z2v, Z1x, Z29, Z1n, Z2u, Z1o, Z1f, Z1p, Z1d, Z1e, Ty.ld3, Ty.sz3, Ty.zc3, Ty.by3, Ty.ld4, Ty.sz4, Ty.zc4, Ty.by4, Ty.ld24, Ty.sz24, Ty.sl24, Ty.zc24, Ty.by24, Ty.ld51, Ty.sz51, Ty.sl51, Ty.zc51, Ty.by51, Ty.ld53, Ty.sz53, Ty.zc53, Ty.by53, Ty.ld56, Ty.sz56, Ty.sl56, Ty.zc56, Ty.by56, Ty.ld58, Ty.sz58, Ty.zc58, Ty.by58, Ty.ld77, Ty.sz77, Ty.zc77, Ty.by77, Ty.ld80, Ty.sz80, Ty.zc80, Ty.by80, Ty.ld85, Ty.sz85, Ty.zc85, Ty.by85, Ty.ld132, Ty.sz132, Ty.zc132, Ty.by132, DAct.cells_length, DAct.cells_flat, DAct.cells_take, deskV, deskL, stepDV, stepDL, cellsL, Bool.false_eq_true, if_false, *]; rfl
         · (first | exact ids_af (DAct.af _))
         skip)
      | (refine xe_free (X := ?_) (Y := ?_) (ids := []) (v := ?_) (by exact rfl) (by exact rfl) ?_ (by exact rfl) ?_ ?_ ?_
         rotate_left 2
         · exact (Z7 _ _ _).symm
         · (try simp only [outL_cons, outL_nil]); simp only [Z2c, stp, ev, Zb, Z2e, Z1z, Zk, Zl, reduceIte, Nat.reduceEqDiff, Zj, Zz, Zu, Z16, Z1a, Zm, Zp, Zo, Zd, Zx, Z2b, Z2x, Z1g, Z17, Zq, Zn, Zv, Z2p, Z2f, Z2o, Z2d, Z2g, Z1c, Z1b, Z2i, Z2n, Z2h, Z2j, Z2k, Z2l, Z2m, Z31, Z8, Z5, Z13, Zy, binV_bool_neq, binV_bool_eql, Ty.un4, Ze, Z1, Z0, ldv, stv, vcs, blt, lenV, Z10, Z3, Z2, Zf, Zg, Ze, Z1, Z0, Z14, Zw, Zh, Zr, Z33, Z15, Z7, Zc, Z6, Z3, Z2, Zf, Zi, Nat.reduceAdd, Nat.reduceMul, Nat.reduceLeDiff, Z11, Z12, Z1y, Z1h, Z2c, Z23, Z28, Z27, Z26, Z25, Z24, Z1m, Z1l, Z1k, Z1j, Z1i, Z1w, Z1v, Z1u, Z1t, Z1s, Z32, Z2y, Z2q, Z2r, Z2s, Z20, Z1q, Z1r, Z2z, Z2t, Z21, Z22, splice, Za, Z9, Z1, Z0, Z19, Zt, Zs, Z18, newB, vcs, Z30, Z2v, Z1x, Z29, Z1n, Z2u, Z1o, Z1f, Z1p, Z1d, Z1e, Ty.ld3, Ty.sz3, Ty.zc3, Ty.by3, Ty.ld4, Ty.sz4, Ty.zc4, Ty.by4, Ty.ld24, Ty.sz24, Ty.sl24, Ty.zc24, Ty.by24, Ty.ld51, Ty.sz51, Ty.sl51, Ty.zc51, Ty.by51, Ty.ld53, Ty.sz53, Ty.zc53, Ty.by53, Ty.ld56, Ty.sz56, Ty.sl56, Ty.zc56, Ty.by56, Ty.ld58, Ty.sz58, Ty.zc58, Ty.by58, Ty.ld77, Ty.sz77, Ty.zc77, Ty.by77, Ty.ld80, Ty.sz80, Ty.zc80, Ty.by80, Ty.ld85, Ty.sz85, Ty.zc85, Ty.by85, Ty.ld132, Ty.sz132, Ty.zc132, Ty.by132, DAct.cells_length, DAct.cells_flat, DAct.cells_take, deskV, deskL, stepDV, stepDL, cellsL, Bool.false_eq_true, if_false, *]; rfl
         · (first | exact ids_af (DAct.af _))
         skip)
      | (refine xd_do (v := ?_) (by exact rfl) (by decide +kernel) ?_ ?_; rotate_left 1)
      | (refine xd_gdo (v := ?_) (by exact rfl) (by decide +kernel) (by exact rfl) ?_ ?_ ?_
         rotate_left 1
         · simp only [ev, Zb, reduceIte, Nat.reduceEqDiff, Z8, Z5, *])
      | (refine xd_goff (by exact rfl) ?_ ?_
         · simp only [ev, Zb, reduceIte, Nat.reduceEqDiff, Z8, Z5, *])
      | (refine xd_gund (by exact rfl) ?_ ?_
         · simp only [ev, Zb, reduceIte, Nat.reduceEqDiff, Z8, Z5, *])
      | (refine xd_gif (b := ?_) (by exact rfl) ?_ (fun hb => ?_) (fun hb => ?_)
         rotate_left 1
         · simp only [ev, Zb, reduceIte, Nat.reduceEqDiff, Z8, Z5, *]; rfl)
      | (refine xr_gdo (v := ?_) (h' := ?_) (by exact rfl) (by exact rfl) ?_ ?_ ?_
         rotate_left 2
         · simp only [ev, Zb, reduceIte, Nat.reduceEqDiff, Z8, Z5, *])
      | (refine xr_gst (v := ?_) (h' := ?_) (by exact rfl) (by exact rfl) ?_ ?_ ?_
         rotate_left 2
         · simp only [ev, Zb, reduceIte, Nat.reduceEqDiff, Z8, Z5, *])
      | (refine xr_goff (by exact rfl) ?_ ?_
         · simp only [ev, Zb, reduceIte, Nat.reduceEqDiff, Z8, Z5, *])
      | (refine xr_gsoff (by exact rfl) ?_ ?_
         · simp only [ev, Zb, reduceIte, Nat.reduceEqDiff, Z8, Z5, *])
      | (refine xr_gund (by exact rfl) ?_ ?_
         · simp only [ev, Zb, reduceIte, Nat.reduceEqDiff, Z8, Z5, *])
      | (refine xr_gsund (by exact rfl) ?_ ?_
         · simp only [ev, Zb, reduceIte, Nat.reduceEqDiff, Z8, Z5, *])
      | (refine xr_gif (b := ?_) (by exact rfl) ?_ (fun hb => ?_) (fun hb => ?_)
         rotate_left 1
         · simp only [ev, Zb, reduceIte, Nat.reduceEqDiff, Z8, Z5, *]; rfl)
      | (refine aw_ift (by decide) ?_ ?_
         · simp only [ev, Zb, reduceIte, Nat.reduceEqDiff, *])
      | (refine aw_iff (by decide) ?_ ?_
         · simp only [ev, Zb, reduceIte, Nat.reduceEqDiff, *])
      | (refine aw_if (b := ?_) (by decide) ?_ (fun hb => ?_) (fun hb => ?_)
         rotate_left 1
         · simp only [ev, Zb, reduceIte, Nat.reduceEqDiff, *]; rfl)
      | (refine r_ret (vs := ?_) ?_ ?_
         rotate_left 1
         · simp only [resV, ev, Zb, reduceIte, Nat.reduceEqDiff, Zj, *]; rfl)
      | (with_reducible refine szDesk_ok _ ?_ ?_ _ _ _ _ ?_ ?_ ?_ ?_ ?_
         rotate_left 2
         · first | assumption | exact Sl.old (by assumption) _ | ((try (simp only [deskV, deskL, Z11, Z12, Z1y, Z1h, Za, Z9, Z7, Zc, Zd, Z6, Z3, Z2, Zf, Zi, Nat.reduceAdd, Zh])); first | exact Sl.old (by assumption) _ | exact sl_nilints | exact sl_nilitems | (refine sl_ints (Z4 _) ?_; exact rfl) | (refine sl_items (Z4 _) ?_; exact rfl) | (refine sl_ints0 (Z4 _) ?_; exact rfl) | (refine sl_items0 (Z4 _) ?_; exact rfl))
         · first | assumption | exact Sl.old (by assumption) _ | ((try (simp only [deskV, deskL, Z11, Z12, Z1y, Z1h, Za, Z9, Z7, Zc, Zd, Z6, Z3, Z2, Zf, Zi, Nat.reduceAdd, Zh])); first | exact Sl.old (by assumption) _ | exact sl_nilints | exact sl_nilitems | (refine sl_ints (Z4 _) ?_; exact rfl) | (refine sl_items (Z4 _) ?_; exact rfl) | (refine sl_ints0 (Z4 _) ?_; exact rfl) | (refine sl_items0 (Z4 _) ?_; exact rfl))
         · first | assumption | omega
         · first | assumption | omega
         · first | assumption | omega
         )
      | (with_reducible refine toDesk_ok _ ?_ ?_ _ _ _ ?_ ?_ ?_ ?_
         rotate_left 2
         · first | assumption | exact Sl.old (by assumption) _ | ((try (simp only [deskV, deskL, Z11, Z12, Z1y, Z1h, Za, Z9, Z7, Zc, Zd, Z6, Z3, Z2, Zf, Zi, Nat.reduceAdd, Zh])); first | exact Sl.old (by assumption) _ | exact sl_nilints | exact sl_nilitems | (refine sl_ints (Z4 _) ?_; exact rfl) | (refine sl_items (Z4 _) ?_; exact rfl) | (refine sl_ints0 (Z4 _) ?_; exact rfl) | (refine sl_items0 (Z4 _) ?_; exact rfl))
         · first | assumption | exact Sl.old (by assumption) _ | ((try (simp only [deskV, deskL, Z11, Z12, Z1y, Z1h, Za, Z9, Z7, Zc, Zd, Z6, Z3, Z2, Zf, Zi, Nat.reduceAdd, Zh])); first | exact Sl.old (by assumption) _ | exact sl_nilints | exact sl_nilitems | (refine sl_ints (Z4 _) ?_; exact rfl) | (refine sl_items (Z4 _) ?_; exact rfl) | (refine sl_ints0 (Z4 _) ?_; exact rfl) | (refine sl_items0 (Z4 _) ?_; exact rfl))
         · first | omega | (simp only [Z2]; omega)
         · first | omega | (simp only [Z2]; omega)
         )
      | (with_reducible refine eqDesk_ok _ _ ?_ ?_ ?_ ?_ _ _ _ _ _ ?_ ?_ ?_ ?_ ?_ ?_ ?_ ?_
         rotate_left 4
         · first | assumption | exact Sl.old (by assumption) _ | ((try (simp only [deskV, deskL, Z11, Z12, Z1y, Z1h, Za, Z9, Z7, Zc, Zd, Z6, Z3, Z2, Zf, Zi, Nat.reduceAdd, Zh])); first | exact Sl.old (by assumption) _ | exact sl_nilints | exact sl_nilitems | (refine sl_ints (Z4 _) ?_; exact rfl) | (refine sl_items (Z4 _) ?_; exact rfl) | (refine sl_ints0 (Z4 _) ?_; exact rfl) | (refine sl_items0 (Z4 _) ?_; exact rfl))
         · first | assumption | exact Sl.old (by assumption) _ | ((try (simp only [deskV, deskL, Z11, Z12, Z1y, Z1h, Za, Z9, Z7, Zc, Zd, Z6, Z3, Z2, Zf, Zi, Nat.reduceAdd, Zh])); first | exact Sl.old (by assumption) _ | exact sl_nilints | exact sl_nilitems | (refine sl_ints (Z4 _) ?_; exact rfl) | (refine sl_items (Z4 _) ?_; exact rfl) | (refine sl_ints0 (Z4 _) ?_; exact rfl) | (refine sl_items0 (Z4 _) ?_; exact rfl))
         · first | assumption | exact Sl.old (by assumption) _ | ((try (simp only [deskV, deskL, Z11, Z12, Z1y, Z1h, Za, Z9, Z7, Zc, Zd, Z6, Z3, Z2, Zf, Zi, Nat.reduceAdd, Zh])); first | exact Sl.old (by assumption) _ | exact sl_nilints | exact sl_nilitems | (refine sl_ints (Z4 _) ?_; exact rfl) | (refine sl_items (Z4 _) ?_; exact rfl) | (refine sl_ints0 (Z4 _) ?_; exact rfl) | (refine sl_items0 (Z4 _) ?_; exact rfl))
         · first | assumption | exact Sl.old (by assumption) _ | ((try (simp only [deskV, deskL, Z11, Z12, Z1y, Z1h, Za, Z9, Z7, Zc, Zd, Z6, Z3, Z2, Zf, Zi, Nat.reduceAdd, Zh])); first | exact Sl.old (by assumption) _ | exact sl_nilints | exact sl_nilitems | (refine sl_ints (Z4 _) ?_; exact rfl) | (refine sl_items (Z4 _) ?_; exact rfl) | (refine sl_ints0 (Z4 _) ?_; exact rfl) | (refine sl_items0 (Z4 _) ?_; exact rfl))
         · first | omega | (simp only [Z2]; omega)
         · first | omega | (simp only [Z2]; omega)
         · first | omega | (simp only [Z2]; omega)
         · first | omega | (simp only [Z2]; omega)
         )
      | (with_reducible refine markDesk_ok ?_ ?_ ?_ ?_ _ _ _ _ _ ?_ ?_ ?_ ?_ ?_ ?_
         rotate_left 4
         · first | assumption | exact Own.old (by assumption) _ | ((try (simp only [deskV, deskL, Z11, Z12, Z1y, Z1h, Za, Z9, Z7, Zc, Zd, Z6, Z3, Z2, Zf, Zi, Nat.reduceAdd, Zh])); first | exact Own.old (by assumption) _ | exact Own.nil _ | (refine Own.at ?_ ?_ (Z4 _); (exact rfl); first | exact ints_flen _ | exact items_flen _ | (simp only [Z34]; done) | (simp only [Z34]; omega)) | (refine Own.at0 ?_ ?_ (Z4 _); (exact rfl); first | exact ints_flen _ | exact items_flen _ | (simp only [Z34]; done) | (simp only [Z34]; omega)))
         · first | assumption | exact Own.old (by assumption) _ | ((try (simp only [deskV, deskL, Z11, Z12, Z1y, Z1h, Za, Z9, Z7, Zc, Zd, Z6, Z3, Z2, Zf, Zi, Nat.reduceAdd, Zh])); first | exact Own.old (by assumption) _ | exact Own.nil _ | (refine Own.at ?_ ?_ (Z4 _); (exact rfl); first | exact ints_flen _ | exact items_flen _ | (simp only [Z34]; done) | (simp only [Z34]; omega)) | (refine Own.at0 ?_ ?_ (Z4 _); (exact rfl); first | exact ints_flen _ | exact items_flen _ | (simp only [Z34]; done) | (simp only [Z34]; omega)))
         · first | exact .inl rfl | (right; simp [bid])
         · first | omega | (simp only [Z2]; omega)
         · first | omega | (simp only [Z2]; omega)
         · first | omega | (simp only [Z2]; omega)
         )
      | (with_reducible refine heldDesk_ok ?_ ?_ _ _ _ _ _ ?_ ?_ ?_ ?_ ?_
         rotate_left 2
         · first | assumption | exact Own.old (by assumption) _ | ((try (simp only [deskV, deskL, Z11, Z12, Z1y, Z1h, Za, Z9, Z7, Zc, Zd, Z6, Z3, Z2, Zf, Zi, Nat.reduceAdd, Zh])); first | exact Own.old (by assumption) _ | exact Own.nil _ | (refine Own.at ?_ ?_ (Z4 _); (exact rfl); first | exact ints_flen _ | exact items_flen _ | (simp only [Z34]; done) | (simp only [Z34]; omega)) | (refine Own.at0 ?_ ?_ (Z4 _); (exact rfl); first | exact ints_flen _ | exact items_flen _ | (simp only [Z34]; done) | (simp only [Z34]; omega)))
         · first | assumption | exact Own.old (by assumption) _ | ((try (simp only [deskV, deskL, Z11, Z12, Z1y, Z1h, Za, Z9, Z7, Zc, Zd, Z6, Z3, Z2, Zf, Zi, Nat.reduceAdd, Zh])); first | exact Own.old (by assumption) _ | exact Own.nil _ | (refine Own.at ?_ ?_ (Z4 _); (exact rfl); first | exact ints_flen _ | exact items_flen _ | (simp only [Z34]; done) | (simp only [Z34]; omega)) | (refine Own.at0 ?_ ?_ (Z4 _); (exact rfl); first | exact ints_flen _ | exact items_flen _ | (simp only [Z34]; done) | (simp only [Z34]; omega)))
         · first | omega | (simp only [Z2]; omega)
         · first | omega | (simp only [Z2]; omega)
         · first | omega | (simp only [Z2]; omega)
         )
      | (with_reducible refine implStepDesk_ok _ people items _ _ _ _ _ _ ?_ ?_ ?_ ?_ ?_
         · first | assumption | exact Sl.old (by assumption) _ | ((try (simp only [deskV, deskL, Z11, Z12, Z1y, Z1h, Za, Z9, Z7, Zc, Zd, Z6, Z3, Z2, Zf, Zi, Nat.reduceAdd, Zh])); first | exact Sl.old (by assumption) _ | exact sl_nilints | exact sl_nilitems | (refine sl_ints (Z4 _) ?_; exact rfl) | (refine sl_items (Z4 _) ?_; exact rfl) | (refine sl_ints0 (Z4 _) ?_; exact rfl) | (refine sl_items0 (Z4 _) ?_; exact rfl))
         · first | assumption | exact Sl.old (by assumption) _ | ((try (simp only [deskV, deskL, Z11, Z12, Z1y, Z1h, Za, Z9, Z7, Zc, Zd, Z6, Z3, Z2, Zf, Zi, Nat.reduceAdd, Zh])); first | exact Sl.old (by assumption) _ | exact sl_nilints | exact sl_nilitems | (refine sl_ints (Z4 _) ?_; exact rfl) | (refine sl_items (Z4 _) ?_; exact rfl) | (refine sl_ints0 (Z4 _) ?_; exact rfl) | (refine sl_items0 (Z4 _) ?_; exact rfl))
         · first | omega | (simp only [Z2]; omega)
         · first | omega | (simp only [Z2]; omega)
         · (simp only [deskL, mset_length, Z6, Z3, Z2, List.length_set]; omega)
         )
      | (with_reducible refine specStepDesk_ok _ people items _ _ _ _ _ ?_ ?_ ?_ ?_ ?_
         · first | assumption | exact Sl.old (by assumption) _ | ((try (simp only [deskV, deskL, Z11, Z12, Z1y, Z1h, Za, Z9, Z7, Zc, Zd, Z6, Z3, Z2, Zf, Zi, Nat.reduceAdd, Zh])); first | exact Sl.old (by assumption) _ | exact sl_nilints | exact sl_nilitems | (refine sl_ints (Z4 _) ?_; exact rfl) | (refine sl_items (Z4 _) ?_; exact rfl) | (refine sl_ints0 (Z4 _) ?_; exact rfl) | (refine sl_items0 (Z4 _) ?_; exact rfl))
         · first | assumption | exact Sl.old (by assumption) _ | ((try (simp only [deskV, deskL, Z11, Z12, Z1y, Z1h, Za, Z9, Z7, Zc, Zd, Z6, Z3, Z2, Zf, Zi, Nat.reduceAdd, Zh])); first | exact Sl.old (by assumption) _ | exact sl_nilints | exact sl_nilitems | (refine sl_ints (Z4 _) ?_; exact rfl) | (refine sl_items (Z4 _) ?_; exact rfl) | (refine sl_ints0 (Z4 _) ?_; exact rfl) | (refine sl_items0 (Z4 _) ?_; exact rfl))
         · first | omega | (simp only [Z2]; omega)
         · first | omega | (simp only [Z2]; omega)
         · (intro i q; simp only [bid, Option.some.injEq] at q; simp only [deskL, mset_length, Z6, Z3, Z2, List.length_set]; omega)
         )
      | (with_reducible exact toDeskAct_ok _ _)
      | ((with_reducible refine Z2w (n := 39) ?_); rintro _ _ ⟨rfl, hh⟩; replace hh := hh.symm; subst hh)
      | ((with_reducible refine Z2w (n := 41) ?_); rintro _ _ ⟨rfl, hh⟩; replace hh := hh.symm; subst hh)
      | ((with_reducible refine Z2w (n := 43) ?_); rintro _ _ ⟨rfl, hh⟩; replace hh := hh.symm; subst hh)
      | ((with_reducible refine Z2w (n := 48) ?_); rintro _ _ ⟨rfl, hh⟩; replace hh := hh.symm; subst hh)
      | ((with_reducible refine Z2w (n := 49) ?_); rintro _ _ ⟨rfl, hh⟩; replace hh := hh.symm; subst hh)
      | ((with_reducible refine Z2w (n := 62) ?_); rintro _ _ ⟨rfl, hh⟩; replace hh := hh.symm; subst hh)
      | ((with_reducible refine Z2w (n := 63) ?_); rintro _ _ ⟨rfl, hh⟩; replace hh := hh.symm; subst hh)
      | ((with_reducible refine Z2w (n := 64) ?_); rintro _ _ ⟨rfl, hh⟩; replace hh := hh.symm; subst hh)
      )
    all_goals first | (exfalso; simp at hb; done) | (exfalso; simp at hb; omega) | skip
    refine ⟨?_⟩
    repeat' (first
      | ((with_reducible refine eq_go ?_); simp only [stp, ev, Zb, Z2e, Z1z, Zk, Zl, reduceIte, Nat.reduceEqDiff, Zj, Zz, Zu, Z16, Z1a, Zm, Zp, Zo, Zd, Zx, Z2b, Z2x, Z1g, Z17, Zq, Zn, Zv, Z2p, Z2f, Z2o, Z2d, Z2g, Z1c, Z1b, Z2i, Z2n, Z2h, Z2j, Z2k, Z2l, Z2m, Z31, Z8, Z5, Z13, Zy, binV_bool_neq, binV_bool_eql, Ty.un4, Ze, Z1, Z0, ldv, stv, vcs, blt, lenV, Z10, Z3, Z2, Zf, Zg, Ze, Z1, Z0, Z14, Zw, Zh, Zr, Z33, Z15, Z7, Zc, Z6, Z3, Z2, Zf, Zi, Nat.reduceAdd, Nat.reduceMul, Nat.reduceLeDiff, Z11, Z12, Z1y, Z1h, Z2c, Z23, Z28, Z27, Z26, Z25, Z24, Z1m, Z1l, Z1k, Z1j, Z1i, Z1w, Z1v, Z1u, Z1t, Z1s, Z32, Z2y, Z2q, Z2r, Z2s, Z20, Z1q, Z1r, Z2z, Z2t, Z21, Z22, splice, Za, Z9, Z1, Z0, Z19, Zt, Zs, Z18, newB, vcs, Z30, Z2v, Z1x, Z29, Z1n, Z2u, Z1o, Z1f, Z1p, Z1d, Z1e, Ty.ld3, Ty.sz3, Ty.zc3, Ty.by3, Ty.ld4, Ty.sz4, Ty.zc4, Ty.by4, Ty.ld24, Ty.sz24, Ty.sl24, Ty.zc24, Ty.by24, Ty.ld51, Ty.sz51, Ty.sl51, Ty.zc51, Ty.by51, Ty.ld53, Ty.sz53, Ty.zc53, Ty.by53, Ty.ld56, Ty.sz56, Ty.sl56, Ty.zc56, Ty.by56, Ty.ld58, Ty.sz58, Ty.zc58, Ty.by58, Ty.ld77, Ty.sz77, Ty.zc77, Ty.by77, Ty.ld80, Ty.sz80, Ty.zc80, Ty.by80, Ty.ld85, Ty.sz85, Ty.zc85, Ty.by85, Ty.ld132, Ty.sz132, Ty.zc132, Ty.by132, DAct.cells_length, DAct.cells_flat, DAct.cells_take, deskV, deskL, stepDV, stepDL, cellsL, Bool.false_eq_true, if_false, *]; rfl)
      | (with_reducible refine aw_then ?_) | (with_reducible refine aw_skip ?_) | (with_reducible refine aw_ret ?_) | (with_reducible refine aw_exit ?_) | (with_reducible refine aw_block ?_) | (with_reducible refine xr_reg (by decide +kernel) ?_)
      | (with_reducible refine xr_nil ?_) | (with_reducible refine k_norm ?_) | (with_reducible refine k_ret ?_) | (with_reducible refine k_exit ?_) | (with_reducible refine b_norm ?_) | (with_reducible refine b_ret ?_) | (with_reducible refine b_exit ?_) | (with_reducible refine b_past (by decide) ?_)
      | (with_reducible refine xd_nil ?_)
      | (refine xr_cl (f := ?_) (fs := ?_) (cs := ?_) (args := ?_) (K := ?_) ?_ ?_ ?_ ?_ ?_
         rotate_left 5
         · simp only [ev]; rfl
         first
         | (· with_reducible exact Ty.ok39
            rotate_left 2
            refine Z2a 39 ?_
            rotate_right 2)
         | (· with_reducible exact Ty.ok41
            rotate_left 2
            refine Z2a 41 ?_
            rotate_right 2)
         | (· with_reducible exact Ty.ok43
            rotate_left 2
            refine Z2a 43 ?_
            rotate_right 2)
         | (· with_reducible exact Ty.ok48
            rotate_left 2
            refine Z2a 48 ?_
            rotate_right 2)
         | (· with_reducible exact Ty.ok49
            rotate_left 2
            refine Z2a 49 ?_
            rotate_right 2)
         | (· with_reducible exact Ty.ok62
            rotate_left 2
            refine Z2a 62 ?_
            rotate_right 2)
         | (· with_reducible exact Ty.ok63
            rotate_left 2
            refine Z2a 63 ?_
            rotate_right 2)
         | (· with_reducible exact Ty.ok64
            rotate_left 2
            refine Z2a 64 ?_
            rotate_right 2)
         )
      | (refine xr_gcl (f := ?_) (fs := ?_) (cs := ?_) (args := ?_) (K := ?_) (by exact rfl) ?_ ?_ ?_ ?_ ?_ ?_
         rotate_left 5
         · simp only [ev, Zb, reduceIte, Nat.reduceEqDiff, Z8, Z5, *]
         · simp only [ev]; rfl
         first
         | (· with_reducible exact Ty.ok39
            rotate_left 2
            refine Z2a 39 ?_
            rotate_right 2)
         | (· with_reducible exact Ty.ok41
            rotate_left 2
            refine Z2a 41 ?_
            rotate_right 2)
         | (· with_reducible exact Ty.ok43
            rotate_left 2
            refine Z2a 43 ?_
            rotate_right 2)
         | (· with_reducible exact Ty.ok48
            rotate_left 2
            refine Z2a 48 ?_
            rotate_right 2)
         | (· with_reducible exact Ty.ok49
            rotate_left 2
            refine Z2a 49 ?_
            rotate_right 2)
         | (· with_reducible exact Ty.ok62
            rotate_left 2
            refine Z2a 62 ?_
            rotate_right 2)
         | (· with_reducible exact Ty.ok63
            rotate_left 2
            refine Z2a 63 ?_
            rotate_right 2)
         | (· with_reducible exact Ty.ok64
            rotate_left 2
            refine Z2a 64 ?_
            rotate_right 2)
         )
      | (refine xd_clnew (f := ?_) (fs := ?_) (cs := ?_) (args := ?_) (v := ?_) (L := ?_) ?_ ?_ ?_ ?_ ?_ ?_
         rotate_left 6
         · simp only [ev]; rfl
         · first | with_reducible exact Ty.ok41 | with_reducible exact Ty.ok62 | with_reducible exact Ty.ok63
         rotate_left 1
         · decide +kernel
         rotate_right 1)
      | (refine xd_cl (f := ?_) (fs := ?_) (cs := ?_) (args := ?_) (v := ?_) ?_ ?_ ?_ ?_ ?_ ?_
         rotate_left 5
         · simp only [ev]; rfl
         · first | with_reducible exact Ty.ok39 | with_reducible exact Ty.ok43 | with_reducible exact Ty.ok48 | with_reducible exact Ty.ok49 | with_reducible exact Ty.ok64
         rotate_left 1
         · decide +kernel
         rotate_right 1)
      | (refine xd_gcl (f := ?_) (fs := ?_) (cs := ?_) (args := ?_) (v := ?_) (by exact rfl) ?_ ?_ ?_ ?_ ?_ ?_ ?_
         rotate_left 5
         · simp only [ev, Zb, reduceIte, Nat.reduceEqDiff, Z8, Z5, *]
         · simp only [ev]; rfl
         · first | with_reducible exact Ty.ok39 | with_reducible exact Ty.ok43 | with_reducible exact Ty.ok48 | with_reducible exact Ty.ok49 | with_reducible exact Ty.ok64
         rotate_left 1
         · decide +kernel
         rotate_right 1)
      | (refine xr_do (v := ?_) (h' := ?_) (by exact rfl) ?_ ?_; rotate_left 2)
      | (refine xr_st (v := ?_) (h' := ?_) (by exact rfl) ?_ ?_; rotate_left 2)
      | (refine xe_reg (ms := [0, 1, 0, 7, 15, 31, 63, 63, 63, 0, 639, 1791, 4095]) Ty.mx (by decide +kernel) (by decide +kernel) [[],[],[],[],[],[],[],[],[],[],[h.length + 27],[],[]] ?_)
      | (refine xd_reg (ms := [0, 0, 2, 7, 15, 31, 31, 31, 0, 319, 895, 2047]) Ty.mx (by decide +kernel) (by decide +kernel) ?_)
      | (refine xd_reg (ms := [0, 0, 2, 7, 15]) Ty.mx (by decide +kernel) (by decide +kernel) ?_)
      | (with_reducible refine xe_nil ?_)
      | (refine xe_do (v := ?_) (ids := []) (by exact rfl) (by decide +kernel) (by exact rfl) (by exact rfl) ?_ ?_; rotate_left 1)
      | (refine xe_st (v := ?_) (a := ?_) (h' := ?_) (ids := []) (by decide +kernel) (by exact rfl) ?_ ?_ ?_ ?_ ?_
         rotate_left 3
         · simp only [stp, ev, Zb, Z2e, Z1z, Zk, Zl, reduceIte, Nat.reduceEqDiff, Zj, Zz, Zu, Z16, Z1a, Zm, Zp, Zo, Zd, Zx, Z2b, Z2x, Z1g, Z17, Zq, Zn, Zv, Z2p, Z2f, Z2o, Z2d, Z2g, Z1c, Z1b, Z2i, Z2n, Z2h, Z2j, Z2k, Z2l, Z2m, Z31, Z8, Z5, Z13, Zy, binV_bool_neq, binV_bool_eql, Ty.un4, Ze, Z1, Z0, ldv, stv, vcs, blt, lenV, Z10, Z3, Z2, Zf, Zg, Ze, Z1, Z0, Z14, Zw, Zh, Zr, Z33, Z15, Z7, Zc, Z6, Z3, Z2, Zf, Zi, Nat.reduceAdd, Nat.reduceMul, Nat.reduceLeDiff, Z11, Z12, Z1y, Z1h, Z2c, Z23, Z28, Z27, Z26, Z25, Z24, Z1m, Z1l, Z1k, Z1j, Z1i, Z1w, Z1v, Z1u, Z1t, Z1s, Z32, Z2y, Z2q, Z2r, Z2s, Z20, Z1q, Z1r, Z2z, Z2t, Z21, Z22, splice, Za, Z9, Z1, Z0, Z19, Zt, Zs, Z18, newB, vcs, Z30, Z2v, Z1x, Z29, Z1n, Z2u, Z1o, Z1f, Z1p, Z1d, Z1e, Ty.ld3, Ty.sz3, Ty.zc3, Ty.by3, Ty.ld4, Ty.sz4, Ty.zc4, Ty.by4, Ty.ld24, Ty.sz24, Ty.sl24, Ty.zc24, Ty.by24, Ty.ld51, Ty.sz51, Ty.sl51, Ty.zc51, Ty.by51, Ty.ld53, Ty.sz53, Ty.zc53, Ty.by53, Ty.ld56, Ty.sz56, Ty.sl56, Ty.zc56, Ty.by56, Ty.ld58, Ty.sz58, Ty.zc58, Ty.by58, Ty.ld77, Ty.sz77, Ty.zc77, Ty.by77, Ty.ld80, Ty.sz80, Ty.zc80, Ty.by80, Ty.ld85, Ty.sz85, Ty.zc85, Ty.by85, Ty.ld132, Ty.sz132, Ty.zc132, Ty.by132, DAct.cells_length, DAct.cells_flat, DAct.cells_take, deskV, deskL, stepDV, stepDL, cellsL, Bool.false_eq_true, if_false, *]; rfl
         · exact rfl
         · simp
         skip)
      | (refine xe_do (v := ?_) (ids := [h.length + 27]) (by exact rfl) (by decide +kernel) (by exact rfl) (by exact rfl) ?_ ?_; rotate_left 1)
      | (refine xe_st (v := ?_) (a := ?_) (h' := ?_) (ids := [h.length + 27]) (by decide +kernel) (by exact rfl) ?_ ?_ ?_ ?_ ?_
         rotate_left 3
         · simp only [stp, ev, Zb, Z2e, Z1z, Zk, Zl, reduceIte, Nat.reduceEqDiff, Zj, Zz, Zu, Z16, Z1a, Zm, Zp, Zo, Zd, Zx, Z2b, Z2x, Z1g, Z17, Zq, Zn, Zv, Z2p, Z2f, Z2o, Z2d, Z2g, Z1c, Z1b, Z2i, Z2n, Z2h, Z2j, Z2k, Z2l, Z2m, Z31, Z8, Z5, Z13, Zy, binV_bool_neq, binV_bool_eql, Ty.un4, Ze, Z1, Z0, ldv, stv, vcs, blt, lenV, Z10, Z3, Z2, Zf, Zg, Ze, Z1, Z0, Z14, Zw, Zh, Zr, Z33, Z15, Z7, Zc, Z6, Z3, Z2, Zf, Zi, Nat.reduceAdd, Nat.reduceMul, Nat.reduceLeDiff, Z11, Z12, Z1y, Z1h, Z2c, Z23, Z28, Z27, Z26, Z25, Z24, Z1m, Z1l, Z1k, Z1j, Z1i, Z1w, Z1v, Z1u, Z1t, Z1s, Z32, Z2y, Z2q, Z2r, Z2s, Z20, Z1q, Z1r, Z2z, Z2t, Z21, Z22, splice, Za, Z9, Z1, Z0, Z19, Zt, Zs, Z18, newB, vcs, Z30, Z2v, Z1x, Z29, Z1n, Z2u, Z1o, Z1f, Z1p, Z1d, Z1e, Ty.ld3, Ty.sz3, Ty.zc3, Ty.by3, Ty.ld4, Ty.sz4, Ty.zc4, Ty.by4, Ty.ld24, Ty.sz24, Ty.sl24, Ty.zc24, Ty.by24, Ty.ld51, Ty.sz51, Ty.sl51, Ty.zc51, Ty.by51, Ty.ld53, Ty.sz53, Ty.zc53, Ty.by53, Ty.ld56, Ty.sz56, Ty.sl56, Ty.zc56, Ty.by56, Ty.ld58, Ty.sz58, Ty.zc58, Ty.by58, Ty.ld77, Ty.sz77, Ty.zc77, Ty.by77, Ty.ld80, Ty.sz80, Ty.zc80, Ty.by80, Ty.ld85, Ty.sz85, Ty.zc85, Ty.by85, Ty.ld132, Ty.sz132, Ty.zc132, Ty.by132, DAct.cells_length, DAct.cells_flat, DAct.cells_take, deskV, deskL, stepDV, stepDL, cellsL, Bool.false_eq_true, if_false, *]; rfl
         · exact rfl
         · simp
         skip)
      | (refine xe_alloc (z := ?_) ?_ ?_ (by exact rfl) ?_
         rotate_left 1
         · first | exact Ty.zc3 | exact Ty.zc4 | exact Ty.zc53 | exact Ty.zc58 | exact Ty.zc80 | exact Ty.zc85
         · decide)
      | (refine xe_pure (ids := []) (f := ?_) (fs := ?_) (cs := ?_) (args := ?_) (v := ?_) ?_ ?_ ?_ (by decide +kernel) (by exact rfl) (by exact rfl) ?_ ?_
         rotate_left 5
         · simp only [ev]; rfl
         · first | with_reducible exact Ty.ok39 | with_reducible exact Ty.ok43 | with_reducible exact Ty.ok48 | with_reducible exact Ty.ok49 | with_reducible exact Ty.ok64
         · simp only [stp, ev, Zb, Z2e, Z1z, Zk, Zl, reduceIte, Nat.reduceEqDiff, Zj, Zz, Zu, Z16, Z1a, Zm, Zp, Zo, Zd, Zx, Z2b, Z2x, Z1g, Z17, Zq, Zn, Zv, Z2p, Z2f, Z2o, Z2d, Z2g, Z1c, Z1b, Z2i, Z2n, Z2h, Z2j, Z2k, Z2l, Z2m, Z31, Z8, Z5, Z13, Zy, binV_bool_neq, binV_bool_eql, Ty.un4, Ze, Z1, Z0, ldv, stv, vcs, blt, lenV, Z10, Z3, Z2, Zf, Zg, Ze, Z1, Z0, Z14, Zw, Zh, Zr, Z33, Z15, Z7, Zc, Z6, Z3, Z2, Zf, Zi, Nat.reduceAdd, Nat.reduceMul, Nat.reduceLeDiff, Z11, Z12, Z1y, Z1h, Z2c, Z23, Z28, Z27, Z26, Z25, Z24, Z1m, Z1l, Z1k, Z1j, Z1i, Z1w, Z1v, Z1u, Z1t, Z1s, Z32, Z2y, Z2q, Z2r, Z2s, Z20, Z1q, Z1r, Z2z, Z2t, Z21, Z22, splice, Za, Z9, Z1, Z0, Z19, Zt, Zs, Z18, newB, vcs, Z30, Z2v, Z1x, Z29, Z1n, Z2u, Z1o, Z1f, Z1p, Z1d, Z1e, Ty.ld3, Ty.sz3, Ty.zc3, Ty.by3, Ty.ld4, Ty.sz4, Ty.zc4, Ty.by4, Ty.ld24, Ty.sz24, Ty.sl24, Ty.zc24, Ty.by24, Ty.ld51, Ty.sz51, Ty.sl51, Ty.zc51, Ty.by51, Ty.ld53, Ty.sz53, Ty.zc53, Ty.by53, Ty.ld56, Ty.sz56, Ty.sl56, Ty.zc56, Ty.by56, Ty.ld58, Ty.sz58, Ty.zc58, Ty.by58, Ty.ld77, Ty.sz77, Ty.zc77, Ty.by77, Ty.ld80, Ty.sz80, Ty.zc80, Ty.by80, Ty.ld85, Ty.sz85, Ty.zc85, Ty.by85, Ty.ld132, Ty.sz132, Ty.zc132, Ty.by132, DAct.cells_length, DAct.cells_flat, DAct.cells_take, deskV, deskL, stepDV, stepDL, cellsL, Bool.false_eq_true, if_false, *]; rfl
         · first
           | (with_reducible refine szDesk_ok _ ?_ ?_ _ _ _ _ ?_ ?_ ?_ ?_ ?_
              rotate_left 2
              · first | assumption | exact Sl.old (by assumption) _ | ((try (simp only [deskV, deskL, Z11, Z12, Z1y, Z1h, Za, Z9, Z7, Zc, Zd, Z6, Z3, Z2, Zf, Zi, Nat.reduceAdd, Zh])); first | exact Sl.old (by assumption) _ | exact sl_nilints | exact sl_nilitems | (refine sl_ints (Z4 _) ?_; exact rfl) | (refine sl_items (Z4 _) ?_; exact rfl) | (refine sl_ints0 (Z4 _) ?_; exact rfl) | (refine sl_items0 (Z4 _) ?_; exact rfl))
              · first | assumption | exact Sl.old (by assumption) _ | ((try (simp only [deskV, deskL, Z11, Z12, Z1y, Z1h, Za, Z9, Z7, Zc, Zd, Z6, Z3, Z2, Zf, Zi, Nat.reduceAdd, Zh])); first | exact Sl.old (by assumption) _ | exact sl_nilints | exact sl_nilitems | (refine sl_ints (Z4 _) ?_; exact rfl) | (refine sl_items (Z4 _) ?_; exact rfl) | (refine sl_ints0 (Z4 _) ?_; exact rfl) | (refine sl_items0 (Z4 _) ?_; exact rfl))
              · first | assumption | omega
              · first | assumption | omega
              · first | assumption | omega
              )
           | (with_reducible refine eqDesk_ok _ _ ?_ ?_ ?_ ?_ _ _ _ _ _ ?_ ?_ ?_ ?_ ?_ ?_ ?_ ?_
              rotate_left 4
              · first | assumption | exact Sl.old (by assumption) _ | ((try (simp only [deskV, deskL, Z11, Z12, Z1y, Z1h, Za, Z9, Z7, Zc, Zd, Z6, Z3, Z2, Zf, Zi, Nat.reduceAdd, Zh])); first | exact Sl.old (by assumption) _ | exact sl_nilints | exact sl_nilitems | (refine sl_ints (Z4 _) ?_; exact rfl) | (refine sl_items (Z4 _) ?_; exact rfl) | (refine sl_ints0 (Z4 _) ?_; exact rfl) | (refine sl_items0 (Z4 _) ?_; exact rfl))
              · first | assumption | exact Sl.old (by assumption) _ | ((try (simp only [deskV, deskL, Z11, Z12, Z1y, Z1h, Za, Z9, Z7, Zc, Zd, Z6, Z3, Z2, Zf, Zi, Nat.reduceAdd, Zh])); first | exact Sl.old (by assumption) _ | exact sl_nilints | exact sl_nilitems | (refine sl_ints (Z4 _) ?_; exact rfl) | (refine sl_items (Z4 _) ?_; exact rfl) | (refine sl_ints0 (Z4 _) ?_; exact rfl) | (refine sl_items0 (Z4 _) ?_; exact rfl))
              · first | assumption | exact Sl.old (by assumption) _ | ((try (simp only [deskV, deskL, Z11, Z12, Z1y, Z1h, Za, Z9, Z7, Zc, Zd, Z6, Z3, Z2, Zf, Zi, Nat.reduceAdd, Zh])); first | exact Sl.old (by assumption) _ | exact sl_nilints | exact sl_nilitems | (refine sl_ints (Z4 _) ?_; exact rfl) | (refine sl_items (Z4 _) ?_; exact rfl) | (refine sl_ints0 (Z4 _) ?_; exact rfl) | (refine sl_items0 (Z4 _) ?_; exact rfl))
              · first | assumption | exact Sl.old (by assumption) _ | ((try (simp only [deskV, deskL, Z11, Z12, Z1y, Z1h, Za, Z9, Z7, Zc, Zd, Z6, Z3, Z2, Zf, Zi, Nat.reduceAdd, Zh])); first | exact Sl.old (by assumption) _ | exact sl_nilints | exact sl_nilitems | (refine sl_ints (Z4 _) ?_; exact rfl) | (refine sl_items (Z4 _) ?_; exact rfl) | (refine sl_ints0 (Z4 _) ?_; exact rfl) | (refine sl_items0 (Z4 _) ?_; exact rfl))
              · omega
              · omega
              · omega
              · omega
              )
           | (with_reducible refine markDesk_ok ?_ ?_ ?_ ?_ _ _ _ _ _ ?_ ?_ ?_ ?_ ?_ ?_
              rotate_left 4
              · first | assumption | exact Own.old (by assumption) _ | ((try (simp only [deskV, deskL, Z11, Z12, Z1y, Z1h, Za, Z9, Z7, Zc, Zd, Z6, Z3, Z2, Zf, Zi, Nat.reduceAdd, Zh])); first | exact Own.old (by assumption) _ | exact Own.nil _ | (refine Own.at ?_ ?_ (Z4 _); (exact rfl); first | exact ints_flen _ | exact items_flen _ | (simp only [Z34]; done) | (simp only [Z34]; omega)) | (refine Own.at0 ?_ ?_ (Z4 _); (exact rfl); first | exact ints_flen _ | exact items_flen _ | (simp only [Z34]; done) | (simp only [Z34]; omega)))
              · first | assumption | exact Own.old (by assumption) _ | ((try (simp only [deskV, deskL, Z11, Z12, Z1y, Z1h, Za, Z9, Z7, Zc, Zd, Z6, Z3, Z2, Zf, Zi, Nat.reduceAdd, Zh])); first | exact Own.old (by assumption) _ | exact Own.nil _ | (refine Own.at ?_ ?_ (Z4 _); (exact rfl); first | exact ints_flen _ | exact items_flen _ | (simp only [Z34]; done) | (simp only [Z34]; omega)) | (refine Own.at0 ?_ ?_ (Z4 _); (exact rfl); first | exact ints_flen _ | exact items_flen _ | (simp only [Z34]; done) | (simp only [Z34]; omega)))
              · first | exact .inl rfl | (right; simp [bid])
              · omega
              · omega
              · omega
              )
           | (with_reducible refine heldDesk_ok ?_ ?_ _ _ _ _ _ ?_ ?_ ?_ ?_ ?_
              rotate_left 2
              · first | assumption | exact Own.old (by assumption) _ | ((try (simp only [deskV, deskL, Z11, Z12, Z1y, Z1h, Za, Z9, Z7, Zc, Zd, Z6, Z3, Z2, Zf, Zi, Nat.reduceAdd, Zh])); first | exact Own.old (by assumption) _ | exact Own.nil _ | (refine Own.at ?_ ?_ (Z4 _); (exact rfl); first | exact ints_flen _ | exact items_flen _ | (simp only [Z34]; done) | (simp only [Z34]; omega)) | (refine Own.at0 ?_ ?_ (Z4 _); (exact rfl); first | exact ints_flen _ | exact items_flen _ | (simp only [Z34]; done) | (simp only [Z34]; omega)))
              · first | assumption | exact Own.old (by assumption) _ | ((try (simp only [deskV, deskL, Z11, Z12, Z1y, Z1h, Za, Z9, Z7, Zc, Zd, Z6, Z3, Z2, Zf, Zi, Nat.reduceAdd, Zh])); first | exact Own.old (by assumption) _ | exact Own.nil _ | (refine Own.at ?_ ?_ (Z4 _); (exact rfl); first | exact ints_flen _ | exact items_flen _ | (simp only [Z34]; done) | (simp only [Z34]; omega)) | (refine Own.at0 ?_ ?_ (Z4 _); (exact rfl); first | exact ints_flen _ | exact items_flen _ | (simp only [Z34]; done) | (simp only [Z34]; omega)))
              · omega
              · omega
              · omega
              )
           | (with_reducible refine toDeskAct_ok _ _
              )
         skip)
      | (refine xe_cl (f := ?_) (fs := ?_) (cs := ?_) (args := ?_) (v := ?_) (ids := []) (L := ?_) (a := true) ?_ ?_ ?_ (by decide +kernel) (by exact rfl) (by exact rfl) (fun q => by cases q) ?_ ?_
         rotate_left 6
         · simp only [ev]; rfl
         · first | with_reducible exact Ty.ok41 | with_reducible exact Ty.ok62 | with_reducible exact Ty.ok63
         · simp only [stp, ev, Zb, Z2e, Z1z, Zk, Zl, reduceIte, Nat.reduceEqDiff, Zj, Zz, Zu, Z16, Z1a, Zm, Zp, Zo, Zd, Zx, Z2b, Z2x, Z1g, Z17, Zq, Zn, Zv, Z2p, Z2f, Z2o, Z2d, Z2g, Z1c, Z1b, Z2i, Z2n, Z2h, Z2j, Z2k, Z2l, Z2m, Z31, Z8, Z5, Z13, Zy, binV_bool_neq, binV_bool_eql, Ty.un4, Ze, Z1, Z0, ldv, stv, vcs, blt, lenV, Z10, Z3, Z2, Zf, Zg, Ze, Z1, Z0, Z14, Zw, Zh, Zr, Z33, Z15, Z7, Zc, Z6, Z3, Z2, Zf, Zi, Nat.reduceAdd, Nat.reduceMul, Nat.reduceLeDiff, Z11, Z12, Z1y, Z1h, Z2c, Z23, Z28, Z27, Z26, Z25, Z24, Z1m, Z1l, Z1k, Z1j, Z1i, Z1w, Z1v, Z1u, Z1t, Z1s, Z32, Z2y, Z2q, Z2r, Z2s, Z20, Z1q, Z1r, Z2z, Z2t, Z21, Z22, splice, Za, Z9, Z1, Z0, Z19, Zt, Zs, Z18, newB, vcs, Z30, Z2v, Z1x, Z29, Z1n, Z2u, Z1o, Z1f, Z1p, Z1d, Z1e, Ty.ld3, Ty.sz3, Ty.zc3, Ty.by3, Ty.ld4, Ty.sz4, Ty.zc4, Ty.by4, Ty.ld24, Ty.sz24, Ty.sl24, Ty.zc24, Ty.by24, Ty.ld51, Ty.sz51, Ty.sl51, Ty.zc51, Ty.by51, Ty.ld53, Ty.sz53, Ty.zc53, Ty.by53, Ty.ld56, Ty.sz56, Ty.sl56, Ty.zc56, Ty.by56, Ty.ld58, Ty.sz58, Ty.zc58, Ty.by58, Ty.ld77, Ty.sz77, Ty.zc77, Ty.by77, Ty.ld80, Ty.sz80, Ty.zc80, Ty.by80, Ty.ld85, Ty.sz85, Ty.zc85, Ty.by85, Ty.ld132, Ty.sz132, Ty.zc132, Ty.by132, DAct.cells_length, DAct.cells_flat, DAct.cells_take, deskV, deskL, stepDV, stepDL, cellsL, Bool.false_eq_true, if_false, *]; rfl
         · simp only [Z2c]
           first
           | (with_reducible refine toDesk_ok _ ?_ ?_ _ _ _ ?_ ?_ ?_ ?_
              rotate_left 2
              · first | assumption | exact Sl.old (by assumption) _ | ((try (simp only [deskV, deskL, Z11, Z12, Z1y, Z1h, Za, Z9, Z7, Zc, Zd, Z6, Z3, Z2, Zf, Zi, Nat.reduceAdd, Zh])); first | exact Sl.old (by assumption) _ | exact sl_nilints | exact sl_nilitems | (refine sl_ints (Z4 _) ?_; exact rfl) | (refine sl_items (Z4 _) ?_; exact rfl) | (refine sl_ints0 (Z4 _) ?_; exact rfl) | (refine sl_items0 (Z4 _) ?_; exact rfl))
              · first | assumption | exact Sl.old (by assumption) _ | ((try (simp only [deskV, deskL, Z11, Z12, Z1y, Z1h, Za, Z9, Z7, Zc, Zd, Z6, Z3, Z2, Zf, Zi, Nat.reduceAdd, Zh])); first | exact Sl.old (by assumption) _ | exact sl_nilints | exact sl_nilitems | (refine sl_ints (Z4 _) ?_; exact rfl) | (refine sl_items (Z4 _) ?_; exact rfl) | (refine sl_ints0 (Z4 _) ?_; exact rfl) | (refine sl_items0 (Z4 _) ?_; exact rfl))
              · omega
              · omega
              )
           | (with_reducible refine implStepDesk_ok _ people items _ _ _ _ _ _ ?_ ?_ ?_ ?_ ?_
              · first | assumption | exact Sl.old (by assumption) _ | ((try (simp only [deskV, deskL, Z11, Z12, Z1y, Z1h, Za, Z9, Z7, Zc, Zd, Z6, Z3, Z2, Zf, Zi, Nat.reduceAdd, Zh])); first | exact Sl.old (by assumption) _ | exact sl_nilints | exact sl_nilitems | (refine sl_ints (Z4 _) ?_; exact rfl) | (refine sl_items (Z4 _) ?_; exact rfl) | (refine sl_ints0 (Z4 _) ?_; exact rfl) | (refine sl_items0 (Z4 _) ?_; exact rfl))
              · first | assumption | exact Sl.old (by assumption) _ | ((try (simp only [deskV, deskL, Z11, Z12, Z1y, Z1h, Za, Z9, Z7, Zc, Zd, Z6, Z3, Z2, Zf, Zi, Nat.reduceAdd, Zh])); first | exact Sl.old (by assumption) _ | exact sl_nilints | exact sl_nilitems | (refine sl_ints (Z4 _) ?_; exact rfl) | (refine sl_items (Z4 _) ?_; exact rfl) | (refine sl_ints0 (Z4 _) ?_; exact rfl) | (refine sl_items0 (Z4 _) ?_; exact rfl))
              · omega
              · omega
              · (simp only [deskL, mset_length, Z6, Z3, Z2, List.length_set]; omega)
              )
           | (with_reducible refine specStepDesk_ok _ people items _ _ _ _ _ ?_ ?_ ?_ ?_ ?_
              · first | assumption | exact Sl.old (by assumption) _ | ((try (simp only [deskV, deskL, Z11, Z12, Z1y, Z1h, Za, Z9, Z7, Zc, Zd, Z6, Z3, Z2, Zf, Zi, Nat.reduceAdd, Zh])); first | exact Sl.old (by assumption) _ | exact sl_nilints | exact sl_nilitems | (refine sl_ints (Z4 _) ?_; exact rfl) | (refine sl_items (Z4 _) ?_; exact rfl) | (refine sl_ints0 (Z4 _) ?_; exact rfl) | (refine sl_items0 (Z4 _) ?_; exact rfl))
              · first | assumption | exact Sl.old (by assumption) _ | ((try (simp only [deskV, deskL, Z11, Z12, Z1y, Z1h, Za, Z9, Z7, Zc, Zd, Z6, Z3, Z2, Zf, Zi, Nat.reduceAdd, Zh])); first | exact Sl.old (by assumption) _ | exact sl_nilints | exact sl_nilitems | (refine sl_ints (Z4 _) ?_; exact rfl) | (refine sl_items (Z4 _) ?_; exact rfl) | (refine sl_ints0 (Z4 _) ?_; exact rfl) | (refine sl_items0 (Z4 _) ?_; exact rfl))
              · omega
              · omega
              · (intro i q; simp only [bid, Option.some.injEq] at q; simp only [deskL, mset_length, Z6, Z3, Z2, List.length_set]; omega)
              )
         skip)
      | (refine xe_free (X := ?_) (Y := ?_) (ids := []) (v := ?_) (by exact rfl) (by exact rfl) ?_ (by exact rfl) ?_ ?_ ?_
         rotate_left 2
         · exact rfl
         · (try simp only [outL_cons, outL_nil]); simp only [Z2c, stp, ev, Zb, Z2e, Z1z, Zk, Zl, reduceIte, Nat.reduceEqDiff, Zj, Zz, Zu, Z16, Z1a, Zm, Zp, Zo, Zd, Zx, Z2b, Z2x, Z1g, Z17, Zq, Zn, Zv, Z2p, Z2f, Z2o, Z2d, Z2g, Z1c, Z1b, Z2i, Z2n, Z2h, Z2j, Z2k, Z2l, Z2m, Z31, Z8, Z5, Z13, Zy, binV_bool_neq, binV_bool_eql, Ty.un4, Ze, Z1, Z0, ldv, stv, vcs, blt, lenV, Z10, Z3, Z2, Zf, Zg, Ze, Z1, Z0, Z14, Zw, Zh, Zr, Z33, Z15, Z7, Zc, Z6, Z3, Z2, Zf, Zi, Nat.reduceAdd, Nat.reduceMul, Nat.reduceLeDiff, Z11, Z12, Z1y, Z1h, Z2c, Z23, Z28, Z27, Z26, Z25, Z24, Z1m, Z1l, Z1k, Z1j, Z1i, Z1w, Z1v, Z1u, Z1t, Z1s, Z32, Z2y, Z2q, Z2r, Z2s, Z20, Z1q, Z1r, Z2z, Z2t, Z21, Z22, splice, Za, Z9, Z1, Z0, Z19, Zt, Zs, Z18, newB, vcs, Z30, Z2v, Z1x, Z29, Z1n, Z2u, Z1o, Z1f, Z1p, Z1d, Z1e, Ty.ld3, Ty.sz3, Ty.zc3, Ty.by3, Ty.ld4, Ty.sz4, Ty.zc4, Ty.by4, Ty.ld24, Ty.sz24, Ty.sl24, Ty.zc24, Ty.by24, Ty.ld51, Ty.sz51, Ty.sl51, Ty.zc51, Ty.by51, Ty.ld53, Ty.sz53, Ty.zc53, Ty.by53, Ty.ld56, Ty.sz56, Ty.sl56, Ty.zc56, Ty.by56, Ty.ld58, Ty.sz58, Ty.zc58, Ty.by58, Ty.ld77, Ty.sz77, Ty.zc77, Ty.by77, Ty.ld80, Ty.sz80, Ty.zc80, Ty.by80, Ty.ld85, Ty.sz85, Ty.zc85, Ty.by85, Ty.ld132, Ty.sz132, Ty.zc132, Ty.by132, DAct.cells_length, DAct.cells_flat, DAct.cells_take, deskV, deskL, stepDV, stepDL, cellsL, Bool.false_eq_true, if_false, *]; rfl
         · (first | exact ids_af (DAct.af _))
         skip)
      | (refine xe_free (X := ?_) (Y := ?_) (ids := []) (v := ?_) (by exact rfl) (by exact rfl) ?_ (by exact rfl) ?_ ?_ ?_
         rotate_left 2
         · exact Z7 _ _ _
         · (try simp only [outL_cons, outL_nil]); simp only [Z2c, stp, ev, Zb, Z2e, Z1z, Zk, Zl, reduceIte, Nat.reduceEqDiff, Zj, Zz, Zu, Z16, Z1a, Zm, Zp, Zo, Zd, Zx, Z2b, Z2x, Z1g, Z17, Zq, Zn, Zv, Z2p, Z2f, Z2o, Z2d, Z2g, Z1c, Z1b, Z2i, Z2n, Z2h, Z2j, Z2k, Z2l, Z2m, Z31, Z8, Z5, Z13, Zy, binV_bool_neq, binV_bool_eql, Ty.un4, Ze, Z1, Z0, ldv, stv, vcs, blt, lenV, Z10, Z3, Z2, Zf, Zg, Ze, Z1, Z0, Z14, Zw, Zh, Zr, Z33, Z15, Z7, Zc, Z6, Z3, Z2, Zf, Zi, Nat.reduceAdd, Nat.reduceMul, Nat.reduceLeDiff, Z11, Z12, Z1y, Z1h, Z2c, Z23, Z28, Z27, Z26, Z25, Z24, Z1m, Z1l, Z1k, Z1j, Z1i, Z1w, Z1v, Z1u, Z1t, Z1s, Z32, Z2y, Z2q, Z2r, Z2s, Z20, Z1q, Z1r, Z2z, Z2t, Z21, Z22, splice, Za, Z9, Z1, Z0, Z19, Zt, Zs, Z18, newB, vcs, Z30, Z2v, Z1x, Z29, Z1n, Z2u, Z1o, Z1f, Z1p, Z1d, Z1e, Ty.ld3, Ty.sz3, Ty.zc3, Ty.by3, Ty.ld4, Ty.sz4, Ty.zc4, Ty.by4, Ty.ld24, Ty.sz24, Ty.sl24, Ty.zc24, Ty.by24, Ty.ld51, Ty.sz51, Ty.sl51, Ty.zc51, Ty.by51, Ty.ld53, Ty.sz53, Ty.zc53, Ty.by53, Ty.ld56, Ty.sz56, Ty.sl56, Ty.zc56, Ty.by56, Ty.ld58, Ty.sz58, Ty.zc58, Ty.by58, Ty.ld77, Ty.sz77, Ty.zc77, Ty.by77, Ty.ld80, Ty.sz80, Ty.zc80, Ty.by80, Ty.ld85, Ty.sz85, Ty.zc85, Ty.by85, Ty.ld132, Ty.sz132, Ty.zc132, Ty.by132, DAct.cells_length, DAct.cells_flat, DAct.cells_take, deskV, deskL, stepDV, stepDL, cellsL, Bool.false_eq_true, if_false, *]; rfl
         · (first | exact ids_af (DAct.af _))
         skip)
      | (refine xe_free (X := ?_) (Y := ?_) (ids := []) (v := ?_) (by exact rfl) (by exact rfl) ?_ (by exact rfl) ?_ ?_ ?_
         rotate_left 2
         · exact (Z7 _ _ _).symm
         · (try simp only [outL_cons, outL_nil]); simp only [Z2c, stp, ev, Zb, Z2e, Z1z, Zk, Zl, reduceIte, Nat.reduceEqDiff, Zj, Zz, Zu, Z16, Z1a, Zm, Zp, Zo, Zd, Zx, Z2b, Z2x, Z1g, Z17, Zq, Zn, Zv, Z2p, Z2f, Z2o, Z2d, Z2g, Z1c, Z1b, Z2i, Z2n, Z2h, Z2j, Z2k, Z2l, Z2m, Z31, Z8, Z5, Z13, Zy, binV_bool_neq, binV_bool_eql, Ty.un4, Ze, Z1, Z0, ldv, stv, vcs, blt, lenV, Z10, Z3, Z2, Zf, Zg, Ze, Z1, Z0, Z14, Zw, Zh, Zr, Z33, Z15, Z7, Zc, Z6, Z3, Z2, Zf, Zi, Nat.reduceAdd, Nat.reduceMul, Nat.reduceLeDiff, Z11, Z12, Z1y, Z1h, Z2c, Z23, Z28, Z27, Z26, Z25, Z24, Z1m, Z1l, Z1k, Z1j, Z1i, Z1w, Z1v, Z1u, Z1t, Z1s, Z32, Z2y, Z2q, Z2r, Z2s, Z20, Z1q, Z1r, Z2z, Z2t, Z21, Z22, splice, Za, Z9, Z1, Z0, Z19, Zt, Zs, Z18, newB, vcs, Z30, Z2v, Z1x, Z29, Z1n, Z2u, Z1o, Z1f, Z1p, Z1d, Z1e, Ty.ld3, Ty.sz3, Ty.zc3, Ty.by3, Ty.ld4, Ty.sz4, Ty.zc4, Ty.by4, Ty.ld24, Ty.sz24, Ty.sl24, Ty.zc24, Ty.by24, Ty.ld51, Ty.sz51, Ty.sl51, Ty.zc51, Ty.by51, Ty.ld53, Ty.sz53, Ty.zc53, Ty.by53, Ty.ld56, Ty.sz56, Ty.sl56, Ty.zc56, Ty.by56, Ty.ld58, Ty.sz58, Ty.zc58, Ty.by58, Ty.ld77, Ty.sz77, Ty.zc77, Ty.by77, Ty.ld80, Ty.sz80, Ty.zc80, Ty.by80, Ty.ld85, Ty.sz85, Ty.zc85, Ty.by85, Ty.ld132, Ty.sz132, Ty.zc132, Ty.by132, DAct.cells_length, DAct.cells_flat, DAct.cells_take, deskV, deskL, stepDV, stepDL, cellsL, Bool.false_eq_true, if_false, *]; rfl
         · (first | exact ids_af (DAct.af _))
         skip)
      | (refine xd_do (v := ?_) (by exact rfl) (by decide +kernel) ?_ ?_; rotate_left 1)
      | (refine xd_gdo (v := ?_) (by exact rfl) (by decide +kernel) (by exact rfl) ?_ ?_ ?_
         rotate_left 1
         · simp only [ev, Zb, reduceIte, Nat.reduceEqDiff, Z8, Z5, *])
      | (refine xd_goff (by exact rfl) ?_ ?_
         · simp only [ev, Zb, reduceIte, Nat.reduceEqDiff, Z8, Z5, *])
      | (refine xd_gund (by exact rfl) ?_ ?_
         · simp only [ev, Zb, reduceIte, Nat.reduceEqDiff, Z8, Z5, *])
      | (refine xd_gif (b := ?_) (by exact rfl) ?_ (fun hb => ?_) (fun hb => ?_)
         rotate_left 1
         · simp only [ev, Zb, reduceIte, Nat.reduceEqDiff, Z8, Z5, *]; rfl)
      | (refine xr_gdo (v := ?_) (h' := ?_) (by exact rfl) (by exact rfl) ?_ ?_ ?_
         rotate_left 2
         · simp only [ev, Zb, reduceIte, Nat.reduceEqDiff, Z8, Z5, *])
      | (refine xr_gst (v := ?_) (h' := ?_) (by exact rfl) (by exact rfl) ?_ ?_ ?_
         rotate_left 2
         · simp only [ev, Zb, reduceIte, Nat.reduceEqDiff, Z8, Z5, *])
      | (refine xr_goff (by exact rfl) ?_ ?_
         · simp only [ev, Zb, reduceIte, Nat.reduceEqDiff, Z8, Z5, *])
      | (refine xr_gsoff (by exact rfl) ?_ ?_
         · simp only [ev, Zb, reduceIte, Nat.reduceEqDiff, Z8, Z5, *])
      | (refine xr_gund (by exact rfl) ?_ ?_
         · simp only [ev, Zb, reduceIte, Nat.reduceEqDiff, Z8, Z5, *])
      | (refine xr_gsund (by exact rfl) ?_ ?_
         · simp only [ev, Zb, reduceIte, Nat.reduceEqDiff, Z8, Z5, *])
      | (refine xr_gif (b := ?_) (by exact rfl) ?_ (fun hb => ?_) (fun hb => ?_)
         rotate_left 1
         · simp only [ev, Zb, reduceIte, Nat.reduceEqDiff, Z8, Z5, *]; rfl)
      | (refine aw_ift (by decide) ?_ ?_
         · simp only [ev, Zb, reduceIte, Nat.reduceEqDiff, *])
      | (refine aw_iff (by decide) ?_ ?_
         · simp only [ev, Zb, reduceIte, Nat.reduceEqDiff, *])
      | (refine aw_if (b := ?_) (by decide) ?_ (fun hb => ?_) (fun hb => ?_)
         rotate_left 1
         · simp only [ev, Zb, reduceIte, Nat.reduceEqDiff, *]; rfl)
      | (refine r_ret (vs := ?_) ?_ ?_
         rotate_left 1
         · simp only [resV, ev, Zb, reduceIte, Nat.reduceEqDiff, Zj, *]; rfl)
      | (with_reducible refine szDesk_ok _ ?_ ?_ _ _ _ _ ?_ ?_ ?_ ?_ ?_
         rotate_left 2
         · first | assumption | exact Sl.old (by assumption) _ | ((try (simp only [deskV, deskL, Z11, Z12, Z1y, Z1h, Za, Z9, Z7, Zc, Zd, Z6, Z3, Z2, Zf, Zi, Nat.reduceAdd, Zh])); first | exact Sl.old (by assumption) _ | exact sl_nilints | exact sl_nilitems | (refine sl_ints (Z4 _) ?_; exact rfl) | (refine sl_items (Z4 _) ?_; exact rfl) | (refine sl_ints0 (Z4 _) ?_; exact rfl) | (refine sl_items0 (Z4 _) ?_; exact rfl))
         · first | assumption | exact Sl.old (by assumption) _ | ((try (simp only [deskV, deskL, Z11, Z12, Z1y, Z1h, Za, Z9, Z7, Zc, Zd, Z6, Z3, Z2, Zf, Zi, Nat.reduceAdd, Zh])); first | exact Sl.old (by assumption) _ | exact sl_nilints | exact sl_nilitems | (refine sl_ints (Z4 _) ?_; exact rfl) | (refine sl_items (Z4 _) ?_; exact rfl) | (refine sl_ints0 (Z4 _) ?_; exact rfl) | (refine sl_items0 (Z4 _) ?_; exact rfl))
         · first | assumption | omega
         · first | assumption | omega
         · first | assumption | omega
         )
      | (with_reducible refine toDesk_ok _ ?_ ?_ _ _ _ ?_ ?_ ?_ ?_
         rotate_left 2
         · first | assumption | exact Sl.old (by assumption) _ | ((try (simp only [deskV, deskL, Z11, Z12, Z1y, Z1h, Za, Z9, Z7, Zc, Zd, Z6, Z3, Z2, Zf, Zi, Nat.reduceAdd, Zh])); first | exact Sl.old (by assumption) _ | exact sl_nilints | exact sl_nilitems | (refine sl_ints (Z4 _) ?_; exact rfl) | (refine sl_items (Z4 _) ?_; exact rfl) | (refine sl_ints0 (Z4 _) ?_; exact rfl) | (refine sl_items0 (Z4 _) ?_; exact rfl))
         · first | assumption | exact Sl.old (by assumption) _ | ((try (simp only [deskV, deskL, Z11, Z12, Z1y, Z1h, Za, Z9, Z7, Zc, Zd, Z6, Z3, Z2, Zf, Zi, Nat.reduceAdd, Zh])); first | exact Sl.old (by assumption) _ | exact sl_nilints | exact sl_nilitems | (refine sl_ints (Z4 _) ?_; exact rfl) | (refine sl_items (Z4 _) ?_; exact rfl) | (refine sl_ints0 (Z4 _) ?_; exact rfl) | (refine sl_items0 (Z4 _) ?_; exact rfl))
         · first | omega | (simp only [Z2]; omega)
         · first | omega | (simp only [Z2]; omega)
         )
      | (with_reducible refine eqDesk_ok _ _ ?_ ?_ ?_ ?_ _ _ _ _ _ ?_ ?_ ?_ ?_ ?_ ?_ ?_ ?_
         rotate_left 4
         · first | assumption | exact Sl.old (by assumption) _ | ((try (simp only [deskV, deskL, Z11, Z12, Z1y, Z1h, Za, Z9, Z7, Zc, Zd, Z6, Z3, Z2, Zf, Zi, Nat.reduceAdd, Zh])); first | exact Sl.old (by assumption) _ | exact sl_nilints | exact sl_nilitems | (refine sl_ints (Z4 _) ?_; exact rfl) | (refine sl_items (Z4 _) ?_; exact rfl) | (refine sl_ints0 (Z4 _) ?_; exact rfl) | (refine sl_items0 (Z4 _) ?_; exact rfl))
         · first | assumption | exact Sl.old (by assumption) _ | ((try (simp only [deskV, deskL, Z11, Z12, Z1y, Z1h, Za, Z9, Z7, Zc, Zd, Z6, Z3, Z2, Zf, Zi, Nat.reduceAdd, Zh])); first | exact Sl.old (by assumption) _ | exact sl_nilints | exact sl_nilitems | (refine sl_ints (Z4 _) ?_; exact rfl) | (refine sl_items (Z4 _) ?_; exact rfl) | (refine sl_ints0 (Z4 _) ?_; exact rfl) | (refine sl_items0 (Z4 _) ?_; exact rfl))
         · first | assumption | exact Sl.old (by assumption) _ | ((try (simp only [deskV, deskL, Z11, Z12, Z1y, Z1h, Za, Z9, Z7, Zc, Zd, Z6, Z3, Z2, Zf, Zi, Nat.reduceAdd, Zh])); first | exact Sl.old (by assumption) _ | exact sl_nilints | exact sl_nilitems | (refine sl_ints (Z4 _) ?_; exact rfl) | (refine sl_items (Z4 _) ?_; exact rfl) | (refine sl_ints0 (Z4 _) ?_; exact rfl) | (refine sl_items0 (Z4 _) ?_; exact rfl))
         · first | assumption | exact Sl.old (by assumption) _ | ((try (simp only [deskV, deskL, Z11, Z12, Z1y, Z1h, Za, Z9, Z7, Zc, Zd, Z6, Z3, Z2, Zf, Zi, Nat.reduceAdd, Zh])); first | exact Sl.old (by assumption) _ | exact sl_nilints | exact sl_nilitems | (refine sl_ints (Z4 _) ?_; exact rfl) | (refine sl_items (Z4 _) ?_; exact rfl) | (refine sl_ints0 (Z4 _) ?_; exact rfl) | (refine sl_items0 (Z4 _) ?_; exact rfl))
         · first | omega | (simp only [Z2]; omega)
         · first | omega | (simp only [Z2]; omega)
         · first | omega | (simp only [Z2]; omega)
         · first | omega | (simp only [Z2]; omega)
         )
      | (with_reducible refine markDesk_ok ?_ ?_ ?_ ?_ _ _ _ _ _ ?_ ?_ ?_ ?_ ?_ ?_
         rotate_left 4
         · first | assumption | exact Own.old (by assumption) _ | ((try (simp only [deskV, deskL, Z11, Z12, Z1y, Z1h, Za, Z9, Z7, Zc, Zd, Z6, Z3, Z2, Zf, Zi, Nat.reduceAdd, Zh])); first | exact Own.old (by assumption) _ | exact Own.nil _ | (refine Own.at ?_ ?_ (Z4 _); (exact rfl); first | exact ints_flen _ | exact items_flen _ | (simp only [Z34]; done) | (simp only [Z34]; omega)) | (refine Own.at0 ?_ ?_ (Z4 _); (exact rfl); first | exact ints_flen _ | exact items_flen _ | (simp only [Z34]; done) | (simp only [Z34]; omega)))
         · first | assumption | exact Own.old (by assumption) _ | ((try (simp only [deskV, deskL, Z11, Z12, Z1y, Z1h, Za, Z9, Z7, Zc, Zd, Z6, Z3, Z2, Zf, Zi, Nat.reduceAdd, Zh])); first | exact Own.old (by assumption) _ | exact Own.nil _ | (refine Own.at ?_ ?_ (Z4 _); (exact rfl); first | exact ints_flen _ | exact items_flen _ | (simp only [Z34]; done) | (simp only [Z34]; omega)) | (refine Own.at0 ?_ ?_ (Z4 _); (exact rfl); first | exact ints_flen _ | exact items_flen _ | (simp only [Z34]; done) | (simp only [Z34]; omega)))
         · first | exact .inl rfl | (right; simp [bid])
         · first | omega | (simp only [Z2]; omega)
         · first | omega | (simp only [Z2]; omega)
         · first | omega | (simp only [Z2]; omega)
         )
      | (with_reducible refine heldDesk_ok ?_ ?_ _ _ _ _ _ ?_ ?_ ?_ ?_ ?_
         rotate_left 2
         · first | assumption | exact Own.old (by assumption) _ | ((try (simp only [deskV, deskL, Z11, Z12, Z1y, Z1h, Za, Z9, Z7, Zc, Zd, Z6, Z3, Z2, Zf, Zi, Nat.reduceAdd, Zh])); first | exact Own.old (by assumption) _ | exact Own.nil _ | (refine Own.at ?_ ?_ (Z4 _); (exact rfl); first | exact ints_flen _ | exact items_flen _ | (simp only [Z34]; done) | (simp only [Z34]; omega)) | (refine Own.at0 ?_ ?_ (Z4 _); (exact rfl); first | exact ints_flen _ | exact items_flen _ | (simp only [Z34]; done) | (simp only [Z34]; omega)))
         · first | assumption | exact Own.old (by assumption) _ | ((try (simp only [deskV, deskL, Z11, Z12, Z1y, Z1h, Za, Z9, Z7, Zc, Zd, Z6, Z3, Z2, Zf, Zi, Nat.reduceAdd, Zh])); first | exact Own.old (by assumption) _ | exact Own.nil _ | (refine Own.at ?_ ?_ (Z4 _); (exact rfl); first | exact ints_flen _ | exact items_flen _ | (simp only [Z34]; done) | (simp only [Z34]; omega)) | (refine Own.at0 ?_ ?_ (Z4 _); (exact rfl); first | exact ints_flen _ | exact items_flen _ | (simp only [Z34]; done) | (simp only [Z34]; omega)))
         · first | omega | (simp only [Z2]; omega)
         · first | omega | (simp only [Z2]; omega)
         · first | omega | (simp only [Z2]; omega)
         )
      | (with_reducible refine implStepDesk_ok _ people items _ _ _ _ _ _ ?_ ?_ ?_ ?_ ?_
         · first | assumption | exact Sl.old (by assumption) _ | ((try (simp only [deskV, deskL, Z11, Z12, Z1y, Z1h, Za, Z9, Z7, Zc, Zd, Z6, Z3, Z2, Zf, Zi, Nat.reduceAdd, Zh])); first | exact Sl.old (by assumption) _ | exact sl_nilints | exact sl_nilitems | (refine sl_ints (Z4 _) ?_; exact rfl) | (refine sl_items (Z4 _) ?_; exact rfl) | (refine sl_ints0 (Z4 _) ?_; exact rfl) | (refine sl_items0 (Z4 _) ?_; exact rfl))
         · first | assumption | exact Sl.old (by assumption) _ | ((try (simp only [deskV, deskL, Z11, Z12, Z1y, Z1h, Za, Z9, Z7, Zc, Zd, Z6, Z3, Z2, Zf, Zi, Nat.reduceAdd, Zh])); first | exact Sl.old (by assumption) _ | exact sl_nilints | exact sl_nilitems | (refine sl_ints (Z4 _) ?_; exact rfl) | (refine sl_items (Z4 _) ?_; exact rfl) | (refine sl_ints0 (Z4 _) ?_; exact rfl) | (refine sl_items0 (Z4 _) ?_; exact rfl))
         · first | omega | (simp only [Z2]; omega)
         · first | omega | (simp only [Z2]; omega)
         · (simp only [deskL, mset_length, Z6, Z3, Z2, List.length_set]; omega)
         )
      | (with_reducible refine specStepDesk_ok _ people items _ _ _ _ _ ?_ ?_ ?_ ?_ ?_
         · first | assumption | exact Sl.old (by assumption) _ | ((try (simp only [deskV, deskL, Z11, Z12, Z1y, Z1h, Za, Z9, Z7, Zc, Zd, Z6, Z3, Z2, Zf, Zi, Nat.reduceAdd, Zh])); first | exact Sl.old (by assumption) _ | exact sl_nilints | exact sl_nilitems | (refine sl_ints (Z4 _) ?_; exact rfl) | (refine sl_items (Z4 _) ?_; exact rfl) | (refine sl_ints0 (Z4 _) ?_; exact rfl) | (refine sl_items0 (Z4 _) ?_; exact rfl))
         · first | assumption | exact Sl.old (by assumption) _ | ((try (simp only [deskV, deskL, Z11, Z12, Z1y, Z1h, Za, Z9, Z7, Zc, Zd, Z6, Z3, Z2, Zf, Zi, Nat.reduceAdd, Zh])); first | exact Sl.old (by assumption) _ | exact sl_nilints | exact sl_nilitems | (refine sl_ints (Z4 _) ?_; exact rfl) | (refine sl_items (Z4 _) ?_; exact rfl) | (refine sl_ints0 (Z4 _) ?_; exact rfl) | (refine sl_items0 (Z4 _) ?_; exact rfl))
         · first | omega | (simp only [Z2]; omega)
         · first | omega | (simp only [Z2]; omega)
         · (intro i q; simp only [bid, Option.some.injEq] at q; simp only [deskL, mset_length, Z6, Z3, Z2, List.length_set]; omega)
         )
      | (with_reducible exact toDeskAct_ok _ _)
      | ((with_reducible refine Z2w (n := 39) ?_); rintro _ _ ⟨rfl, hh⟩; replace hh := hh.symm; subst hh)
      | ((with_reducible refine Z2w (n := 41) ?_); rintro _ _ ⟨rfl, hh⟩; replace hh := hh.symm; subst hh)
      | ((with_reducible refine Z2w (n := 43) ?_); rintro _ _ ⟨rfl, hh⟩; replace hh := hh.symm; subst hh)
      | ((with_reducible refine Z2w (n := 48) ?_); rintro _ _ ⟨rfl, hh⟩; replace hh := hh.symm; subst hh)
      | ((with_reducible refine Z2w (n := 49) ?_); rintro _ _ ⟨rfl, hh⟩; replace hh := hh.symm; subst hh)
      | ((with_reducible refine Z2w (n := 62) ?_); rintro _ _ ⟨rfl, hh⟩; replace hh := hh.symm; subst hh)
      | ((with_reducible refine Z2w (n := 63) ?_); rintro _ _ ⟨rfl, hh⟩; replace hh := hh.symm; subst hh)
      | ((with_reducible refine Z2w (n := 64) ?_); rintro _ _ ⟨rfl, hh⟩; replace hh := hh.symm; subst hh)
      )
    all_goals first | rfl | (exfalso; simp at hb; done) | (exfalso; simp at hb; omega)
end Go.Proofs.Ytiddnhhjlipebaa.Am
