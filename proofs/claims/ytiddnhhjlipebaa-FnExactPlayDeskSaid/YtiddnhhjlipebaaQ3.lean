/- The law PlayDesk. Conditions: none. -/
import Derived.Test.YtiddnhhjlipebaaK3
import Derived.Test.YtiddnhhjlipebaaQ2
import Derived.Test.YtiddnhhjlipebaaV4
import Derived.Test.YtiddnhhjlipebaaTy2
namespace Go.Proofs.Ytiddnhhjlipebaa.Am
open Go Go.Proofs
set_option linter.unusedVariables false
set_option linter.unusedSimpArgs false
set_option maxRecDepth 100000
set_option maxHeartbeats 16000000

theorem DAct.rows_len (l : List DAct) : ∀ r ∈ l.map DAct.cells, r.length = 8 := by
  intro r hr; obtain ⟨n, _, rfl⟩ := List.mem_map.1 hr; rfl
theorem DAct.flen (l : List DAct) : (l.map DAct.cells).flatten.length = l.length * 8 := by rw [length_flatten_rows _ (DAct.rows_len l), List.length_map]
theorem DAct.rows_af (l : List DAct) : ∀ x ∈ (l.map DAct.cells).flatten, af1 x = true := by
  intro x hx
  obtain ⟨r, hr, hx⟩ := List.mem_flatten.1 hx
  obtain ⟨y, _, rfl⟩ := List.mem_map.1 hr
  simp only [DAct.cells, List.mem_cons, Z38, or_false] at hx
  rcases hx with rfl | rfl | rfl | rfl | rfl | rfl | rfl | rfl <;> rfl
theorem DAct.slnil {h : Heap} : Sl h (.slice none 0 0) 8 (([] : List DAct).map DAct.cells) := Sl.nil h 8
theorem DAct.slk {h : Heap} {k c : Nat} {sp : Option Nat} {l : List DAct} {L : Heap} (hc : l.length ≤ c) (hb : L[k]? = some ⟨2, 8, (l.map DAct.cells).flatten⟩) : Sl (h ++ L) (.slice (some ⟨h.length + k, 0, sp⟩) l.length c) 8 (l.map DAct.cells) := sl_at hb (DAct.rows_len l) (List.length_map _).symm hc
theorem DAct.sl0 {h : Heap} {c : Nat} {sp : Option Nat} {l : List DAct} {L : Heap} (hc : l.length ≤ c) (hb : L[0]? = some ⟨2, 8, (l.map DAct.cells).flatten⟩) : Sl (h ++ L) (.slice (some ⟨h.length, 0, sp⟩) l.length c) 8 (l.map DAct.cells) := DAct.slk (k := 0) hc hb
theorem szDeskActS_ok (rows : List (List Value)) (e : Nat) (left : Int) (v : Value) (h : Heap) (hs : Sl h v e rows) (hl : rows.length ≤ 9223372036854775807) (h0 : 0 ≤ left ∧ left ≤ 1048576) :
    ACalls Try.prog 0 65 #[v, .int .i64 left] h fun v h' => v = .int .i64 (szM rows.length left) ∧ h' = h := by
  obtain ⟨b, c, rfl, hc, hrow⟩ := hs
  refine Z36 Try.func65 rfl Try.ntmps65 (by simp) (by dsimp only [Try.f65]) ?_
  have hw : IntKind.i64.wrap (left - rows.length) = left - rows.length := wrap_id (by omega)
  repeat' (first
    | ((with_reducible refine eq_go ?_); simp only [stp, ev, Zb, Z2e, Z1z, Zk, Zl, reduceIte, Nat.reduceEqDiff, Zj, Zz, Zu, Z16, Z1a, Zm, Zp, Zo, Zd, Zx, Z2b, Z2x, Z1g, Z17, Zq, Zn, Zv, Z2p, Z2f, Z2o, Z2d, Z2g, Z1c, Z1b, Z2i, Z2n, Z2h, Z2j, Z2k, Z2l, Z2m, Z31, Z8, Z5, Z13, Zy, blt, lenV, Z10, Z3, Z2, Zf, Zg, Ze, Z1, Z0, Z14, Zw, Ty.sz3, Ty.zc3, Ty.by3, Ty.sz85, Ty.zc85, Ty.by85, Ty.sz88, Ty.sl88, Ty.zc88, Ty.by88, *]; rfl)
    | (with_reducible refine aw_then ?_) | (with_reducible refine aw_skip ?_) | (with_reducible refine aw_ret ?_) | (with_reducible refine aw_exit ?_) | (with_reducible refine aw_block ?_) | (with_reducible refine xr_reg (by decide +kernel) ?_)
    | (with_reducible refine xr_nil ?_) | (with_reducible refine k_norm ?_) | (with_reducible refine k_ret ?_) | (with_reducible refine k_exit ?_) | (with_reducible refine b_norm ?_) | (with_reducible refine b_ret ?_) | (with_reducible refine b_exit ?_) | (with_reducible refine b_past (by decide) ?_)
    | (refine xr_do (v := ?_) (h' := ?_) (by exact rfl) ?_ ?_; rotate_left 2)
    | (refine xr_st (v := ?_) (h' := ?_) (by exact rfl) ?_ ?_; rotate_left 2)
    | (refine aw_ift (by decide) ?_ ?_
       · simp only [ev, Zb, reduceIte, Nat.reduceEqDiff, *])
    | (refine aw_iff (by decide) ?_ ?_
       · simp only [ev, Zb, reduceIte, Nat.reduceEqDiff, *])
    | (refine aw_if (b := ?_) (by decide) ?_ (fun hb => ?_) (fun hb => ?_)
       rotate_left 1
       · simp only [ev, Zb, reduceIte, Nat.reduceEqDiff, *]; rfl)
    | (refine r_ret (vs := ?_) ?_ ?_
       rotate_left 1
       · simp only [resV, ev, Zb, reduceIte, Nat.reduceEqDiff, Zj, *]; rfl)
    )
  all_goals refine ⟨?_, rfl⟩
  all_goals simp only [decide_eq_true_eq, decide_eq_false_iff_not] at hb
  all_goals simp only [oneOf, szM, hb, Z2x, if_false]

theorem toDeskAct_ok (x : DAct) (h : Heap) : ACalls Try.prog 0 64 #[.agg x.cells.toArray] h fun v h' => v = .agg x.cells.toArray ∧ h' = h := by
  refine acalls_pure (.inl x.af) ?_
  have hx : x.cells = _ := rfl
  rw [hx]
  simp only [DAct.cells]
  refine Z36 Try.func64 rfl Try.ntmps64 (by simp) (by dsimp only [Try.f64]) ?_
  repeat' (first
    | ((with_reducible refine eq_go ?_); simp only [stp, ev, Zb, Z2e, Z1z, Zk, Zl, reduceIte, Nat.reduceEqDiff, Zj, Zz, Zu, Z16, Z1a, Zm, Zp, Zo, Zd, Zx, Z2b, Z2x, Z1g, Z17, Zq, Zn, Zv, Z2p, Z2f, Z2o, Z2d, Z2g, Z1c, Z1b, Z2i, Z2n, Z2h, Z2j, Z2k, Z2l, Z2m, Z31, Z8, Z5, Z13, Zy, ldv, stv, vcs, fldA, Zh, Zr, Z33, Z15, Z7, Zc, Z6, Z3, Z2, Zf, Zi, Nat.reduceAdd, Nat.reduceMul, Nat.reduceLeDiff, Z11, Z12, Z1y, Z1h, Z2c, Z23, Z28, Z27, Z26, Z25, Z24, Z1m, Z1l, Z1k, Z1j, Z1i, Z1w, Z1v, Z1u, Z1t, Z1s, Z32, Z2y, Z2q, Z2r, Z2s, Z20, Z1q, Z1r, Z2z, Z2t, Z21, Z22, splice, Za, Z9, Z1, Z0, Z19, Zt, Zs, Z18, newB, vcs, Z30, Z2v, Z1x, Z29, Z1n, Z2u, Z1o, Z1f, Z1p, Z1d, Z1e, Ty.ld3, Ty.sz3, Ty.zc3, Ty.ld80, Ty.sz80, Ty.zc80, Ty.fl80_0, Ty.fl80_1, Ty.fl80_2, Ty.fl80_3, Ty.fl80_4, Ty.fl80_5, Ty.fl80_6, Ty.fl80_7, Ty.ld85, Ty.sz85, Ty.zc85, Ty.fl85_0, Ty.fl85_1, Ty.fl85_2, Ty.fl85_3, Ty.fl85_4, Ty.fl85_5, Ty.fl85_6, Ty.fl85_7, *]; rfl)
    | (with_reducible refine aw_then ?_) | (with_reducible refine aw_skip ?_) | (with_reducible refine aw_ret ?_) | (with_reducible refine aw_exit ?_) | (with_reducible refine aw_block ?_) | (with_reducible refine xr_reg (by decide +kernel) ?_)
    | (with_reducible refine xr_nil ?_) | (with_reducible refine k_norm ?_) | (with_reducible refine k_ret ?_) | (with_reducible refine k_exit ?_) | (with_reducible refine b_norm ?_) | (with_reducible refine b_ret ?_) | (with_reducible refine b_exit ?_) | (with_reducible refine b_past (by decide) ?_)
    | (refine xr_do (v := ?_) (h' := ?_) (by exact rfl) ?_ ?_; rotate_left 2)
    | (refine xr_st (v := ?_) (h' := ?_) (by exact rfl) ?_ ?_; rotate_left 2)
    | (refine aw_ift (by decide) ?_ ?_
       · simp only [ev, Zb, reduceIte, Nat.reduceEqDiff, *])
    | (refine aw_iff (by decide) ?_ ?_
       · simp only [ev, Zb, reduceIte, Nat.reduceEqDiff, *])
    | (refine aw_if (b := ?_) (by decide) ?_ (fun hb => ?_) (fun hb => ?_)
       rotate_left 1
       · simp only [ev, Zb, reduceIte, Nat.reduceEqDiff, *]; rfl)
    | (refine r_ret (vs := ?_) ?_ ?_
       rotate_left 1
       · simp only [resV, oneOf, stp, ev, Zb, Z2e, Z1z, Zk, Zl, reduceIte, Nat.reduceEqDiff, Zj, Zz, Zu, Z16, Z1a, Zm, Zp, Zo, Zd, Zx, Z2b, Z2x, Z1g, Z17, Zq, Zn, Zv, Z2p, Z2f, Z2o, Z2d, Z2g, Z1c, Z1b, Z2i, Z2n, Z2h, Z2j, Z2k, Z2l, Z2m, Z31, Z8, Z5, Z13, Zy, ldv, stv, vcs, fldA, Zh, Zr, Z33, Z15, Z7, Zc, Z6, Z3, Z2, Zf, Zi, Nat.reduceAdd, Nat.reduceMul, Nat.reduceLeDiff, Z11, Z12, Z1y, Z1h, Z2c, Z23, Z28, Z27, Z26, Z25, Z24, Z1m, Z1l, Z1k, Z1j, Z1i, Z1w, Z1v, Z1u, Z1t, Z1s, Z32, Z2y, Z2q, Z2r, Z2s, Z20, Z1q, Z1r, Z2z, Z2t, Z21, Z22, splice, Za, Z9, Z1, Z0, Z19, Zt, Zs, Z18, newB, vcs, Z30, Z2v, Z1x, Z29, Z1n, Z2u, Z1o, Z1f, Z1p, Z1d, Z1e, Ty.ld3, Ty.sz3, Ty.zc3, Ty.ld80, Ty.sz80, Ty.zc80, Ty.fl80_0, Ty.fl80_1, Ty.fl80_2, Ty.fl80_3, Ty.fl80_4, Ty.fl80_5, Ty.fl80_6, Ty.fl80_7, Ty.ld85, Ty.sz85, Ty.zc85, Ty.fl85_0, Ty.fl85_1, Ty.fl85_2, Ty.fl85_3, Ty.fl85_4, Ty.fl85_5, Ty.fl85_6, Ty.fl85_7, *]; rfl)
    )
  exact ⟨rfl, _, rfl⟩

theorem toDeskActS_ok (l : List DAct) (v : Value) (h : Heap) (hs : Sl h v 8 (l.map DAct.cells)) (hl : l.length ≤ 1048576) :
    ACalls Try.prog 0 66 #[v] h fun v h' => v = .slice (some ⟨h.length, 0, none⟩) l.length l.length ∧ h' = h ++ [⟨2, 8, (l.map DAct.cells).flatten⟩] := by
  obtain ⟨b, c, rfl, hc, hrow⟩ := hs
  simp only [Zv] at hc ⊢
  have hmk : mkS Try.prog 71 h (.int .i64 l.length) (.int .i64 l.length) = _ := mkS_eq Ty.sl71 Ty.zc80 Ty.by80 (n := l.length) (by omega) (by omega)
  refine Z36 Try.func66 rfl Try.ntmps66 (by simp) (by dsimp only [Try.f66]) ?_
  repeat' (first
    | ((with_reducible refine eq_go ?_); simp only [stp, ev, Zb, Z2e, Z1z, Zk, Zl, reduceIte, Nat.reduceEqDiff, Zj, Zz, Zu, Z16, Z1a, Zm, Zp, Zo, Zd, Zx, Z2b, Z2x, Z1g, Z17, Zq, Zn, Zv, Z2p, Z2f, Z2o, Z2d, Z2g, Z1c, Z1b, Z2i, Z2n, Z2h, Z2j, Z2k, Z2l, Z2m, Z31, Z8, Z5, Z13, Zy, ldv, stv, vcs, idxA, blt, lenV, Z10, Z3, Z2, Zf, Zg, Ze, Z1, Z0, Z14, Zw, Zh, Zr, Z33, Z15, Z7, Zc, Z6, Z3, Z2, Zf, Zi, Nat.reduceAdd, Nat.reduceMul, Nat.reduceLeDiff, Z11, Z12, Z1y, Z1h, Z2c, Z23, Z28, Z27, Z26, Z25, Z24, Z1m, Z1l, Z1k, Z1j, Z1i, Z1w, Z1v, Z1u, Z1t, Z1s, Z32, Z2y, Z2q, Z2r, Z2s, Z20, Z1q, Z1r, Z2z, Z2t, Z21, Z22, splice, Za, Z9, Z1, Z0, Z19, Zt, Zs, Z18, newB, vcs, Z30, Z2v, Z1x, Z29, Z1n, Z2u, Z1o, Z1f, Z1p, Z1d, Z1e, Ty.ld3, Ty.sz3, Ty.zc3, Ty.by3, Ty.ld71, Ty.sz71, Ty.sl71, Ty.zc71, Ty.by71, Ty.ld80, Ty.sz80, Ty.zc80, Ty.by80, Ty.ld85, Ty.sz85, Ty.zc85, Ty.by85, Ty.ld88, Ty.sz88, Ty.sl88, Ty.zc88, Ty.by88, *]; rfl)
    | (with_reducible refine aw_then ?_) | (with_reducible refine aw_skip ?_) | (with_reducible refine aw_ret ?_) | (with_reducible refine aw_exit ?_) | (with_reducible refine aw_block ?_) | (with_reducible refine xr_reg (by decide +kernel) ?_)
    | (with_reducible refine xr_nil ?_) | (with_reducible refine k_norm ?_) | (with_reducible refine k_ret ?_) | (with_reducible refine k_exit ?_) | (with_reducible refine b_norm ?_) | (with_reducible refine b_ret ?_) | (with_reducible refine b_exit ?_) | (with_reducible refine b_past (by decide) ?_)
    | (refine xr_cl (f := ?_) (fs := ?_) (cs := ?_) (args := ?_) (K := ?_) ?_ ?_ ?_ ?_ ?_
       rotate_left 5
       · simp only [ev]; rfl
       first
       | (· with_reducible exact Ty.ok64
          rotate_left 2
          refine Z2a 64 ?_
          rotate_right 2)
       )
    | (refine xr_do (v := ?_) (h' := ?_) (by exact rfl) ?_ ?_; rotate_left 2)
    | (refine xr_st (v := ?_) (h' := ?_) (by exact rfl) ?_ ?_; rotate_left 2)
    | (refine aw_ift (by decide) ?_ ?_
       · simp only [ev, Zb, reduceIte, Nat.reduceEqDiff, *])
    | (refine aw_iff (by decide) ?_ ?_
       · simp only [ev, Zb, reduceIte, Nat.reduceEqDiff, *])
    | (refine aw_if (b := ?_) (by decide) ?_ (fun hb => ?_) (fun hb => ?_)
       rotate_left 1
       · simp only [ev, Zb, reduceIte, Nat.reduceEqDiff, *]; rfl)
    | (refine r_ret (vs := ?_) ?_ ?_
       rotate_left 1
       · simp only [resV, ev, Zb, reduceIte, Nat.reduceEqDiff, Zj, *]; rfl)
    | (with_reducible exact toDeskAct_ok _ _)
    | ((with_reducible refine Z2w (n := 64) ?_); rintro _ _ ⟨rfl, hh⟩; replace hh := hh.symm; subst hh)
    )
  refine aw_for [0, 3] (fun k T h' => h' = h ++ [⟨2, 8, fill [.int .i64 0, .int .i64 0, .int .i64 0, .int .i64 0, .int .i64 0, .int .i64 0, .int .i64 0, .int .i64 0] (l.map DAct.cells) k⟩] ∧ T 4 = .int .i64 k) l.length (k0 := 0) (Nat.zero_le _) ⟨?_, rfl⟩ ?_
  · rw [fill_zero, Zv]; try rfl
  rintro k T h' hk hR ⟨rfl, h11⟩
  simp only [Z37, Z38, Z39, implies_true, and_true, stp, ev, Zb, Z2e, Z1z, Zk, Zl, reduceIte, Nat.reduceEqDiff, Zj, Zz, Zu, Z16, Z1a, Zm, Zp, Zo, Zd, Zx, Z2b, Z2x, Z1g, Z17, Zq, Zn, Zv, Z2p, Z2f, Z2o, Z2d, Z2g, Z1c, Z1b, Z2i, Z2n, Z2h, Z2j, Z2k, Z2l, Z2m, Z31, Z8, Z5, Z13, Zy] at hR
  rcases Nat.lt_or_ge k l.length with hkn | hkn
  · have h1 : (k : Int) < l.length := by omega
    obtain ⟨a, rfl, hld0⟩ := Sl.row hrow (k := k) (by simpa using hkn)
    have hset := fill_set (z := [.int .i64 0, .int .i64 0, .int .i64 0, .int .i64 0, .int .i64 0, .int .i64 0, .int .i64 0, .int .i64 0]) (h := []) (DAct.rows_len l) rfl (k := k) (by simpa using hkn)
    rw [List.getElem_map] at hld0 hset
    have hld := loadCs_old hld0
    repeat' (first
      | ((with_reducible refine eq_go ?_); simp only [stp, ev, Zb, Z2e, Z1z, Zk, Zl, reduceIte, Nat.reduceEqDiff, Zj, Zz, Zu, Z16, Z1a, Zm, Zp, Zo, Zd, Zx, Z2b, Z2x, Z1g, Z17, Zq, Zn, Zv, Z2p, Z2f, Z2o, Z2d, Z2g, Z1c, Z1b, Z2i, Z2n, Z2h, Z2j, Z2k, Z2l, Z2m, Z31, Z8, Z5, Z13, Zy, ldv, stv, vcs, idxA, blt, lenV, Z10, Z3, Z2, Zf, Zg, Ze, Z1, Z0, Z14, Zw, Zh, Zr, Z33, Z15, Z7, Zc, Z6, Z3, Z2, Zf, Zi, Nat.reduceAdd, Nat.reduceMul, Nat.reduceLeDiff, Z11, Z12, Z1y, Z1h, Z2c, Z23, Z28, Z27, Z26, Z25, Z24, Z1m, Z1l, Z1k, Z1j, Z1i, Z1w, Z1v, Z1u, Z1t, Z1s, Z32, Z2y, Z2q, Z2r, Z2s, Z20, Z1q, Z1r, Z2z, Z2t, Z21, Z22, splice, Za, Z9, Z1, Z0, Z19, Zt, Zs, Z18, newB, vcs, Z30, Z2v, Z1x, Z29, Z1n, Z2u, Z1o, Z1f, Z1p, Z1d, Z1e, Ty.ld3, Ty.sz3, Ty.zc3, Ty.by3, Ty.ld71, Ty.sz71, Ty.sl71, Ty.zc71, Ty.by71, Ty.ld80, Ty.sz80, Ty.zc80, Ty.by80, Ty.ld85, Ty.sz85, Ty.zc85, Ty.by85, Ty.ld88, Ty.sz88, Ty.sl88, Ty.zc88, Ty.by88, DAct.cells_length, DAct.cells_flat, DAct.cells_take, *]; rfl)
      | (with_reducible refine aw_then ?_) | (with_reducible refine aw_skip ?_) | (with_reducible refine aw_ret ?_) | (with_reducible refine aw_exit ?_) | (with_reducible refine aw_block ?_) | (with_reducible refine xr_reg (by decide +kernel) ?_)
      | (with_reducible refine xr_nil ?_) | (with_reducible refine k_norm ?_) | (with_reducible refine k_ret ?_) | (with_reducible refine k_exit ?_) | (with_reducible refine b_norm ?_) | (with_reducible refine b_ret ?_) | (with_reducible refine b_exit ?_) | (with_reducible refine b_past (by decide) ?_)
      | (refine xr_cl (f := ?_) (fs := ?_) (cs := ?_) (args := ?_) (K := ?_) ?_ ?_ ?_ ?_ ?_
         rotate_left 5
         · simp only [ev]; rfl
         first
         | (· with_reducible exact Ty.ok64
            rotate_left 2
            refine Z2a 64 ?_
            rotate_right 2)
         )
      | (refine xr_do (v := ?_) (h' := ?_) (by exact rfl) ?_ ?_; rotate_left 2)
      | (refine xr_st (v := ?_) (h' := ?_) (by exact rfl) ?_ ?_; rotate_left 2)
      | (refine aw_ift (by decide) ?_ ?_
         · simp only [ev, Zb, reduceIte, Nat.reduceEqDiff, *])
      | (refine aw_iff (by decide) ?_ ?_
         · simp only [ev, Zb, reduceIte, Nat.reduceEqDiff, *])
      | (refine aw_if (b := ?_) (by decide) ?_ (fun hb => ?_) (fun hb => ?_)
         rotate_left 1
         · simp only [ev, Zb, reduceIte, Nat.reduceEqDiff, *]; rfl)
      | (refine r_ret (vs := ?_) ?_ ?_
         rotate_left 1
         · simp only [resV, ev, Zb, reduceIte, Nat.reduceEqDiff, Zj, *]; rfl)
      | (with_reducible exact toDeskAct_ok _ _)
      | ((with_reducible refine Z2w (n := 64) ?_); rintro _ _ ⟨rfl, hh⟩; replace hh := hh.symm; subst hh)
      )
    refine ⟨by first | assumption | omega, ?_, ?_⟩
    · simp only [Z37, Z38, Z39, implies_true, and_true, Z2b, stp, ev, Zb, Z2e, Z1z, Zk, Zl, reduceIte, Nat.reduceEqDiff, Zj, Zz, Zu, Z16, Z1a, Zm, Zp, Zo, Zd, Zx, Z2b, Z2x, Z1g, Z17, Zq, Zn, Zv, Z2p, Z2f, Z2o, Z2d, Z2g, Z1c, Z1b, Z2i, Z2n, Z2h, Z2j, Z2k, Z2l, Z2m, Z31, Z8, Z5, Z13, Zy, *]
    refine ⟨rfl, ?_⟩
    simp only [Zb, reduceIte, Nat.reduceEqDiff]
    rw [wrap_id (by omega)]; rfl
  · have h1 : ¬ (k : Int) < l.length := by omega
    repeat' (first
      | ((with_reducible refine eq_go ?_); simp only [stp, ev, Zb, Z2e, Z1z, Zk, Zl, reduceIte, Nat.reduceEqDiff, Zj, Zz, Zu, Z16, Z1a, Zm, Zp, Zo, Zd, Zx, Z2b, Z2x, Z1g, Z17, Zq, Zn, Zv, Z2p, Z2f, Z2o, Z2d, Z2g, Z1c, Z1b, Z2i, Z2n, Z2h, Z2j, Z2k, Z2l, Z2m, Z31, Z8, Z5, Z13, Zy, ldv, stv, vcs, idxA, blt, lenV, Z10, Z3, Z2, Zf, Zg, Ze, Z1, Z0, Z14, Zw, Zh, Zr, Z33, Z15, Z7, Zc, Z6, Z3, Z2, Zf, Zi, Nat.reduceAdd, Nat.reduceMul, Nat.reduceLeDiff, Z11, Z12, Z1y, Z1h, Z2c, Z23, Z28, Z27, Z26, Z25, Z24, Z1m, Z1l, Z1k, Z1j, Z1i, Z1w, Z1v, Z1u, Z1t, Z1s, Z32, Z2y, Z2q, Z2r, Z2s, Z20, Z1q, Z1r, Z2z, Z2t, Z21, Z22, splice, Za, Z9, Z1, Z0, Z19, Zt, Zs, Z18, newB, vcs, Z30, Z2v, Z1x, Z29, Z1n, Z2u, Z1o, Z1f, Z1p, Z1d, Z1e, Ty.ld3, Ty.sz3, Ty.zc3, Ty.by3, Ty.ld71, Ty.sz71, Ty.sl71, Ty.zc71, Ty.by71, Ty.ld80, Ty.sz80, Ty.zc80, Ty.by80, Ty.ld85, Ty.sz85, Ty.zc85, Ty.by85, Ty.ld88, Ty.sz88, Ty.sl88, Ty.zc88, Ty.by88, *]; rfl)
      | (with_reducible refine aw_then ?_) | (with_reducible refine aw_skip ?_) | (with_reducible refine aw_ret ?_) | (with_reducible refine aw_exit ?_) | (with_reducible refine aw_block ?_) | (with_reducible refine xr_reg (by decide +kernel) ?_)
      | (with_reducible refine xr_nil ?_) | (with_reducible refine k_norm ?_) | (with_reducible refine k_ret ?_) | (with_reducible refine k_exit ?_) | (with_reducible refine b_norm ?_) | (with_reducible refine b_ret ?_) | (with_reducible refine b_exit ?_) | (with_reducible refine b_past (by decide) ?_)
      | (refine xr_cl (f := ?_) (fs := ?_) (cs := ?_) (args := ?_) (K := ?_) ?_ ?_ ?_ ?_ ?_
         rotate_left 5
         · simp only [ev]; rfl
         first
         | (· with_reducible exact Ty.ok64
            rotate_left 2
            refine Z2a 64 ?_
            rotate_right 2)
         )
      | (refine xr_do (v := ?_) (h' := ?_) (by exact rfl) ?_ ?_; rotate_left 2)
      | (refine xr_st (v := ?_) (h' := ?_) (by exact rfl) ?_ ?_; rotate_left 2)
      | (refine aw_ift (by decide) ?_ ?_
         · simp only [ev, Zb, reduceIte, Nat.reduceEqDiff, *])
      | (refine aw_iff (by decide) ?_ ?_
         · simp only [ev, Zb, reduceIte, Nat.reduceEqDiff, *])
      | (refine aw_if (b := ?_) (by decide) ?_ (fun hb => ?_) (fun hb => ?_)
         rotate_left 1
         · simp only [ev, Zb, reduceIte, Nat.reduceEqDiff, *]; rfl)
      | (refine r_ret (vs := ?_) ?_ ?_
         rotate_left 1
         · simp only [resV, ev, Zb, reduceIte, Nat.reduceEqDiff, Zj, *]; rfl)
      | (with_reducible exact toDeskAct_ok _ _)
      | ((with_reducible refine Z2w (n := 64) ?_); rintro _ _ ⟨rfl, hh⟩; replace hh := hh.symm; subst hh)
      )
    rw [fill_all _ _ (by simpa using hkn)]
    exact ⟨rfl, rfl⟩

theorem eqDeskAct_ok (a b : DAct) (h : Heap) : ACalls Try.prog 0 114 #[.agg a.cells.toArray, .agg b.cells.toArray] h fun v h' => v = .bool (decide (a = b)) ∧ h' = h := by
  refine acalls_pure (.inl rfl) ?_
  obtain ⟨a1, a2, a3, a4, a5, a6, a7, a8⟩ := a
  obtain ⟨b1, b2, b3, b4, b5, b6, b7, b8⟩ := b
  simp only [DAct.cells]
  refine Z36 Try.func114 rfl Try.ntmps114 (by simp) (by dsimp only [Try.f114]) ?_
  repeat' (first
    | ((with_reducible refine eq_go ?_); simp only [stp, ev, Zb, Z2e, Z1z, Zk, Zl, reduceIte, Nat.reduceEqDiff, Zj, Zz, Zu, Z16, Z1a, Zm, Zp, Zo, Zd, Zx, Z2b, Z2x, Z1g, Z17, Zq, Zn, Zv, Z2p, Z2f, Z2o, Z2d, Z2g, Z1c, Z1b, Z2i, Z2n, Z2h, Z2j, Z2k, Z2l, Z2m, Z31, Z8, Z5, Z13, Zy, ldv, fldA, Zh, Zr, Z33, Z15, Z7, Zc, Z6, Z3, Z2, Zf, Zi, Nat.reduceAdd, Nat.reduceMul, Nat.reduceLeDiff, Z11, Z12, Z1y, Z1h, Z2c, Z23, Z28, Z27, Z26, Z25, Z24, Z1m, Z1l, Z1k, Z1j, Z1i, Z1w, Z1v, Z1u, Z1t, Z1s, Z32, Z2y, Z2q, Z2r, Z2s, Z20, Z1q, Z1r, Z2z, Z2t, Z21, Z22, splice, Za, Z9, Z1, Z0, Z19, Zt, Zs, Z18, newB, vcs, Z30, Z2v, Z1x, Z29, Z1n, Z2u, Z1o, Z1f, Z1p, Z1d, Z1e, Ty.ld3, Ty.sz3, Ty.ld80, Ty.sz80, Ty.fl80_0, Ty.fl80_1, Ty.fl80_2, Ty.fl80_3, Ty.fl80_4, Ty.fl80_5, Ty.fl80_6, Ty.fl80_7, *]; rfl)
    | (with_reducible refine aw_then ?_) | (with_reducible refine aw_skip ?_) | (with_reducible refine aw_ret ?_) | (with_reducible refine aw_exit ?_) | (with_reducible refine aw_block ?_) | (with_reducible refine xr_reg (by decide +kernel) ?_)
    | (with_reducible refine xr_nil ?_) | (with_reducible refine k_norm ?_) | (with_reducible refine k_ret ?_) | (with_reducible refine k_exit ?_) | (with_reducible refine b_norm ?_) | (with_reducible refine b_ret ?_) | (with_reducible refine b_exit ?_) | (with_reducible refine b_past (by decide) ?_)
    | (refine xr_do (v := ?_) (h' := ?_) (by exact rfl) ?_ ?_; rotate_left 2)
    | (refine xr_st (v := ?_) (h' := ?_) (by exact rfl) ?_ ?_; rotate_left 2)
    | (refine aw_ift (by decide) ?_ ?_
       · simp only [ev, Zb, reduceIte, Nat.reduceEqDiff, *])
    | (refine aw_iff (by decide) ?_ ?_
       · simp only [ev, Zb, reduceIte, Nat.reduceEqDiff, *])
    | (refine aw_if (b := ?_) (by decide) ?_ (fun hb => ?_) (fun hb => ?_)
       rotate_left 1
       · simp only [ev, Zb, reduceIte, Nat.reduceEqDiff, *]; rfl)
    | (refine r_ret (vs := ?_) ?_ ?_
       rotate_left 1
       · simp only [resV, ev, Zb, reduceIte, Nat.reduceEqDiff, Zj, *]; rfl)
    )
  all_goals refine ⟨?_, _, rfl⟩
  all_goals simp_all [oneOf]

theorem eqDeskActS_ok (l1 l2 : List DAct) (v1 v2 : Value) (h : Heap) (hs1 : Sl h v1 8 (l1.map DAct.cells)) (hs2 : Sl h v2 8 (l2.map DAct.cells)) (hl1 : l1.length < 9223372036854775807) (hl2 : l2.length < 9223372036854775807) :
    ACalls Try.prog 0 67 #[v1, v2] h fun v h' => v = .bool (decide (l1 = l2)) ∧ h' = h := by
  obtain ⟨b1, c1, rfl, hc1, hrow1⟩ := hs1
  obtain ⟨b2, c2, rfl, hc2, hrow2⟩ := hs2
  simp only [Zv] at hc1 hc2 ⊢
  refine Z36 Try.func67 rfl Try.ntmps67 (by simp) (by dsimp only [Try.f67]) ?_
  repeat' (first
    | ((with_reducible refine eq_go ?_); simp only [stp, ev, Zb, Z2e, Z1z, Zk, Zl, reduceIte, Nat.reduceEqDiff, Zj, Zz, Zu, Z16, Z1a, Zm, Zp, Zo, Zd, Zx, Z2b, Z2x, Z1g, Z17, Zq, Zn, Zv, Z2p, Z2f, Z2o, Z2d, Z2g, Z1c, Z1b, Z2i, Z2n, Z2h, Z2j, Z2k, Z2l, Z2m, Z31, Z8, Z5, Z13, Zy, ldv, idxA, blt, lenV, Z10, Z3, Z2, Zf, Zg, Ze, Z1, Z0, Z14, Zw, Zh, Zr, Z33, Z15, Z7, Zc, Z6, Z3, Z2, Zf, Zi, Nat.reduceAdd, Nat.reduceMul, Nat.reduceLeDiff, Z11, Z12, Z1y, Z1h, Z2c, Z23, Z28, Z27, Z26, Z25, Z24, Z1m, Z1l, Z1k, Z1j, Z1i, Z1w, Z1v, Z1u, Z1t, Z1s, Z32, Z2y, Z2q, Z2r, Z2s, Z20, Z1q, Z1r, Z2z, Z2t, Z21, Z22, splice, Za, Z9, Z1, Z0, Z19, Zt, Zs, Z18, newB, vcs, Z30, Z2v, Z1x, Z29, Z1n, Z2u, Z1o, Z1f, Z1p, Z1d, Z1e, Ty.ld3, Ty.sz3, Ty.zc3, Ty.by3, Ty.ld71, Ty.sz71, Ty.sl71, Ty.zc71, Ty.by71, Ty.ld80, Ty.sz80, Ty.zc80, Ty.by80, *]; rfl)
    | (with_reducible refine aw_then ?_) | (with_reducible refine aw_skip ?_) | (with_reducible refine aw_ret ?_) | (with_reducible refine aw_exit ?_) | (with_reducible refine aw_block ?_) | (with_reducible refine xr_reg (by decide +kernel) ?_)
    | (with_reducible refine xr_nil ?_) | (with_reducible refine k_norm ?_) | (with_reducible refine k_ret ?_) | (with_reducible refine k_exit ?_) | (with_reducible refine b_norm ?_) | (with_reducible refine b_ret ?_) | (with_reducible refine b_exit ?_) | (with_reducible refine b_past (by decide) ?_)
    | (with_reducible refine xd_nil ?_)
    | (refine xr_cl (f := ?_) (fs := ?_) (cs := ?_) (args := ?_) (K := ?_) ?_ ?_ ?_ ?_ ?_
       rotate_left 5
       · simp only [ev]; rfl
       first
       | (· with_reducible exact Ty.ok114
          rotate_left 2
          refine Z2a 114 ?_
          rotate_right 2)
       )
    | (refine xd_cl (f := ?_) (fs := ?_) (cs := ?_) (args := ?_) (v := ?_) ?_ ?_ ?_ ?_ ?_ ?_
       rotate_left 5
       · simp only [ev]; rfl
       · first | with_reducible exact Ty.ok114
       rotate_left 1
       · decide +kernel
       rotate_right 1)
    | (refine xr_do (v := ?_) (h' := ?_) (by exact rfl) ?_ ?_; rotate_left 2)
    | (refine xr_st (v := ?_) (h' := ?_) (by exact rfl) ?_ ?_; rotate_left 2)
    | (refine xd_reg (ms := [0, 0, 3, 7, 0, 0, 48, 112, 255, 511]) Ty.mx (by decide +kernel) (by decide +kernel) ?_)
    | (refine xd_do (v := ?_) (by exact rfl) (by decide +kernel) ?_ ?_; rotate_left 1)
    | (refine aw_ift (by decide) ?_ ?_
       · simp only [ev, Zb, reduceIte, Nat.reduceEqDiff, *])
    | (refine aw_iff (by decide) ?_ ?_
       · simp only [ev, Zb, reduceIte, Nat.reduceEqDiff, *])
    | (refine aw_if (b := ?_) (by decide) ?_ (fun hb => ?_) (fun hb => ?_)
       rotate_left 1
       · simp only [ev, Zb, reduceIte, Nat.reduceEqDiff, *]; rfl)
    | (refine r_ret (vs := ?_) ?_ ?_
       rotate_left 1
       · simp only [resV, ev, Zb, reduceIte, Nat.reduceEqDiff, Zj, *]; rfl)
    | (with_reducible exact eqDeskAct_ok _ _ _)
    | ((with_reducible refine Z2w (n := 114) ?_); rintro _ _ ⟨rfl, hh⟩; replace hh := hh.symm; subst hh)
    )
  · simp only [Bool.not_eq_true', decide_eq_false_iff_not] at hb
    refine ⟨?_, rfl⟩
    have : l1 ≠ l2 := fun q => hb (by rw [q])
    simp only [oneOf, this, Z17]
  have hle : l1.length = l2.length := by
    simp only [Bool.not_eq_false', decide_eq_true_eq] at hb
    omega
  clear hb
  refine aw_for [0, 1] (fun k T h' => h' = h ∧ T 5 = .int .i64 k ∧ l1.take k = l2.take k) l1.length (k0 := 0) (Nat.zero_le _) ⟨rfl, rfl, rfl⟩ ?_
  rintro k T h' hk hR ⟨rfl, h11, hall⟩
  simp only [Z37, Z38, Z39, implies_true, and_true, stp, ev, Zb, Z2e, Z1z, Zk, Zl, reduceIte, Nat.reduceEqDiff, Zj, Zz, Zu, Z16, Z1a, Zm, Zp, Zo, Zd, Zx, Z2b, Z2x, Z1g, Z17, Zq, Zn, Zv, Z2p, Z2f, Z2o, Z2d, Z2g, Z1c, Z1b, Z2i, Z2n, Z2h, Z2j, Z2k, Z2l, Z2m, Z31, Z8, Z5, Z13, Zy] at hR
  rcases Nat.lt_or_ge k l1.length with hkn | hkn
  · have h1 : (k : Int) < l1.length := by omega
    have h1' : (k : Int) < l2.length := by omega
    obtain ⟨a1, rfl, hl1⟩ := Sl.row hrow1 (k := k) (by simpa using hkn)
    obtain ⟨a2, rfl, hl2⟩ := Sl.row hrow2 (k := k) (by simpa using (by omega : k < l2.length))
    rw [List.getElem_map] at hl1 hl2
    repeat' (first
      | ((with_reducible refine eq_go ?_); simp only [stp, ev, Zb, Z2e, Z1z, Zk, Zl, reduceIte, Nat.reduceEqDiff, Zj, Zz, Zu, Z16, Z1a, Zm, Zp, Zo, Zd, Zx, Z2b, Z2x, Z1g, Z17, Zq, Zn, Zv, Z2p, Z2f, Z2o, Z2d, Z2g, Z1c, Z1b, Z2i, Z2n, Z2h, Z2j, Z2k, Z2l, Z2m, Z31, Z8, Z5, Z13, Zy, ldv, idxA, blt, lenV, Z10, Z3, Z2, Zf, Zg, Ze, Z1, Z0, Z14, Zw, Zh, Zr, Z33, Z15, Z7, Zc, Z6, Z3, Z2, Zf, Zi, Nat.reduceAdd, Nat.reduceMul, Nat.reduceLeDiff, Z11, Z12, Z1y, Z1h, Z2c, Z23, Z28, Z27, Z26, Z25, Z24, Z1m, Z1l, Z1k, Z1j, Z1i, Z1w, Z1v, Z1u, Z1t, Z1s, Z32, Z2y, Z2q, Z2r, Z2s, Z20, Z1q, Z1r, Z2z, Z2t, Z21, Z22, splice, Za, Z9, Z1, Z0, Z19, Zt, Zs, Z18, newB, vcs, Z30, Z2v, Z1x, Z29, Z1n, Z2u, Z1o, Z1f, Z1p, Z1d, Z1e, Ty.ld3, Ty.sz3, Ty.zc3, Ty.by3, Ty.ld71, Ty.sz71, Ty.sl71, Ty.zc71, Ty.by71, Ty.ld80, Ty.sz80, Ty.zc80, Ty.by80, DAct.cells_length, DAct.cells_flat, DAct.cells_take, *]; rfl)
      | (with_reducible refine aw_then ?_) | (with_reducible refine aw_skip ?_) | (with_reducible refine aw_ret ?_) | (with_reducible refine aw_exit ?_) | (with_reducible refine aw_block ?_) | (with_reducible refine xr_reg (by decide +kernel) ?_)
      | (with_reducible refine xr_nil ?_) | (with_reducible refine k_norm ?_) | (with_reducible refine k_ret ?_) | (with_reducible refine k_exit ?_) | (with_reducible refine b_norm ?_) | (with_reducible refine b_ret ?_) | (with_reducible refine b_exit ?_) | (with_reducible refine b_past (by decide) ?_)
      | (with_reducible refine xd_nil ?_)
      | (refine xr_cl (f := ?_) (fs := ?_) (cs := ?_) (args := ?_) (K := ?_) ?_ ?_ ?_ ?_ ?_
         rotate_left 5
         · simp only [ev]; rfl
         first
         | (· with_reducible exact Ty.ok114
            rotate_left 2
            refine Z2a 114 ?_
            rotate_right 2)
         )
      | (refine xd_cl (f := ?_) (fs := ?_) (cs := ?_) (args := ?_) (v := ?_) ?_ ?_ ?_ ?_ ?_ ?_
         rotate_left 5
         · simp only [ev]; rfl
         · first | with_reducible exact Ty.ok114
         rotate_left 1
         · decide +kernel
         rotate_right 1)
      | (refine xr_do (v := ?_) (h' := ?_) (by exact rfl) ?_ ?_; rotate_left 2)
      | (refine xr_st (v := ?_) (h' := ?_) (by exact rfl) ?_ ?_; rotate_left 2)
      | (refine xd_reg (ms := [0, 0, 3, 7, 0, 0, 48, 112, 255, 511]) Ty.mx (by decide +kernel) (by decide +kernel) ?_)
      | (refine xd_do (v := ?_) (by exact rfl) (by decide +kernel) ?_ ?_; rotate_left 1)
      | (refine aw_ift (by decide) ?_ ?_
         · simp only [ev, Zb, reduceIte, Nat.reduceEqDiff, *])
      | (refine aw_iff (by decide) ?_ ?_
         · simp only [ev, Zb, reduceIte, Nat.reduceEqDiff, *])
      | (refine aw_if (b := ?_) (by decide) ?_ (fun hb => ?_) (fun hb => ?_)
         rotate_left 1
         · simp only [ev, Zb, reduceIte, Nat.reduceEqDiff, *]; rfl)
      | (refine r_ret (vs := ?_) ?_ ?_
         rotate_left 1
         · simp only [resV, ev, Zb, reduceIte, Nat.reduceEqDiff, Zj, *]; rfl)
      | (with_reducible exact eqDeskAct_ok _ _ _)
      | ((with_reducible refine Z2w (n := 114) ?_); rintro _ _ ⟨rfl, hh⟩; replace hh := hh.symm; subst hh)
      )
    · refine ⟨?_, rfl⟩
      have hne := take_ne hkn (by omega : k < l2.length) (by simpa using hb)
      simp only [oneOf, hne, Z17]
    refine ⟨by first | assumption | omega, ?_, ?_⟩
    · simp only [Z37, Z38, Z39, implies_true, and_true, Z2b, stp, ev, Zb, Z2e, Z1z, Zk, Zl, reduceIte, Nat.reduceEqDiff, Zj, Zz, Zu, Z16, Z1a, Zm, Zp, Zo, Zd, Zx, Z2b, Z2x, Z1g, Z17, Zq, Zn, Zv, Z2p, Z2f, Z2o, Z2d, Z2g, Z1c, Z1b, Z2i, Z2n, Z2h, Z2j, Z2k, Z2l, Z2m, Z31, Z8, Z5, Z13, Zy, *]
    refine ⟨rfl, ?_, take_snoc hkn (by omega : k < l2.length) hall (by simpa using hb)⟩
    simp only [Zb, reduceIte, Nat.reduceEqDiff]
    rw [wrap_id (by omega)]; rfl
  · have h1 : ¬ (k : Int) < l1.length := by omega
    have h1' : ¬ (k : Int) < l2.length := by omega
    repeat' (first
      | ((with_reducible refine eq_go ?_); simp only [stp, ev, Zb, Z2e, Z1z, Zk, Zl, reduceIte, Nat.reduceEqDiff, Zj, Zz, Zu, Z16, Z1a, Zm, Zp, Zo, Zd, Zx, Z2b, Z2x, Z1g, Z17, Zq, Zn, Zv, Z2p, Z2f, Z2o, Z2d, Z2g, Z1c, Z1b, Z2i, Z2n, Z2h, Z2j, Z2k, Z2l, Z2m, Z31, Z8, Z5, Z13, Zy, ldv, idxA, blt, lenV, Z10, Z3, Z2, Zf, Zg, Ze, Z1, Z0, Z14, Zw, Zh, Zr, Z33, Z15, Z7, Zc, Z6, Z3, Z2, Zf, Zi, Nat.reduceAdd, Nat.reduceMul, Nat.reduceLeDiff, Z11, Z12, Z1y, Z1h, Z2c, Z23, Z28, Z27, Z26, Z25, Z24, Z1m, Z1l, Z1k, Z1j, Z1i, Z1w, Z1v, Z1u, Z1t, Z1s, Z32, Z2y, Z2q, Z2r, Z2s, Z20, Z1q, Z1r, Z2z, Z2t, Z21, Z22, splice, Za, Z9, Z1, Z0, Z19, Zt, Zs, Z18, newB, vcs, Z30, Z2v, Z1x, Z29, Z1n, Z2u, Z1o, Z1f, Z1p, Z1d, Z1e, Ty.ld3, Ty.sz3, Ty.zc3, Ty.by3, Ty.ld71, Ty.sz71, Ty.sl71, Ty.zc71, Ty.by71, Ty.ld80, Ty.sz80, Ty.zc80, Ty.by80, *]; rfl)
      | (with_reducible refine aw_then ?_) | (with_reducible refine aw_skip ?_) | (with_reducible refine aw_ret ?_) | (with_reducible refine aw_exit ?_) | (with_reducible refine aw_block ?_) | (with_reducible refine xr_reg (by decide +kernel) ?_)
      | (with_reducible refine xr_nil ?_) | (with_reducible refine k_norm ?_) | (with_reducible refine k_ret ?_) | (with_reducible refine k_exit ?_) | (with_reducible refine b_norm ?_) | (with_reducible refine b_ret ?_) | (with_reducible refine b_exit ?_) | (with_reducible refine b_past (by decide) ?_)
      | (with_reducible refine xd_nil ?_)
      | (refine xr_cl (f := ?_) (fs := ?_) (cs := ?_) (args := ?_) (K := ?_) ?_ ?_ ?_ ?_ ?_
         rotate_left 5
         · simp only [ev]; rfl
         first
         | (· with_reducible exact Ty.ok114
            rotate_left 2
            refine Z2a 114 ?_
            rotate_right 2)
         )
      | (refine xd_cl (f := ?_) (fs := ?_) (cs := ?_) (args := ?_) (v := ?_) ?_ ?_ ?_ ?_ ?_ ?_
         rotate_left 5
         · simp only [ev]; rfl
         · first | with_reducible exact Ty.ok114
         rotate_left 1
         · decide +kernel
         rotate_right 1)
      | (refine xr_do (v := ?_) (h' := ?_) (by exact rfl) ?_ ?_; rotate_left 2)
      | (refine xr_st (v := ?_) (h' := ?_) (by exact rfl) ?_ ?_; rotate_left 2)
      | (refine xd_reg (ms := [0, 0, 3, 7, 0, 0, 48, 112, 255, 511]) Ty.mx (by decide +kernel) (by decide +kernel) ?_)
      | (refine xd_do (v := ?_) (by exact rfl) (by decide +kernel) ?_ ?_; rotate_left 1)
      | (refine aw_ift (by decide) ?_ ?_
         · simp only [ev, Zb, reduceIte, Nat.reduceEqDiff, *])
      | (refine aw_iff (by decide) ?_ ?_
         · simp only [ev, Zb, reduceIte, Nat.reduceEqDiff, *])
      | (refine aw_if (b := ?_) (by decide) ?_ (fun hb => ?_) (fun hb => ?_)
         rotate_left 1
         · simp only [ev, Zb, reduceIte, Nat.reduceEqDiff, *]; rfl)
      | (refine r_ret (vs := ?_) ?_ ?_
         rotate_left 1
         · simp only [resV, ev, Zb, reduceIte, Nat.reduceEqDiff, Zj, *]; rfl)
      | (with_reducible exact eqDeskAct_ok _ _ _)
      | ((with_reducible refine Z2w (n := 114) ?_); rintro _ _ ⟨rfl, hh⟩; replace hh := hh.symm; subst hh)
      )
    refine ⟨?_, rfl⟩
    rw [List.take_of_length_le hkn, List.take_of_length_le (by omega)] at hall
    simp only [oneOf, hall, Z1g]

theorem markDeskActS_ok (n : Nat) (cs : List Value) (s : Int) (v : Value) (h : Heap) (ho : Own h v 8 cs n) (hn : n ≤ 1048576) (hs : 0 ≤ s ∧ s ≤ 100000000) :
    ACalls Try.prog 0 68 #[v, .int .i64 s] h fun v' h' => v' = .int .i64 (s + ((n * 8 : Nat) : Int)) ∧ h' = mset h v ⟨2, 8, marksC s (n * 8)⟩ := by
  rcases ho with ⟨rfl, rfl, rfl⟩ | ⟨id, sp, c, rfl, hc, hl, hb⟩
  · simp only [Z12]
    refine Z36 Try.func68 rfl Try.ntmps68 (by simp) (by dsimp only [Try.f68]) ?_
    repeat' (first
      | ((with_reducible refine eq_go ?_); simp only [stp, ev, Zb, Z2e, Z1z, Zk, Zl, reduceIte, Nat.reduceEqDiff, Zj, Zz, Zu, Z16, Z1a, Zm, Zp, Zo, Zd, Zx, Z2b, Z2x, Z1g, Z17, Zq, Zn, Zv, Z2p, Z2f, Z2o, Z2d, Z2g, Z1c, Z1b, Z2i, Z2n, Z2h, Z2j, Z2k, Z2l, Z2m, Z31, Z8, Z5, Z13, Zy, stv, vcs, fldA, idxA, blt, lenV, Z10, Z3, Z2, Zf, Zg, Ze, Z1, Z0, Z14, Zw, Zh, Zr, Z33, Z15, Z7, Zc, Z6, Z3, Z2, Zf, Zi, Nat.reduceAdd, Nat.reduceMul, Nat.reduceLeDiff, Z11, Z12, Z1y, Z1h, Z2c, Z23, Z28, Z27, Z26, Z25, Z24, Z1m, Z1l, Z1k, Z1j, Z1i, Z1w, Z1v, Z1u, Z1t, Z1s, Z32, Z2y, Z2q, Z2r, Z2s, Z20, Z1q, Z1r, Z2z, Z2t, Z21, Z22, splice, Za, Z9, Z1, Z0, Z19, Zt, Zs, Z18, newB, vcs, Z30, Z2v, Z1x, Z29, Z1n, Z2u, Z1o, Z1f, Z1p, Z1d, Z1e, Ty.sz3, Ty.zc3, Ty.by3, Ty.sz71, Ty.sl71, Ty.zc71, Ty.by71, Ty.sz80, Ty.zc80, Ty.by80, Ty.fl80_0, Ty.fl80_1, Ty.fl80_2, Ty.fl80_3, Ty.fl80_4, Ty.fl80_5, Ty.fl80_6, Ty.fl80_7, *]; rfl)
      | (with_reducible refine aw_then ?_) | (with_reducible refine aw_skip ?_) | (with_reducible refine aw_ret ?_) | (with_reducible refine aw_exit ?_) | (with_reducible refine aw_block ?_) | (with_reducible refine xr_reg (by decide +kernel) ?_)
      | (with_reducible refine xr_nil ?_) | (with_reducible refine k_norm ?_) | (with_reducible refine k_ret ?_) | (with_reducible refine k_exit ?_) | (with_reducible refine b_norm ?_) | (with_reducible refine b_ret ?_) | (with_reducible refine b_exit ?_) | (with_reducible refine b_past (by decide) ?_)
      | (refine xr_do (v := ?_) (h' := ?_) (by exact rfl) ?_ ?_; rotate_left 2)
      | (refine xr_st (v := ?_) (h' := ?_) (by exact rfl) ?_ ?_; rotate_left 2)
      | (refine aw_ift (by decide) ?_ ?_
         · simp only [ev, Zb, reduceIte, Nat.reduceEqDiff, *])
      | (refine aw_iff (by decide) ?_ ?_
         · simp only [ev, Zb, reduceIte, Nat.reduceEqDiff, *])
      | (refine aw_if (b := ?_) (by decide) ?_ (fun hb => ?_) (fun hb => ?_)
         rotate_left 1
         · simp only [ev, Zb, reduceIte, Nat.reduceEqDiff, *]; rfl)
      | (refine r_ret (vs := ?_) ?_ ?_
         rotate_left 1
         · simp only [resV, ev, Zb, reduceIte, Nat.reduceEqDiff, Zj, *]; rfl)
      )
    refine aw_for [0, 1] (fun k T h' => h' = h ∧ T 5 = .int .i64 0) 0 (k0 := 0) (Nat.zero_le _) ⟨rfl, rfl⟩ ?_
    rintro k T h' hk hR ⟨rfl, h11⟩
    have h1 : decide ((0 : Int) < ((0 : Nat) : Int)) = false := rfl
    simp only [Z37, Z38, Z39, implies_true, and_true, stp, ev, Zb, Z2e, Z1z, Zk, Zl, reduceIte, Nat.reduceEqDiff, Zj, Zz, Zu, Z16, Z1a, Zm, Zp, Zo, Zd, Zx, Z2b, Z2x, Z1g, Z17, Zq, Zn, Zv, Z2p, Z2f, Z2o, Z2d, Z2g, Z1c, Z1b, Z2i, Z2n, Z2h, Z2j, Z2k, Z2l, Z2m, Z31, Z8, Z5, Z13, Zy] at hR
    repeat' (first
      | ((with_reducible refine eq_go ?_); simp only [stp, ev, Zb, Z2e, Z1z, Zk, Zl, reduceIte, Nat.reduceEqDiff, Zj, Zz, Zu, Z16, Z1a, Zm, Zp, Zo, Zd, Zx, Z2b, Z2x, Z1g, Z17, Zq, Zn, Zv, Z2p, Z2f, Z2o, Z2d, Z2g, Z1c, Z1b, Z2i, Z2n, Z2h, Z2j, Z2k, Z2l, Z2m, Z31, Z8, Z5, Z13, Zy, stv, vcs, fldA, idxA, blt, lenV, Z10, Z3, Z2, Zf, Zg, Ze, Z1, Z0, Z14, Zw, Zh, Zr, Z33, Z15, Z7, Zc, Z6, Z3, Z2, Zf, Zi, Nat.reduceAdd, Nat.reduceMul, Nat.reduceLeDiff, Z11, Z12, Z1y, Z1h, Z2c, Z23, Z28, Z27, Z26, Z25, Z24, Z1m, Z1l, Z1k, Z1j, Z1i, Z1w, Z1v, Z1u, Z1t, Z1s, Z32, Z2y, Z2q, Z2r, Z2s, Z20, Z1q, Z1r, Z2z, Z2t, Z21, Z22, splice, Za, Z9, Z1, Z0, Z19, Zt, Zs, Z18, newB, vcs, Z30, Z2v, Z1x, Z29, Z1n, Z2u, Z1o, Z1f, Z1p, Z1d, Z1e, Ty.sz3, Ty.zc3, Ty.by3, Ty.sz71, Ty.sl71, Ty.zc71, Ty.by71, Ty.sz80, Ty.zc80, Ty.by80, Ty.fl80_0, Ty.fl80_1, Ty.fl80_2, Ty.fl80_3, Ty.fl80_4, Ty.fl80_5, Ty.fl80_6, Ty.fl80_7, *]; rfl)
      | (with_reducible refine aw_then ?_) | (with_reducible refine aw_skip ?_) | (with_reducible refine aw_ret ?_) | (with_reducible refine aw_exit ?_) | (with_reducible refine aw_block ?_) | (with_reducible refine xr_reg (by decide +kernel) ?_)
      | (with_reducible refine xr_nil ?_) | (with_reducible refine k_norm ?_) | (with_reducible refine k_ret ?_) | (with_reducible refine k_exit ?_) | (with_reducible refine b_norm ?_) | (with_reducible refine b_ret ?_) | (with_reducible refine b_exit ?_) | (with_reducible refine b_past (by decide) ?_)
      | (refine xr_do (v := ?_) (h' := ?_) (by exact rfl) ?_ ?_; rotate_left 2)
      | (refine xr_st (v := ?_) (h' := ?_) (by exact rfl) ?_ ?_; rotate_left 2)
      | (refine aw_ift (by decide) ?_ ?_
         · simp only [ev, Zb, reduceIte, Nat.reduceEqDiff, *])
      | (refine aw_iff (by decide) ?_ ?_
         · simp only [ev, Zb, reduceIte, Nat.reduceEqDiff, *])
      | (refine aw_if (b := ?_) (by decide) ?_ (fun hb => ?_) (fun hb => ?_)
         rotate_left 1
         · simp only [ev, Zb, reduceIte, Nat.reduceEqDiff, *]; rfl)
      | (refine r_ret (vs := ?_) ?_ ?_
         rotate_left 1
         · simp only [resV, ev, Zb, reduceIte, Nat.reduceEqDiff, Zj, *]; rfl)
      )
    exact ⟨by simp [oneOf], rfl⟩
  simp only [Z11]
  have hlm : cs.length = (marksC s (n * 8)).length := by rw [Z34, hl]
  refine Z36 Try.func68 rfl Try.ntmps68 (by simp) (by dsimp only [Try.f68]) ?_
  repeat' (first
    | ((with_reducible refine eq_go ?_); simp only [stp, ev, Zb, Z2e, Z1z, Zk, Zl, reduceIte, Nat.reduceEqDiff, Zj, Zz, Zu, Z16, Z1a, Zm, Zp, Zo, Zd, Zx, Z2b, Z2x, Z1g, Z17, Zq, Zn, Zv, Z2p, Z2f, Z2o, Z2d, Z2g, Z1c, Z1b, Z2i, Z2n, Z2h, Z2j, Z2k, Z2l, Z2m, Z31, Z8, Z5, Z13, Zy, stv, vcs, fldA, idxA, blt, lenV, Z10, Z3, Z2, Zf, Zg, Ze, Z1, Z0, Z14, Zw, Zh, Zr, Z33, Z15, Z7, Zc, Z6, Z3, Z2, Zf, Zi, Nat.reduceAdd, Nat.reduceMul, Nat.reduceLeDiff, Z11, Z12, Z1y, Z1h, Z2c, Z23, Z28, Z27, Z26, Z25, Z24, Z1m, Z1l, Z1k, Z1j, Z1i, Z1w, Z1v, Z1u, Z1t, Z1s, Z32, Z2y, Z2q, Z2r, Z2s, Z20, Z1q, Z1r, Z2z, Z2t, Z21, Z22, splice, Za, Z9, Z1, Z0, Z19, Zt, Zs, Z18, newB, vcs, Z30, Z2v, Z1x, Z29, Z1n, Z2u, Z1o, Z1f, Z1p, Z1d, Z1e, Ty.sz3, Ty.zc3, Ty.by3, Ty.sz71, Ty.sl71, Ty.zc71, Ty.by71, Ty.sz80, Ty.zc80, Ty.by80, Ty.fl80_0, Ty.fl80_1, Ty.fl80_2, Ty.fl80_3, Ty.fl80_4, Ty.fl80_5, Ty.fl80_6, Ty.fl80_7, *]; rfl)
    | (with_reducible refine aw_then ?_) | (with_reducible refine aw_skip ?_) | (with_reducible refine aw_ret ?_) | (with_reducible refine aw_exit ?_) | (with_reducible refine aw_block ?_) | (with_reducible refine xr_reg (by decide +kernel) ?_)
    | (with_reducible refine xr_nil ?_) | (with_reducible refine k_norm ?_) | (with_reducible refine k_ret ?_) | (with_reducible refine k_exit ?_) | (with_reducible refine b_norm ?_) | (with_reducible refine b_ret ?_) | (with_reducible refine b_exit ?_) | (with_reducible refine b_past (by decide) ?_)
    | (refine xr_do (v := ?_) (h' := ?_) (by exact rfl) ?_ ?_; rotate_left 2)
    | (refine xr_st (v := ?_) (h' := ?_) (by exact rfl) ?_ ?_; rotate_left 2)
    | (refine aw_ift (by decide) ?_ ?_
       · simp only [ev, Zb, reduceIte, Nat.reduceEqDiff, *])
    | (refine aw_iff (by decide) ?_ ?_
       · simp only [ev, Zb, reduceIte, Nat.reduceEqDiff, *])
    | (refine aw_if (b := ?_) (by decide) ?_ (fun hb => ?_) (fun hb => ?_)
       rotate_left 1
       · simp only [ev, Zb, reduceIte, Nat.reduceEqDiff, *]; rfl)
    | (refine r_ret (vs := ?_) ?_ ?_
       rotate_left 1
       · simp only [resV, ev, Zb, reduceIte, Nat.reduceEqDiff, Zj, *]; rfl)
    )
  refine aw_for [0] (fun k T h' => h' = h.set id ⟨2, 8, mixC cs (marksC s (n * 8)) (k * 8)⟩ ∧ T 5 = .int .i64 k ∧ T 1 = .int .i64 (s + ((k * 8 : Nat) : Int))) n (k0 := 0) (Nat.zero_le _) ⟨?_, rfl, ?_⟩ ?_
  · rw [Nat.zero_mul, mixC_zero, set_self hb]
  · simp [Zb, argT]
  rintro k T h' hk hR ⟨rfl, h11, h12⟩
  simp only [Z37, Z38, Z39, implies_true, and_true, stp, ev, Zb, Z2e, Z1z, Zk, Zl, reduceIte, Nat.reduceEqDiff, Zj, Zz, Zu, Z16, Z1a, Zm, Zp, Zo, Zd, Zx, Z2b, Z2x, Z1g, Z17, Zq, Zn, Zv, Z2p, Z2f, Z2o, Z2d, Z2g, Z1c, Z1b, Z2i, Z2n, Z2h, Z2j, Z2k, Z2l, Z2m, Z31, Z8, Z5, Z13, Zy] at hR
  rcases Nat.lt_or_ge k n with hkn | hkn
  · have h1 : (k : Int) < n := by omega
    have hset0 : setCs (h.set id ⟨2, 8, mixC cs (marksC s (n * 8)) (k * 8)⟩) id (k * 8) [.int .i64 (s + ((k * 8 : Nat) : Int))] = some (h.set id ⟨2, 8, mixC cs (marksC s (n * 8)) (k * 8 + 1)⟩) := set_mix hb hlm (marksC_get s (by omega))
    have hset1 : setCs (h.set id ⟨2, 8, mixC cs (marksC s (n * 8)) (k * 8 + 1)⟩) id (k * 8 + 1) [.int .i64 (s + ((k * 8 + 1 : Nat) : Int))] = some (h.set id ⟨2, 8, mixC cs (marksC s (n * 8)) (k * 8 + 2)⟩) := set_mix hb hlm (marksC_get s (by omega))
    have hset2 : setCs (h.set id ⟨2, 8, mixC cs (marksC s (n * 8)) (k * 8 + 2)⟩) id (k * 8 + 2) [.int .i64 (s + ((k * 8 + 2 : Nat) : Int))] = some (h.set id ⟨2, 8, mixC cs (marksC s (n * 8)) (k * 8 + 3)⟩) := set_mix hb hlm (marksC_get s (by omega))
    have hset3 : setCs (h.set id ⟨2, 8, mixC cs (marksC s (n * 8)) (k * 8 + 3)⟩) id (k * 8 + 3) [.int .i64 (s + ((k * 8 + 3 : Nat) : Int))] = some (h.set id ⟨2, 8, mixC cs (marksC s (n * 8)) (k * 8 + 4)⟩) := set_mix hb hlm (marksC_get s (by omega))
    have hset4 : setCs (h.set id ⟨2, 8, mixC cs (marksC s (n * 8)) (k * 8 + 4)⟩) id (k * 8 + 4) [.int .i64 (s + ((k * 8 + 4 : Nat) : Int))] = some (h.set id ⟨2, 8, mixC cs (marksC s (n * 8)) (k * 8 + 5)⟩) := set_mix hb hlm (marksC_get s (by omega))
    have hset5 : setCs (h.set id ⟨2, 8, mixC cs (marksC s (n * 8)) (k * 8 + 5)⟩) id (k * 8 + 5) [.int .i64 (s + ((k * 8 + 5 : Nat) : Int))] = some (h.set id ⟨2, 8, mixC cs (marksC s (n * 8)) (k * 8 + 6)⟩) := set_mix hb hlm (marksC_get s (by omega))
    have hset6 : setCs (h.set id ⟨2, 8, mixC cs (marksC s (n * 8)) (k * 8 + 6)⟩) id (k * 8 + 6) [.int .i64 (s + ((k * 8 + 6 : Nat) : Int))] = some (h.set id ⟨2, 8, mixC cs (marksC s (n * 8)) (k * 8 + 7)⟩) := set_mix hb hlm (marksC_get s (by omega))
    have hset7 : setCs (h.set id ⟨2, 8, mixC cs (marksC s (n * 8)) (k * 8 + 7)⟩) id (k * 8 + 7) [.int .i64 (s + ((k * 8 + 7 : Nat) : Int))] = some (h.set id ⟨2, 8, mixC cs (marksC s (n * 8)) (k * 8 + 8)⟩) := set_mix hb hlm (marksC_get s (by omega))
    have hw0 : IntKind.i64.wrap (s + ((k * 8 : Nat) : Int) + 1) = s + ((k * 8 + 1 : Nat) : Int) := by rw [wrap_id (by omega)]; omega
    have hw1 : IntKind.i64.wrap (s + ((k * 8 + 1 : Nat) : Int) + 1) = s + ((k * 8 + 2 : Nat) : Int) := by rw [wrap_id (by omega)]; omega
    have hw2 : IntKind.i64.wrap (s + ((k * 8 + 2 : Nat) : Int) + 1) = s + ((k * 8 + 3 : Nat) : Int) := by rw [wrap_id (by omega)]; omega
    have hw3 : IntKind.i64.wrap (s + ((k * 8 + 3 : Nat) : Int) + 1) = s + ((k * 8 + 4 : Nat) : Int) := by rw [wrap_id (by omega)]; omega
    have hw4 : IntKind.i64.wrap (s + ((k * 8 + 4 : Nat) : Int) + 1) = s + ((k * 8 + 5 : Nat) : Int) := by rw [wrap_id (by omega)]; omega
    have hw5 : IntKind.i64.wrap (s + ((k * 8 + 5 : Nat) : Int) + 1) = s + ((k * 8 + 6 : Nat) : Int) := by rw [wrap_id (by omega)]; omega
    have hw6 : IntKind.i64.wrap (s + ((k * 8 + 6 : Nat) : Int) + 1) = s + ((k * 8 + 7 : Nat) : Int) := by rw [wrap_id (by omega)]; omega
    have hw7 : IntKind.i64.wrap (s + ((k * 8 + 7 : Nat) : Int) + 1) = s + ((k * 8 + 8 : Nat) : Int) := by rw [wrap_id (by omega)]; omega
    have hwk : IntKind.i64.wrap ((k : Int) + 1) = ((k + 1 : Nat) : Int) := by rw [wrap_id (by omega)]; omega
    repeat' (first
      | ((with_reducible refine eq_go ?_); simp only [stp, ev, Zb, Z2e, Z1z, Zk, Zl, reduceIte, Nat.reduceEqDiff, Zj, Zz, Zu, Z16, Z1a, Zm, Zp, Zo, Zd, Zx, Z2b, Z2x, Z1g, Z17, Zq, Zn, Zv, Z2p, Z2f, Z2o, Z2d, Z2g, Z1c, Z1b, Z2i, Z2n, Z2h, Z2j, Z2k, Z2l, Z2m, Z31, Z8, Z5, Z13, Zy, stv, vcs, fldA, idxA, blt, lenV, Z10, Z3, Z2, Zf, Zg, Ze, Z1, Z0, Z14, Zw, Zh, Zr, Z33, Z15, Z7, Zc, Z6, Z3, Z2, Zf, Zi, Nat.reduceAdd, Nat.reduceMul, Nat.reduceLeDiff, Z11, Z12, Z1y, Z1h, Z2c, Z23, Z28, Z27, Z26, Z25, Z24, Z1m, Z1l, Z1k, Z1j, Z1i, Z1w, Z1v, Z1u, Z1t, Z1s, Z32, Z2y, Z2q, Z2r, Z2s, Z20, Z1q, Z1r, Z2z, Z2t, Z21, Z22, splice, Za, Z9, Z1, Z0, Z19, Zt, Zs, Z18, newB, vcs, Z30, Z2v, Z1x, Z29, Z1n, Z2u, Z1o, Z1f, Z1p, Z1d, Z1e, Ty.sz3, Ty.zc3, Ty.by3, Ty.sz71, Ty.sl71, Ty.zc71, Ty.by71, Ty.sz80, Ty.zc80, Ty.by80, Ty.fl80_0, Ty.fl80_1, Ty.fl80_2, Ty.fl80_3, Ty.fl80_4, Ty.fl80_5, Ty.fl80_6, Ty.fl80_7, *]; rfl)
      | (with_reducible refine aw_then ?_) | (with_reducible refine aw_skip ?_) | (with_reducible refine aw_ret ?_) | (with_reducible refine aw_exit ?_) | (with_reducible refine aw_block ?_) | (with_reducible refine xr_reg (by decide +kernel) ?_)
      | (with_reducible refine xr_nil ?_) | (with_reducible refine k_norm ?_) | (with_reducible refine k_ret ?_) | (with_reducible refine k_exit ?_) | (with_reducible refine b_norm ?_) | (with_reducible refine b_ret ?_) | (with_reducible refine b_exit ?_) | (with_reducible refine b_past (by decide) ?_)
      | (refine xr_do (v := ?_) (h' := ?_) (by exact rfl) ?_ ?_; rotate_left 2)
      | (refine xr_st (v := ?_) (h' := ?_) (by exact rfl) ?_ ?_; rotate_left 2)
      | (refine aw_ift (by decide) ?_ ?_
         · simp only [ev, Zb, reduceIte, Nat.reduceEqDiff, *])
      | (refine aw_iff (by decide) ?_ ?_
         · simp only [ev, Zb, reduceIte, Nat.reduceEqDiff, *])
      | (refine aw_if (b := ?_) (by decide) ?_ (fun hb => ?_) (fun hb => ?_)
         rotate_left 1
         · simp only [ev, Zb, reduceIte, Nat.reduceEqDiff, *]; rfl)
      | (refine r_ret (vs := ?_) ?_ ?_
         rotate_left 1
         · simp only [resV, ev, Zb, reduceIte, Nat.reduceEqDiff, Zj, *]; rfl)
      )
    refine ⟨by first | assumption | omega, ?_, ?_⟩
    · simp only [Z37, Z38, Z39, implies_true, and_true, Z2b, stp, ev, Zb, Z2e, Z1z, Zk, Zl, reduceIte, Nat.reduceEqDiff, Zj, Zz, Zu, Z16, Z1a, Zm, Zp, Zo, Zd, Zx, Z2b, Z2x, Z1g, Z17, Zq, Zn, Zv, Z2p, Z2f, Z2o, Z2d, Z2g, Z1c, Z1b, Z2i, Z2n, Z2h, Z2j, Z2k, Z2l, Z2m, Z31, Z8, Z5, Z13, Zy, *]
    have e6 : (k + 1) * 8 = k * 8 + 8 := by omega
    rw [e6]
    exact ⟨rfl, by simp only [Zb, reduceIte, Nat.reduceEqDiff], by simp only [Zb, reduceIte, Nat.reduceEqDiff]⟩
  · have h1 : ¬ (k : Int) < n := by omega
    obtain rfl : k = n := by omega
    repeat' (first
      | ((with_reducible refine eq_go ?_); simp only [stp, ev, Zb, Z2e, Z1z, Zk, Zl, reduceIte, Nat.reduceEqDiff, Zj, Zz, Zu, Z16, Z1a, Zm, Zp, Zo, Zd, Zx, Z2b, Z2x, Z1g, Z17, Zq, Zn, Zv, Z2p, Z2f, Z2o, Z2d, Z2g, Z1c, Z1b, Z2i, Z2n, Z2h, Z2j, Z2k, Z2l, Z2m, Z31, Z8, Z5, Z13, Zy, stv, vcs, fldA, idxA, blt, lenV, Z10, Z3, Z2, Zf, Zg, Ze, Z1, Z0, Z14, Zw, Zh, Zr, Z33, Z15, Z7, Zc, Z6, Z3, Z2, Zf, Zi, Nat.reduceAdd, Nat.reduceMul, Nat.reduceLeDiff, Z11, Z12, Z1y, Z1h, Z2c, Z23, Z28, Z27, Z26, Z25, Z24, Z1m, Z1l, Z1k, Z1j, Z1i, Z1w, Z1v, Z1u, Z1t, Z1s, Z32, Z2y, Z2q, Z2r, Z2s, Z20, Z1q, Z1r, Z2z, Z2t, Z21, Z22, splice, Za, Z9, Z1, Z0, Z19, Zt, Zs, Z18, newB, vcs, Z30, Z2v, Z1x, Z29, Z1n, Z2u, Z1o, Z1f, Z1p, Z1d, Z1e, Ty.sz3, Ty.zc3, Ty.by3, Ty.sz71, Ty.sl71, Ty.zc71, Ty.by71, Ty.sz80, Ty.zc80, Ty.by80, Ty.fl80_0, Ty.fl80_1, Ty.fl80_2, Ty.fl80_3, Ty.fl80_4, Ty.fl80_5, Ty.fl80_6, Ty.fl80_7, *]; rfl)
      | (with_reducible refine aw_then ?_) | (with_reducible refine aw_skip ?_) | (with_reducible refine aw_ret ?_) | (with_reducible refine aw_exit ?_) | (with_reducible refine aw_block ?_) | (with_reducible refine xr_reg (by decide +kernel) ?_)
      | (with_reducible refine xr_nil ?_) | (with_reducible refine k_norm ?_) | (with_reducible refine k_ret ?_) | (with_reducible refine k_exit ?_) | (with_reducible refine b_norm ?_) | (with_reducible refine b_ret ?_) | (with_reducible refine b_exit ?_) | (with_reducible refine b_past (by decide) ?_)
      | (refine xr_do (v := ?_) (h' := ?_) (by exact rfl) ?_ ?_; rotate_left 2)
      | (refine xr_st (v := ?_) (h' := ?_) (by exact rfl) ?_ ?_; rotate_left 2)
      | (refine aw_ift (by decide) ?_ ?_
         · simp only [ev, Zb, reduceIte, Nat.reduceEqDiff, *])
      | (refine aw_iff (by decide) ?_ ?_
         · simp only [ev, Zb, reduceIte, Nat.reduceEqDiff, *])
      | (refine aw_if (b := ?_) (by decide) ?_ (fun hb => ?_) (fun hb => ?_)
         rotate_left 1
         · simp only [ev, Zb, reduceIte, Nat.reduceEqDiff, *]; rfl)
      | (refine r_ret (vs := ?_) ?_ ?_
         rotate_left 1
         · simp only [resV, ev, Zb, reduceIte, Nat.reduceEqDiff, Zj, *]; rfl)
      )
    exact ⟨rfl, by rw [mixC_all hlm (by rw [Z34]; omega)]⟩


theorem sl_zero {h : Heap} {b : Option Addr} {c : Nat} : Sl h (.slice b 0 c) 6 (([] : List Item).map Item.cells) := ⟨b, c, rfl, Nat.zero_le _, fun i r hr => by simp at hr⟩
theorem sl_zeroi {h : Heap} {b : Option Addr} {c : Nat} : Sl h (.slice b 0 c) 1 (([] : List Int).map fun n => [.int .i64 n]) := ⟨b, c, rfl, Nat.zero_le _, fun i r hr => by simp at hr⟩
theorem sl_zerod {h : Heap} {b : Option Addr} {c : Nat} : Sl h (.slice b 0 c) 8 (([] : List DAct).map DAct.cells) := ⟨b, c, rfl, Nat.zero_le _, fun i r hr => by simp at hr⟩
theorem implPlay_g {people : List Int} {l : List DAct} {now : Int} {items : List Item} {codes : List Int} (hq : playA people l = (now, items, codes)) (hc : codes.length = l.length) (hok : (peopleOk people && decide ((l.length : Int) ≤ 60)) = true) (ap : Addr) (c : Nat) (vl : Value) (h : Heap)
    (hp : Sl h (.slice (some ap) people.length c) 1 (ints people)) (hs : Sl h vl 8 (l.map DAct.cells)) (hl : people.length ≤ 1048576) (hll : l.length ≤ 1048576) :
    ACalls Try.prog 0 56 #[.slice (some ap) people.length c, vl] h fun v h' => v = .tuple #[.agg #[.int .i64 now, .slice (some ⟨h.length, 0, some 0⟩) people.length people.length, itV (h.length + 2) items], .slice (some ⟨h.length + 1, 0, some 0⟩) codes.length codes.length, .bool true] ∧
      h' = h ++ (⟨2, 1, (ints people).flatten⟩ :: ⟨2, 1, (ints codes).flatten⟩ :: itL items) := by
  have := implPlayDesk_ok people l ap c vl h hp hs hl hll
  simp only [playDkV, playDkL, hok, hq, Z2x, Zc, Zd] at this
  rw [hc]; exact this
theorem specPlay_g {people : List Int} {l : List DAct} {now : Int} {items : List Item} {codes : List Int} (hq : playA people l = (now, items, codes)) (hc : codes.length = l.length) (hne : l ≠ []) (hok : (peopleOk people && decide ((l.length : Int) ≤ 60)) = true) (ap : Addr) (c : Nat) (vl : Value) (h : Heap)
    (hp : Sl h (.slice (some ap) people.length c) 1 (ints people)) (hs : Sl h vl 8 (l.map DAct.cells)) (hl : people.length ≤ 1048576) (hll : l.length ≤ 1048576) :
    ACalls Try.prog 0 57 #[.slice (some ap) people.length c, vl] h fun v h' => v = .tuple #[.agg #[.int .i64 now, .slice (some ⟨h.length, 0, some 0⟩) people.length people.length, .slice (some ⟨h.length + 1, 0, some 0⟩) items.length items.length], .slice (some ⟨h.length + 2, 0, some 0⟩) codes.length codes.length, .bool true] ∧
      h' = h ++ [⟨2, 1, (ints people).flatten⟩, ⟨2, 6, cellsL items⟩, ⟨2, 1, (ints codes).flatten⟩] := by
  have := specPlayDesk_ok people l ap c vl h hp hs hl hll
  simp only [playDsV, playDsL, hok, hq, Z2x, if_neg hne] at this
  rw [hc]; exact this

theorem specPlay_0 {people : List Int} (hok : (peopleOk people && decide (((([] : List DAct).length : Nat) : Int) ≤ 60)) = true) (ap : Addr) (c : Nat) (vl : Value) (h : Heap)
    (hp : Sl h (.slice (some ap) people.length c) 1 (ints people)) (hs : Sl h vl 8 (([] : List DAct).map DAct.cells)) (hl : people.length ≤ 1048576) :
    ACalls Try.prog 0 57 #[.slice (some ap) people.length c, vl] h fun v h' => v = .tuple #[.agg #[.int .i64 0, .slice (some ⟨h.length, 0, some 0⟩) people.length people.length, .slice none 0 0], .slice none 0 0, .bool true] ∧ h' = h ++ [⟨2, 1, (ints people).flatten⟩] := by
  have := specPlayDesk_ok people [] ap c vl h hp hs hl (by simp)
  simp only [playDsV, playDsL, hok, Z2x] at this
  exact this
theorem playNo_i {people : List Int} {l : List DAct} (hok : (peopleOk people && decide ((l.length : Int) ≤ 60)) = false) (ap : Addr) (c : Nat) (vl : Value) (h : Heap)
    (hp : Sl h (.slice (some ap) people.length c) 1 (ints people)) (hs : Sl h vl 8 (l.map DAct.cells)) (hl : people.length ≤ 1048576) (hll : l.length ≤ 1048576) :
    ACalls Try.prog 0 56 #[.slice (some ap) people.length c, vl] h fun v h' => v = .tuple #[.agg #[.int .i64 0, .slice none 0 0, .slice none 0 0], .slice none 0 0, .bool false] ∧ h' = h := by
  have := implPlayDesk_ok people l ap c vl h hp hs hl hll
  simp only [playDkV, playDkL, hok, Bool.false_eq_true, if_false, Zx] at this
  exact this
theorem playNo_s {people : List Int} {l : List DAct} (hok : (peopleOk people && decide ((l.length : Int) ≤ 60)) = false) (ap : Addr) (c : Nat) (vl : Value) (h : Heap)
    (hp : Sl h (.slice (some ap) people.length c) 1 (ints people)) (hs : Sl h vl 8 (l.map DAct.cells)) (hl : people.length ≤ 1048576) (hll : l.length ≤ 1048576) :
    ACalls Try.prog 0 57 #[.slice (some ap) people.length c, vl] h fun v h' => v = .tuple #[.agg #[.int .i64 0, .slice none 0 0, .slice none 0 0], .slice none 0 0, .bool false] ∧ h' = h := by
  have := specPlayDesk_ok people l ap c vl h hp hs hl hll
  simp only [playDsV, playDsL, hok, Bool.false_eq_true, if_false, Zx] at this
  exact this

theorem lawPlayDesk_ok (people : List Int) (l : List DAct) (vp vl : Value) (h : Heap) (hp : Sl h vp 1 (ints people)) (hs : Sl h vl 8 (l.map DAct.cells))
    (hl : people.length ≤ 9223372036854775807) (hl2 : l.length ≤ 9223372036854775807) :
    ACalls Try.prog 0 12 #[vp, vl] h fun v _ => v = .bool true := by
  obtain ⟨b1, c1, rfl, hc1, _⟩ := id hp
  obtain ⟨b2, c2, rfl, hc2, _⟩ := id hs
  simp only [Zv] at hp hs ⊢
  by_cases hz1 : (1048576 : Int) < people.length
  · refine Z36 Try.func12 rfl Try.ntmps12 (by simp) (by dsimp only [Try.f12]) ?_
    repeat' (first
      | ((with_reducible refine eq_go ?_); simp only [stp, ev, Zb, Z2e, Z1z, Zk, Zl, reduceIte, Nat.reduceEqDiff, Zj, Zz, Zu, Z16, Z1a, Zm, Zp, Zo, Zd, Zx, Z2b, Z2x, Z1g, Z17, Zq, Zn, Zv, Z2p, Z2f, Z2o, Z2d, Z2g, Z1c, Z1b, Z2i, Z2n, Z2h, Z2j, Z2k, Z2l, Z2m, Z31, Z8, Z5, Z13, Zy, binV_bool_neq, binV_bool_eql, Ty.un4, Ze, Z1, Z0, ldv, stv, vcs, blt, lenV, Z10, Z3, Z2, Zf, Zg, Ze, Z1, Z0, Z14, Zw, Zh, Zr, Z33, Z15, Z7, Zc, Z6, Z3, Z2, Zf, Zi, Nat.reduceAdd, Nat.reduceMul, Nat.reduceLeDiff, Z11, Z12, Z1y, Z1h, Z2c, Z23, Z28, Z27, Z26, Z25, Z24, Z1m, Z1l, Z1k, Z1j, Z1i, Z1w, Z1v, Z1u, Z1t, Z1s, Z32, Z2y, Z2q, Z2r, Z2s, Z20, Z1q, Z1r, Z2z, Z2t, Z21, Z22, splice, Za, Z9, Z1, Z0, Z19, Zt, Zs, Z18, newB, vcs, Z30, Z2v, Z1x, Z29, Z1n, Z2u, Z1o, Z1f, Z1p, Z1d, Z1e, Ty.ld3, Ty.sz3, Ty.zc3, Ty.by3, Ty.ld4, Ty.sz4, Ty.zc4, Ty.by4, Ty.ld24, Ty.sz24, Ty.sl24, Ty.zc24, Ty.by24, Ty.ld56, Ty.sz56, Ty.sl56, Ty.zc56, Ty.by56, Ty.ld58, Ty.sz58, Ty.zc58, Ty.by58, Ty.ld71, Ty.sz71, Ty.sl71, Ty.zc71, Ty.by71, Ty.ld77, Ty.sz77, Ty.zc77, Ty.by77, Ty.ld80, Ty.sz80, Ty.zc80, Ty.by80, Ty.ld85, Ty.sz85, Ty.zc85, Ty.by85, Ty.ld88, Ty.sz88, Ty.sl88, Ty.zc88, Ty.by88, *]; rfl)
      | (with_reducible refine aw_then ?_) | (with_reducible refine aw_skip ?_) | (with_reducible refine aw_ret ?_) | (with_reducible refine aw_exit ?_) | (with_reducible refine aw_block ?_) | (with_reducible refine xr_reg (by decide +kernel) ?_)
      | (with_reducible refine xr_nil ?_) | (with_reducible refine k_norm ?_) | (with_reducible refine k_ret ?_) | (with_reducible refine k_exit ?_) | (with_reducible refine b_norm ?_) | (with_reducible refine b_ret ?_) | (with_reducible refine b_exit ?_) | (with_reducible refine b_past (by decide) ?_)
      | (refine xr_cl (f := ?_) (fs := ?_) (cs := ?_) (args := ?_) (K := ?_) ?_ ?_ ?_ ?_ ?_
         rotate_left 5
         · simp only [ev]; rfl
         first
         | (· with_reducible exact Ty.ok17
            rotate_left 2
            refine Z2a 17 ?_
            rotate_right 2)
         | (· with_reducible exact Ty.ok21
            rotate_left 2
            refine Z2a 21 ?_
            rotate_right 2)
         | (· with_reducible exact Ty.ok22
            rotate_left 2
            refine Z2a 22 ?_
            rotate_right 2)
         | (· with_reducible exact Ty.ok43
            rotate_left 2
            refine Z2a 43 ?_
            rotate_right 2)
         | (· with_reducible exact Ty.ok48
            rotate_left 2
            refine Z2a 48 ?_
            rotate_right 2)
         | (· with_reducible exact Ty.ok49
            rotate_left 2
            refine Z2a 49 ?_
            rotate_right 2)
         | (· with_reducible exact Ty.ok52
            rotate_left 2
            refine Z2a 52 ?_
            rotate_right 2)
         | (· with_reducible exact Ty.ok65
            rotate_left 2
            refine Z2a 65 ?_
            rotate_right 2)
         | (· with_reducible exact Ty.ok66
            rotate_left 2
            refine Z2a 66 ?_
            rotate_right 2)
         | (· with_reducible exact Ty.ok67
            rotate_left 2
            refine Z2a 67 ?_
            rotate_right 2)
         | (· with_reducible exact Ty.ok68
            rotate_left 2
            refine Z2a 68 ?_
            rotate_right 2)
         )
      | (refine xr_gcl (f := ?_) (fs := ?_) (cs := ?_) (args := ?_) (K := ?_) (by exact rfl) ?_ ?_ ?_ ?_ ?_ ?_
         rotate_left 5
         · simp only [ev, Zb, reduceIte, Nat.reduceEqDiff, Z8, Z5, *]
         · simp only [ev]; rfl
         first
         | (· with_reducible exact Ty.ok17
            rotate_left 2
            refine Z2a 17 ?_
            rotate_right 2)
         | (· with_reducible exact Ty.ok21
            rotate_left 2
            refine Z2a 21 ?_
            rotate_right 2)
         | (· with_reducible exact Ty.ok22
            rotate_left 2
            refine Z2a 22 ?_
            rotate_right 2)
         | (· with_reducible exact Ty.ok43
            rotate_left 2
            refine Z2a 43 ?_
            rotate_right 2)
         | (· with_reducible exact Ty.ok48
            rotate_left 2
            refine Z2a 48 ?_
            rotate_right 2)
         | (· with_reducible exact Ty.ok49
            rotate_left 2
            refine Z2a 49 ?_
            rotate_right 2)
         | (· with_reducible exact Ty.ok52
            rotate_left 2
            refine Z2a 52 ?_
            rotate_right 2)
         | (· with_reducible exact Ty.ok65
            rotate_left 2
            refine Z2a 65 ?_
            rotate_right 2)
         | (· with_reducible exact Ty.ok66
            rotate_left 2
            refine Z2a 66 ?_
            rotate_right 2)
         | (· with_reducible exact Ty.ok67
            rotate_left 2
            refine Z2a 67 ?_
            rotate_right 2)
         | (· with_reducible exact Ty.ok68
            rotate_left 2
            refine Z2a 68 ?_
            rotate_right 2)
         )
      | (refine xr_do (v := ?_) (h' := ?_) (by exact rfl) ?_ ?_; rotate_left 2)
      | (refine xr_st (v := ?_) (h' := ?_) (by exact rfl) ?_ ?_; rotate_left 2)
      | (refine xr_gdo (v := ?_) (h' := ?_) (by exact rfl) (by exact rfl) ?_ ?_ ?_
         rotate_left 2
         · simp only [ev, Zb, reduceIte, Nat.reduceEqDiff, Z8, Z5, *])
      | (refine xr_gst (v := ?_) (h' := ?_) (by exact rfl) (by exact rfl) ?_ ?_ ?_
         rotate_left 2
         · simp only [ev, Zb, reduceIte, Nat.reduceEqDiff, Z8, Z5, *])
      | (refine xr_goff (by exact rfl) ?_ ?_
         · simp only [ev, Zb, reduceIte, Nat.reduceEqDiff, Z8, Z5, *])
      | (refine xr_gsoff (by exact rfl) ?_ ?_
         · simp only [ev, Zb, reduceIte, Nat.reduceEqDiff, Z8, Z5, *])
      | (refine xr_gund (by exact rfl) ?_ ?_
         · simp only [ev, Zb, reduceIte, Nat.reduceEqDiff, Z8, Z5, *])
      | (refine xr_gsund (by exact rfl) ?_ ?_
         · simp only [ev, Zb, reduceIte, Nat.reduceEqDiff, Z8, Z5, *])
      | (refine xr_gif (b := ?_) (by exact rfl) ?_ (fun hb => ?_) (fun hb => ?_)
         rotate_left 1
         · simp only [ev, Zb, reduceIte, Nat.reduceEqDiff, Z8, Z5, *]; rfl)
      | (refine aw_ift (by decide) ?_ ?_
         · simp only [ev, Zb, reduceIte, Nat.reduceEqDiff, *])
      | (refine aw_iff (by decide) ?_ ?_
         · simp only [ev, Zb, reduceIte, Nat.reduceEqDiff, *])
      | (refine aw_if (b := ?_) (by decide) ?_ (fun hb => ?_) (fun hb => ?_)
         rotate_left 1
         · simp only [ev, Zb, reduceIte, Nat.reduceEqDiff, *]; rfl)
      | (refine r_ret (vs := ?_) ?_ ?_
         rotate_left 1
         · simp only [resV, ev, Zb, reduceIte, Nat.reduceEqDiff, Zj, *]; rfl)
      | (with_reducible refine toIntS_ok ?_ _ _ ?_ ?_
         rotate_left 1
         · first | assumption | exact Sl.old (by assumption) _ | ((try (simp only [deskV, deskL, Z11, Z12, Z1y, Z1h, Za, Z9, Z7, Zc, Zd, Z6, Z3, Z2, Zf, Zi, Nat.reduceAdd, Zh])); first | exact Sl.old (by assumption) _ | exact sl_nilints | exact sl_nilitems | (refine sl_ints (Z4 _) ?_; exact rfl) | (refine sl_items (Z4 _) ?_; exact rfl) | (refine sl_ints0 (Z4 _) ?_; exact rfl) | (refine sl_items0 (Z4 _) ?_; exact rfl))
         · first | omega | (simp only [Z2]; omega)
         )
      | (with_reducible refine eqIntS_ok ?_ ?_ _ _ _ ?_ ?_ ?_ ?_
         rotate_left 2
         · first | exact sl_zeroi | (first | assumption | exact Sl.old (by assumption) _ | ((try (simp only [deskV, deskL, Z11, Z12, Z1y, Z1h, Za, Z9, Z7, Zc, Zd, Z6, Z3, Z2, Zf, Zi, Nat.reduceAdd, Zh])); first | exact Sl.old (by assumption) _ | exact sl_nilints | exact sl_nilitems | (refine sl_ints (Z4 _) ?_; exact rfl) | (refine sl_items (Z4 _) ?_; exact rfl) | (refine sl_ints0 (Z4 _) ?_; exact rfl) | (refine sl_items0 (Z4 _) ?_; exact rfl)))
         · first | exact sl_zeroi | (first | assumption | exact Sl.old (by assumption) _ | ((try (simp only [deskV, deskL, Z11, Z12, Z1y, Z1h, Za, Z9, Z7, Zc, Zd, Z6, Z3, Z2, Zf, Zi, Nat.reduceAdd, Zh])); first | exact Sl.old (by assumption) _ | exact sl_nilints | exact sl_nilitems | (refine sl_ints (Z4 _) ?_; exact rfl) | (refine sl_items (Z4 _) ?_; exact rfl) | (refine sl_ints0 (Z4 _) ?_; exact rfl) | (refine sl_items0 (Z4 _) ?_; exact rfl)))
         · first | omega | (simp only [Z2]; omega)
         · first | omega | (simp only [Z2]; omega)
         )
      | (with_reducible refine markIntS_ok ?_ ?_ _ _ _ ?_ ?_ ?_
         rotate_left 2
         · first | assumption | exact Own.old (by assumption) _ | ((try (simp only [deskV, deskL, Z11, Z12, Z1y, Z1h, Za, Z9, Z7, Zc, Zd, Z6, Z3, Z2, Zf, Zi, Nat.reduceAdd, Zh])); first | exact Own.old (by assumption) _ | exact Own.nil _ | (refine Own.at ?_ ?_ (Z4 _); (exact rfl); first | exact ints_flen _ | exact items_flen _ | (simp only [Z34]; done) | (simp only [Z34]; omega)) | (refine Own.at0 ?_ ?_ (Z4 _); (exact rfl); first | exact ints_flen _ | exact items_flen _ | (simp only [Z34]; done) | (simp only [Z34]; omega)))
         · first | omega | (simp only [Z2]; omega)
         · first | omega | (simp only [Z2]; omega)
         )
      | (with_reducible refine eqDesk_ok _ _ ?_ ?_ ?_ ?_ _ _ _ _ _ ?_ ?_ ?_ ?_ ?_ ?_ ?_ ?_
         rotate_left 4
         · first | assumption | exact Sl.old (by assumption) _ | ((try (simp only [deskV, deskL, Z11, Z12, Z1y, Z1h, Za, Z9, Z7, Zc, Zd, Z6, Z3, Z2, Zf, Zi, Nat.reduceAdd, Zh])); first | exact Sl.old (by assumption) _ | exact sl_nilints | exact sl_nilitems | (refine sl_ints (Z4 _) ?_; exact rfl) | (refine sl_items (Z4 _) ?_; exact rfl) | (refine sl_ints0 (Z4 _) ?_; exact rfl) | (refine sl_items0 (Z4 _) ?_; exact rfl))
         · first | exact sl_zero | (first | assumption | exact Sl.old (by assumption) _ | ((try (simp only [deskV, deskL, Z11, Z12, Z1y, Z1h, Za, Z9, Z7, Zc, Zd, Z6, Z3, Z2, Zf, Zi, Nat.reduceAdd, Zh])); first | exact Sl.old (by assumption) _ | exact sl_nilints | exact sl_nilitems | (refine sl_ints (Z4 _) ?_; exact rfl) | (refine sl_items (Z4 _) ?_; exact rfl) | (refine sl_ints0 (Z4 _) ?_; exact rfl) | (refine sl_items0 (Z4 _) ?_; exact rfl)))
         · first | assumption | exact Sl.old (by assumption) _ | ((try (simp only [deskV, deskL, Z11, Z12, Z1y, Z1h, Za, Z9, Z7, Zc, Zd, Z6, Z3, Z2, Zf, Zi, Nat.reduceAdd, Zh])); first | exact Sl.old (by assumption) _ | exact sl_nilints | exact sl_nilitems | (refine sl_ints (Z4 _) ?_; exact rfl) | (refine sl_items (Z4 _) ?_; exact rfl) | (refine sl_ints0 (Z4 _) ?_; exact rfl) | (refine sl_items0 (Z4 _) ?_; exact rfl))
         · first | exact sl_zero | (first | assumption | exact Sl.old (by assumption) _ | ((try (simp only [deskV, deskL, Z11, Z12, Z1y, Z1h, Za, Z9, Z7, Zc, Zd, Z6, Z3, Z2, Zf, Zi, Nat.reduceAdd, Zh])); first | exact Sl.old (by assumption) _ | exact sl_nilints | exact sl_nilitems | (refine sl_ints (Z4 _) ?_; exact rfl) | (refine sl_items (Z4 _) ?_; exact rfl) | (refine sl_ints0 (Z4 _) ?_; exact rfl) | (refine sl_items0 (Z4 _) ?_; exact rfl)))
         · first | omega | (simp only [Z2]; omega)
         · first | omega | (simp only [Z2]; omega)
         · first | omega | (simp only [Z2]; omega)
         · first | omega | (simp only [Z2]; omega)
         )
      | (with_reducible refine markDesk_ok ?_ ?_ ?_ ?_ _ _ _ _ _ ?_ ?_ ?_ ?_ ?_ ?_
         rotate_left 4
         · first | assumption | exact Own.old (by assumption) _ | ((try (simp only [deskV, deskL, Z11, Z12, Z1y, Z1h, Za, Z9, Z7, Zc, Zd, Z6, Z3, Z2, Zf, Zi, Nat.reduceAdd, Zh])); first | exact Own.old (by assumption) _ | exact Own.nil _ | (refine Own.at ?_ ?_ (Z4 _); (exact rfl); first | exact ints_flen _ | exact items_flen _ | (simp only [Z34]; done) | (simp only [Z34]; omega)) | (refine Own.at0 ?_ ?_ (Z4 _); (exact rfl); first | exact ints_flen _ | exact items_flen _ | (simp only [Z34]; done) | (simp only [Z34]; omega)))
         · first | assumption | exact Own.old (by assumption) _ | ((try (simp only [deskV, deskL, Z11, Z12, Z1y, Z1h, Za, Z9, Z7, Zc, Zd, Z6, Z3, Z2, Zf, Zi, Nat.reduceAdd, Zh])); first | exact Own.old (by assumption) _ | exact Own.nil _ | (refine Own.at ?_ ?_ (Z4 _); (exact rfl); first | exact ints_flen _ | exact items_flen _ | (simp only [Z34]; done) | (simp only [Z34]; omega)) | (refine Own.at0 ?_ ?_ (Z4 _); (exact rfl); first | exact ints_flen _ | exact items_flen _ | (simp only [Z34]; done) | (simp only [Z34]; omega)))
         · first | exact .inl rfl | (right; simp [bid])
         · first | omega | (simp only [Z2]; omega)
         · first | omega | (simp only [Z2]; omega)
         · first | omega | (simp only [Z2]; omega)
         )
      | (with_reducible refine heldDesk_ok ?_ ?_ _ _ _ _ _ ?_ ?_ ?_ ?_ ?_
         rotate_left 2
         · first | assumption | exact Own.old (by assumption) _ | ((try (simp only [deskV, deskL, Z11, Z12, Z1y, Z1h, Za, Z9, Z7, Zc, Zd, Z6, Z3, Z2, Zf, Zi, Nat.reduceAdd, Zh])); first | exact Own.old (by assumption) _ | exact Own.nil _ | (refine Own.at ?_ ?_ (Z4 _); (exact rfl); first | exact ints_flen _ | exact items_flen _ | (simp only [Z34]; done) | (simp only [Z34]; omega)) | (refine Own.at0 ?_ ?_ (Z4 _); (exact rfl); first | exact ints_flen _ | exact items_flen _ | (simp only [Z34]; done) | (simp only [Z34]; omega)))
         · first | assumption | exact Own.old (by assumption) _ | ((try (simp only [deskV, deskL, Z11, Z12, Z1y, Z1h, Za, Z9, Z7, Zc, Zd, Z6, Z3, Z2, Zf, Zi, Nat.reduceAdd, Zh])); first | exact Own.old (by assumption) _ | exact Own.nil _ | (refine Own.at ?_ ?_ (Z4 _); (exact rfl); first | exact ints_flen _ | exact items_flen _ | (simp only [Z34]; done) | (simp only [Z34]; omega)) | (refine Own.at0 ?_ ?_ (Z4 _); (exact rfl); first | exact ints_flen _ | exact items_flen _ | (simp only [Z34]; done) | (simp only [Z34]; omega)))
         · first | omega | (simp only [Z2]; omega)
         · first | omega | (simp only [Z2]; omega)
         · first | omega | (simp only [Z2]; omega)
         )
      | (with_reducible refine heldIntS_ok ?_ _ _ _ ?_ ?_ ?_
         rotate_left 1
         · first | assumption | exact Own.old (by assumption) _ | ((try (simp only [deskV, deskL, Z11, Z12, Z1y, Z1h, Za, Z9, Z7, Zc, Zd, Z6, Z3, Z2, Zf, Zi, Nat.reduceAdd, Zh])); first | exact Own.old (by assumption) _ | exact Own.nil _ | (refine Own.at ?_ ?_ (Z4 _); (exact rfl); first | exact ints_flen _ | exact items_flen _ | (simp only [Z34]; done) | (simp only [Z34]; omega)) | (refine Own.at0 ?_ ?_ (Z4 _); (exact rfl); first | exact ints_flen _ | exact items_flen _ | (simp only [Z34]; done) | (simp only [Z34]; omega)))
         · first | omega | (simp only [Z2]; omega)
         · first | omega | (simp only [Z2]; omega)
         )
      | (with_reducible refine szDeskActS_ok ?_ ?_ _ _ _ ?_ ?_ ?_
         rotate_left 2
         · first | assumption | exact Sl.old (by assumption) _ | ((try (simp only [Z11, Z12, Z1y, Z1h, Za, Z9, Z7, Zc, Zd, Z6, Z3, Z2, Zf, Zi, Nat.reduceAdd, Zh])); first | assumption | exact Sl.old (by assumption) _ | exact DAct.slnil | (refine DAct.slk (Z4 _) ?_; exact rfl) | (refine DAct.sl0 (Z4 _) ?_; exact rfl))
         · grind
         · grind
         )
      | (with_reducible refine toDeskActS_ok ?_ _ _ ?_ ?_
         rotate_left 1
         · first | assumption | exact Sl.old (by assumption) _ | ((try (simp only [Z11, Z12, Z1y, Z1h, Za, Z9, Z7, Zc, Zd, Z6, Z3, Z2, Zf, Zi, Nat.reduceAdd, Zh])); first | assumption | exact Sl.old (by assumption) _ | exact DAct.slnil | (refine DAct.slk (Z4 _) ?_; exact rfl) | (refine DAct.sl0 (Z4 _) ?_; exact rfl))
         · first | omega | (simp only [Z2]; omega)
         )
      | (with_reducible refine eqDeskActS_ok ?_ ?_ _ _ _ ?_ ?_ ?_ ?_
         rotate_left 2
         · first | assumption | exact Sl.old (by assumption) _ | ((try (simp only [Z11, Z12, Z1y, Z1h, Za, Z9, Z7, Zc, Zd, Z6, Z3, Z2, Zf, Zi, Nat.reduceAdd, Zh])); first | assumption | exact Sl.old (by assumption) _ | exact DAct.slnil | (refine DAct.slk (Z4 _) ?_; exact rfl) | (refine DAct.sl0 (Z4 _) ?_; exact rfl))
         · first | assumption | exact Sl.old (by assumption) _ | ((try (simp only [Z11, Z12, Z1y, Z1h, Za, Z9, Z7, Zc, Zd, Z6, Z3, Z2, Zf, Zi, Nat.reduceAdd, Zh])); first | assumption | exact Sl.old (by assumption) _ | exact DAct.slnil | (refine DAct.slk (Z4 _) ?_; exact rfl) | (refine DAct.sl0 (Z4 _) ?_; exact rfl))
         · grind
         · grind
         )
      | (with_reducible refine markDeskActS_ok ?_ ?_ _ _ _ ?_ ?_ ?_
         rotate_left 2
         · first | assumption | exact Own.old (by assumption) _ | ((try (simp only [Z11, Z12, Z1y, Z1h, Za, Z9, Z7, Zc, Zd, Z6, Z3, Z2, Zf, Zi, Nat.reduceAdd, Zh])); first | assumption | exact Own.old (by assumption) _ | exact Own.nil _ | (refine Own.at ?_ ?_ (Z4 _); (exact rfl); first | exact DAct.flen _ | exact DAct.mlen _ _ | (simp only [Z34]; done) | (simp only [Z34]; omega)) | (refine Own.at0 ?_ ?_ (Z4 _); (exact rfl); first | exact DAct.flen _ | exact DAct.mlen _ _ | (simp only [Z34]; done) | (simp only [Z34]; omega)))
         · first | omega | (simp only [Z2]; omega)
         · first | omega | (simp only [Z2]; omega)
         )
      | ((with_reducible refine Z2w (n := 17) ?_); rintro _ _ ⟨rfl, hh⟩; replace hh := hh.symm; subst hh)
      | ((with_reducible refine Z2w (n := 21) ?_); rintro _ _ ⟨rfl, hh⟩; replace hh := hh.symm; subst hh)
      | ((with_reducible refine Z2w (n := 22) ?_); rintro _ _ ⟨rfl, hh⟩; replace hh := hh.symm; subst hh)
      | ((with_reducible refine Z2w (n := 43) ?_); rintro _ _ ⟨rfl, hh⟩; replace hh := hh.symm; subst hh)
      | ((with_reducible refine Z2w (n := 48) ?_); rintro _ _ ⟨rfl, hh⟩; replace hh := hh.symm; subst hh)
      | ((with_reducible refine Z2w (n := 49) ?_); rintro _ _ ⟨rfl, hh⟩; replace hh := hh.symm; subst hh)
      | ((with_reducible refine Z2w (n := 52) ?_); rintro _ _ ⟨rfl, hh⟩; replace hh := hh.symm; subst hh)
      | ((with_reducible refine Z2w (n := 65) ?_); rintro _ _ ⟨rfl, hh⟩; replace hh := hh.symm; subst hh)
      | ((with_reducible refine Z2w (n := 66) ?_); rintro _ _ ⟨rfl, hh⟩; replace hh := hh.symm; subst hh)
      | ((with_reducible refine Z2w (n := 67) ?_); rintro _ _ ⟨rfl, hh⟩; replace hh := hh.symm; subst hh)
      | ((with_reducible refine Z2w (n := 68) ?_); rintro _ _ ⟨rfl, hh⟩; replace hh := hh.symm; subst hh)
      )
    rfl
  by_cases hz2 : szM l.length 1048576 < 0
  · refine Z36 Try.func12 rfl Try.ntmps12 (by simp) (by dsimp only [Try.f12]) ?_
    repeat' (first
      | ((with_reducible refine eq_go ?_); simp only [stp, ev, Zb, Z2e, Z1z, Zk, Zl, reduceIte, Nat.reduceEqDiff, Zj, Zz, Zu, Z16, Z1a, Zm, Zp, Zo, Zd, Zx, Z2b, Z2x, Z1g, Z17, Zq, Zn, Zv, Z2p, Z2f, Z2o, Z2d, Z2g, Z1c, Z1b, Z2i, Z2n, Z2h, Z2j, Z2k, Z2l, Z2m, Z31, Z8, Z5, Z13, Zy, binV_bool_neq, binV_bool_eql, Ty.un4, Ze, Z1, Z0, ldv, stv, vcs, blt, lenV, Z10, Z3, Z2, Zf, Zg, Ze, Z1, Z0, Z14, Zw, Zh, Zr, Z33, Z15, Z7, Zc, Z6, Z3, Z2, Zf, Zi, Nat.reduceAdd, Nat.reduceMul, Nat.reduceLeDiff, Z11, Z12, Z1y, Z1h, Z2c, Z23, Z28, Z27, Z26, Z25, Z24, Z1m, Z1l, Z1k, Z1j, Z1i, Z1w, Z1v, Z1u, Z1t, Z1s, Z32, Z2y, Z2q, Z2r, Z2s, Z20, Z1q, Z1r, Z2z, Z2t, Z21, Z22, splice, Za, Z9, Z1, Z0, Z19, Zt, Zs, Z18, newB, vcs, Z30, Z2v, Z1x, Z29, Z1n, Z2u, Z1o, Z1f, Z1p, Z1d, Z1e, Ty.ld3, Ty.sz3, Ty.zc3, Ty.by3, Ty.ld4, Ty.sz4, Ty.zc4, Ty.by4, Ty.ld24, Ty.sz24, Ty.sl24, Ty.zc24, Ty.by24, Ty.ld56, Ty.sz56, Ty.sl56, Ty.zc56, Ty.by56, Ty.ld58, Ty.sz58, Ty.zc58, Ty.by58, Ty.ld71, Ty.sz71, Ty.sl71, Ty.zc71, Ty.by71, Ty.ld77, Ty.sz77, Ty.zc77, Ty.by77, Ty.ld80, Ty.sz80, Ty.zc80, Ty.by80, Ty.ld85, Ty.sz85, Ty.zc85, Ty.by85, Ty.ld88, Ty.sz88, Ty.sl88, Ty.zc88, Ty.by88, *]; rfl)
      | (with_reducible refine aw_then ?_) | (with_reducible refine aw_skip ?_) | (with_reducible refine aw_ret ?_) | (with_reducible refine aw_exit ?_) | (with_reducible refine aw_block ?_) | (with_reducible refine xr_reg (by decide +kernel) ?_)
      | (with_reducible refine xr_nil ?_) | (with_reducible refine k_norm ?_) | (with_reducible refine k_ret ?_) | (with_reducible refine k_exit ?_) | (with_reducible refine b_norm ?_) | (with_reducible refine b_ret ?_) | (with_reducible refine b_exit ?_) | (with_reducible refine b_past (by decide) ?_)
      | (refine xr_cl (f := ?_) (fs := ?_) (cs := ?_) (args := ?_) (K := ?_) ?_ ?_ ?_ ?_ ?_
         rotate_left 5
         · simp only [ev]; rfl
         first
         | (· with_reducible exact Ty.ok17
            rotate_left 2
            refine Z2a 17 ?_
            rotate_right 2)
         | (· with_reducible exact Ty.ok21
            rotate_left 2
            refine Z2a 21 ?_
            rotate_right 2)
         | (· with_reducible exact Ty.ok22
            rotate_left 2
            refine Z2a 22 ?_
            rotate_right 2)
         | (· with_reducible exact Ty.ok43
            rotate_left 2
            refine Z2a 43 ?_
            rotate_right 2)
         | (· with_reducible exact Ty.ok48
            rotate_left 2
            refine Z2a 48 ?_
            rotate_right 2)
         | (· with_reducible exact Ty.ok49
            rotate_left 2
            refine Z2a 49 ?_
            rotate_right 2)
         | (· with_reducible exact Ty.ok52
            rotate_left 2
            refine Z2a 52 ?_
            rotate_right 2)
         | (· with_reducible exact Ty.ok65
            rotate_left 2
            refine Z2a 65 ?_
            rotate_right 2)
         | (· with_reducible exact Ty.ok66
            rotate_left 2
            refine Z2a 66 ?_
            rotate_right 2)
         | (· with_reducible exact Ty.ok67
            rotate_left 2
            refine Z2a 67 ?_
            rotate_right 2)
         | (· with_reducible exact Ty.ok68
            rotate_left 2
            refine Z2a 68 ?_
            rotate_right 2)
         )
      | (refine xr_gcl (f := ?_) (fs := ?_) (cs := ?_) (args := ?_) (K := ?_) (by exact rfl) ?_ ?_ ?_ ?_ ?_ ?_
         rotate_left 5
         · simp only [ev, Zb, reduceIte, Nat.reduceEqDiff, Z8, Z5, *]
         · simp only [ev]; rfl
         first
         | (· with_reducible exact Ty.ok17
            rotate_left 2
            refine Z2a 17 ?_
            rotate_right 2)
         | (· with_reducible exact Ty.ok21
            rotate_left 2
            refine Z2a 21 ?_
            rotate_right 2)
         | (· with_reducible exact Ty.ok22
            rotate_left 2
            refine Z2a 22 ?_
            rotate_right 2)
         | (· with_reducible exact Ty.ok43
            rotate_left 2
            refine Z2a 43 ?_
            rotate_right 2)
         | (· with_reducible exact Ty.ok48
            rotate_left 2
            refine Z2a 48 ?_
            rotate_right 2)
         | (· with_reducible exact Ty.ok49
            rotate_left 2
            refine Z2a 49 ?_
            rotate_right 2)
         | (· with_reducible exact Ty.ok52
            rotate_left 2
            refine Z2a 52 ?_
            rotate_right 2)
         | (· with_reducible exact Ty.ok65
            rotate_left 2
            refine Z2a 65 ?_
            rotate_right 2)
         | (· with_reducible exact Ty.ok66
            rotate_left 2
            refine Z2a 66 ?_
            rotate_right 2)
         | (· with_reducible exact Ty.ok67
            rotate_left 2
            refine Z2a 67 ?_
            rotate_right 2)
         | (· with_reducible exact Ty.ok68
            rotate_left 2
            refine Z2a 68 ?_
            rotate_right 2)
         )
      | (refine xr_do (v := ?_) (h' := ?_) (by exact rfl) ?_ ?_; rotate_left 2)
      | (refine xr_st (v := ?_) (h' := ?_) (by exact rfl) ?_ ?_; rotate_left 2)
      | (refine xr_gdo (v := ?_) (h' := ?_) (by exact rfl) (by exact rfl) ?_ ?_ ?_
         rotate_left 2
         · simp only [ev, Zb, reduceIte, Nat.reduceEqDiff, Z8, Z5, *])
      | (refine xr_gst (v := ?_) (h' := ?_) (by exact rfl) (by exact rfl) ?_ ?_ ?_
         rotate_left 2
         · simp only [ev, Zb, reduceIte, Nat.reduceEqDiff, Z8, Z5, *])
      | (refine xr_goff (by exact rfl) ?_ ?_
         · simp only [ev, Zb, reduceIte, Nat.reduceEqDiff, Z8, Z5, *])
      | (refine xr_gsoff (by exact rfl) ?_ ?_
         · simp only [ev, Zb, reduceIte, Nat.reduceEqDiff, Z8, Z5, *])
      | (refine xr_gund (by exact rfl) ?_ ?_
         · simp only [ev, Zb, reduceIte, Nat.reduceEqDiff, Z8, Z5, *])
      | (refine xr_gsund (by exact rfl) ?_ ?_
         · simp only [ev, Zb, reduceIte, Nat.reduceEqDiff, Z8, Z5, *])
      | (refine xr_gif (b := ?_) (by exact rfl) ?_ (fun hb => ?_) (fun hb => ?_)
         rotate_left 1
         · simp only [ev, Zb, reduceIte, Nat.reduceEqDiff, Z8, Z5, *]; rfl)
      | (refine aw_ift (by decide) ?_ ?_
         · simp only [ev, Zb, reduceIte, Nat.reduceEqDiff, *])
      | (refine aw_iff (by decide) ?_ ?_
         · simp only [ev, Zb, reduceIte, Nat.reduceEqDiff, *])
      | (refine aw_if (b := ?_) (by decide) ?_ (fun hb => ?_) (fun hb => ?_)
         rotate_left 1
         · simp only [ev, Zb, reduceIte, Nat.reduceEqDiff, *]; rfl)
      | (refine r_ret (vs := ?_) ?_ ?_
         rotate_left 1
         · simp only [resV, ev, Zb, reduceIte, Nat.reduceEqDiff, Zj, *]; rfl)
      | (with_reducible refine toIntS_ok ?_ _ _ ?_ ?_
         rotate_left 1
         · first | assumption | exact Sl.old (by assumption) _ | ((try (simp only [deskV, deskL, Z11, Z12, Z1y, Z1h, Za, Z9, Z7, Zc, Zd, Z6, Z3, Z2, Zf, Zi, Nat.reduceAdd, Zh])); first | exact Sl.old (by assumption) _ | exact sl_nilints | exact sl_nilitems | (refine sl_ints (Z4 _) ?_; exact rfl) | (refine sl_items (Z4 _) ?_; exact rfl) | (refine sl_ints0 (Z4 _) ?_; exact rfl) | (refine sl_items0 (Z4 _) ?_; exact rfl))
         · first | omega | (simp only [Z2]; omega)
         )
      | (with_reducible refine eqIntS_ok ?_ ?_ _ _ _ ?_ ?_ ?_ ?_
         rotate_left 2
         · first | exact sl_zeroi | (first | assumption | exact Sl.old (by assumption) _ | ((try (simp only [deskV, deskL, Z11, Z12, Z1y, Z1h, Za, Z9, Z7, Zc, Zd, Z6, Z3, Z2, Zf, Zi, Nat.reduceAdd, Zh])); first | exact Sl.old (by assumption) _ | exact sl_nilints | exact sl_nilitems | (refine sl_ints (Z4 _) ?_; exact rfl) | (refine sl_items (Z4 _) ?_; exact rfl) | (refine sl_ints0 (Z4 _) ?_; exact rfl) | (refine sl_items0 (Z4 _) ?_; exact rfl)))
         · first | exact sl_zeroi | (first | assumption | exact Sl.old (by assumption) _ | ((try (simp only [deskV, deskL, Z11, Z12, Z1y, Z1h, Za, Z9, Z7, Zc, Zd, Z6, Z3, Z2, Zf, Zi, Nat.reduceAdd, Zh])); first | exact Sl.old (by assumption) _ | exact sl_nilints | exact sl_nilitems | (refine sl_ints (Z4 _) ?_; exact rfl) | (refine sl_items (Z4 _) ?_; exact rfl) | (refine sl_ints0 (Z4 _) ?_; exact rfl) | (refine sl_items0 (Z4 _) ?_; exact rfl)))
         · first | omega | (simp only [Z2]; omega)
         · first | omega | (simp only [Z2]; omega)
         )
      | (with_reducible refine markIntS_ok ?_ ?_ _ _ _ ?_ ?_ ?_
         rotate_left 2
         · first | assumption | exact Own.old (by assumption) _ | ((try (simp only [deskV, deskL, Z11, Z12, Z1y, Z1h, Za, Z9, Z7, Zc, Zd, Z6, Z3, Z2, Zf, Zi, Nat.reduceAdd, Zh])); first | exact Own.old (by assumption) _ | exact Own.nil _ | (refine Own.at ?_ ?_ (Z4 _); (exact rfl); first | exact ints_flen _ | exact items_flen _ | (simp only [Z34]; done) | (simp only [Z34]; omega)) | (refine Own.at0 ?_ ?_ (Z4 _); (exact rfl); first | exact ints_flen _ | exact items_flen _ | (simp only [Z34]; done) | (simp only [Z34]; omega)))
         · first | omega | (simp only [Z2]; omega)
         · first | omega | (simp only [Z2]; omega)
         )
      | (with_reducible refine eqDesk_ok _ _ ?_ ?_ ?_ ?_ _ _ _ _ _ ?_ ?_ ?_ ?_ ?_ ?_ ?_ ?_
         rotate_left 4
         · first | assumption | exact Sl.old (by assumption) _ | ((try (simp only [deskV, deskL, Z11, Z12, Z1y, Z1h, Za, Z9, Z7, Zc, Zd, Z6, Z3, Z2, Zf, Zi, Nat.reduceAdd, Zh])); first | exact Sl.old (by assumption) _ | exact sl_nilints | exact sl_nilitems | (refine sl_ints (Z4 _) ?_; exact rfl) | (refine sl_items (Z4 _) ?_; exact rfl) | (refine sl_ints0 (Z4 _) ?_; exact rfl) | (refine sl_items0 (Z4 _) ?_; exact rfl))
         · first | exact sl_zero | (first | assumption | exact Sl.old (by assumption) _ | ((try (simp only [deskV, deskL, Z11, Z12, Z1y, Z1h, Za, Z9, Z7, Zc, Zd, Z6, Z3, Z2, Zf, Zi, Nat.reduceAdd, Zh])); first | exact Sl.old (by assumption) _ | exact sl_nilints | exact sl_nilitems | (refine sl_ints (Z4 _) ?_; exact rfl) | (refine sl_items (Z4 _) ?_; exact rfl) | (refine sl_ints0 (Z4 _) ?_; exact rfl) | (refine sl_items0 (Z4 _) ?_; exact rfl)))
         · first | assumption | exact Sl.old (by assumption) _ | ((try (simp only [deskV, deskL, Z11, Z12, Z1y, Z1h, Za, Z9, Z7, Zc, Zd, Z6, Z3, Z2, Zf, Zi, Nat.reduceAdd, Zh])); first | exact Sl.old (by assumption) _ | exact sl_nilints | exact sl_nilitems | (refine sl_ints (Z4 _) ?_; exact rfl) | (refine sl_items (Z4 _) ?_; exact rfl) | (refine sl_ints0 (Z4 _) ?_; exact rfl) | (refine sl_items0 (Z4 _) ?_; exact rfl))
         · first | exact sl_zero | (first | assumption | exact Sl.old (by assumption) _ | ((try (simp only [deskV, deskL, Z11, Z12, Z1y, Z1h, Za, Z9, Z7, Zc, Zd, Z6, Z3, Z2, Zf, Zi, Nat.reduceAdd, Zh])); first | exact Sl.old (by assumption) _ | exact sl_nilints | exact sl_nilitems | (refine sl_ints (Z4 _) ?_; exact rfl) | (refine sl_items (Z4 _) ?_; exact rfl) | (refine sl_ints0 (Z4 _) ?_; exact rfl) | (refine sl_items0 (Z4 _) ?_; exact rfl)))
         · first | omega | (simp only [Z2]; omega)
         · first | omega | (simp only [Z2]; omega)
         · first | omega | (simp only [Z2]; omega)
         · first | omega | (simp only [Z2]; omega)
         )
      | (with_reducible refine markDesk_ok ?_ ?_ ?_ ?_ _ _ _ _ _ ?_ ?_ ?_ ?_ ?_ ?_
         rotate_left 4
         · first | assumption | exact Own.old (by assumption) _ | ((try (simp only [deskV, deskL, Z11, Z12, Z1y, Z1h, Za, Z9, Z7, Zc, Zd, Z6, Z3, Z2, Zf, Zi, Nat.reduceAdd, Zh])); first | exact Own.old (by assumption) _ | exact Own.nil _ | (refine Own.at ?_ ?_ (Z4 _); (exact rfl); first | exact ints_flen _ | exact items_flen _ | (simp only [Z34]; done) | (simp only [Z34]; omega)) | (refine Own.at0 ?_ ?_ (Z4 _); (exact rfl); first | exact ints_flen _ | exact items_flen _ | (simp only [Z34]; done) | (simp only [Z34]; omega)))
         · first | assumption | exact Own.old (by assumption) _ | ((try (simp only [deskV, deskL, Z11, Z12, Z1y, Z1h, Za, Z9, Z7, Zc, Zd, Z6, Z3, Z2, Zf, Zi, Nat.reduceAdd, Zh])); first | exact Own.old (by assumption) _ | exact Own.nil _ | (refine Own.at ?_ ?_ (Z4 _); (exact rfl); first | exact ints_flen _ | exact items_flen _ | (simp only [Z34]; done) | (simp only [Z34]; omega)) | (refine Own.at0 ?_ ?_ (Z4 _); (exact rfl); first | exact ints_flen _ | exact items_flen _ | (simp only [Z34]; done) | (simp only [Z34]; omega)))
         · first | exact .inl rfl | (right; simp [bid])
         · first | omega | (simp only [Z2]; omega)
         · first | omega | (simp only [Z2]; omega)
         · first | omega | (simp only [Z2]; omega)
         )
      | (with_reducible refine heldDesk_ok ?_ ?_ _ _ _ _ _ ?_ ?_ ?_ ?_ ?_
         rotate_left 2
         · first | assumption | exact Own.old (by assumption) _ | ((try (simp only [deskV, deskL, Z11, Z12, Z1y, Z1h, Za, Z9, Z7, Zc, Zd, Z6, Z3, Z2, Zf, Zi, Nat.reduceAdd, Zh])); first | exact Own.old (by assumption) _ | exact Own.nil _ | (refine Own.at ?_ ?_ (Z4 _); (exact rfl); first | exact ints_flen _ | exact items_flen _ | (simp only [Z34]; done) | (simp only [Z34]; omega)) | (refine Own.at0 ?_ ?_ (Z4 _); (exact rfl); first | exact ints_flen _ | exact items_flen _ | (simp only [Z34]; done) | (simp only [Z34]; omega)))
         · first | assumption | exact Own.old (by assumption) _ | ((try (simp only [deskV, deskL, Z11, Z12, Z1y, Z1h, Za, Z9, Z7, Zc, Zd, Z6, Z3, Z2, Zf, Zi, Nat.reduceAdd, Zh])); first | exact Own.old (by assumption) _ | exact Own.nil _ | (refine Own.at ?_ ?_ (Z4 _); (exact rfl); first | exact ints_flen _ | exact items_flen _ | (simp only [Z34]; done) | (simp only [Z34]; omega)) | (refine Own.at0 ?_ ?_ (Z4 _); (exact rfl); first | exact ints_flen _ | exact items_flen _ | (simp only [Z34]; done) | (simp only [Z34]; omega)))
         · first | omega | (simp only [Z2]; omega)
         · first | omega | (simp only [Z2]; omega)
         · first | omega | (simp only [Z2]; omega)
         )
      | (with_reducible refine heldIntS_ok ?_ _ _ _ ?_ ?_ ?_
         rotate_left 1
         · first | assumption | exact Own.old (by assumption) _ | ((try (simp only [deskV, deskL, Z11, Z12, Z1y, Z1h, Za, Z9, Z7, Zc, Zd, Z6, Z3, Z2, Zf, Zi, Nat.reduceAdd, Zh])); first | exact Own.old (by assumption) _ | exact Own.nil _ | (refine Own.at ?_ ?_ (Z4 _); (exact rfl); first | exact ints_flen _ | exact items_flen _ | (simp only [Z34]; done) | (simp only [Z34]; omega)) | (refine Own.at0 ?_ ?_ (Z4 _); (exact rfl); first | exact ints_flen _ | exact items_flen _ | (simp only [Z34]; done) | (simp only [Z34]; omega)))
         · first | omega | (simp only [Z2]; omega)
         · first | omega | (simp only [Z2]; omega)
         )
      | (with_reducible refine szDeskActS_ok ?_ ?_ _ _ _ ?_ ?_ ?_
         rotate_left 2
         · first | assumption | exact Sl.old (by assumption) _ | ((try (simp only [Z11, Z12, Z1y, Z1h, Za, Z9, Z7, Zc, Zd, Z6, Z3, Z2, Zf, Zi, Nat.reduceAdd, Zh])); first | assumption | exact Sl.old (by assumption) _ | exact DAct.slnil | (refine DAct.slk (Z4 _) ?_; exact rfl) | (refine DAct.sl0 (Z4 _) ?_; exact rfl))
         · grind
         · grind
         )
      | (with_reducible refine toDeskActS_ok ?_ _ _ ?_ ?_
         rotate_left 1
         · first | assumption | exact Sl.old (by assumption) _ | ((try (simp only [Z11, Z12, Z1y, Z1h, Za, Z9, Z7, Zc, Zd, Z6, Z3, Z2, Zf, Zi, Nat.reduceAdd, Zh])); first | assumption | exact Sl.old (by assumption) _ | exact DAct.slnil | (refine DAct.slk (Z4 _) ?_; exact rfl) | (refine DAct.sl0 (Z4 _) ?_; exact rfl))
         · first | omega | (simp only [Z2]; omega)
         )
      | (with_reducible refine eqDeskActS_ok ?_ ?_ _ _ _ ?_ ?_ ?_ ?_
         rotate_left 2
         · first | assumption | exact Sl.old (by assumption) _ | ((try (simp only [Z11, Z12, Z1y, Z1h, Za, Z9, Z7, Zc, Zd, Z6, Z3, Z2, Zf, Zi, Nat.reduceAdd, Zh])); first | assumption | exact Sl.old (by assumption) _ | exact DAct.slnil | (refine DAct.slk (Z4 _) ?_; exact rfl) | (refine DAct.sl0 (Z4 _) ?_; exact rfl))
         · first | assumption | exact Sl.old (by assumption) _ | ((try (simp only [Z11, Z12, Z1y, Z1h, Za, Z9, Z7, Zc, Zd, Z6, Z3, Z2, Zf, Zi, Nat.reduceAdd, Zh])); first | assumption | exact Sl.old (by assumption) _ | exact DAct.slnil | (refine DAct.slk (Z4 _) ?_; exact rfl) | (refine DAct.sl0 (Z4 _) ?_; exact rfl))
         · grind
         · grind
         )
      | (with_reducible refine markDeskActS_ok ?_ ?_ _ _ _ ?_ ?_ ?_
         rotate_left 2
         · first | assumption | exact Own.old (by assumption) _ | ((try (simp only [Z11, Z12, Z1y, Z1h, Za, Z9, Z7, Zc, Zd, Z6, Z3, Z2, Zf, Zi, Nat.reduceAdd, Zh])); first | assumption | exact Own.old (by assumption) _ | exact Own.nil _ | (refine Own.at ?_ ?_ (Z4 _); (exact rfl); first | exact DAct.flen _ | exact DAct.mlen _ _ | (simp only [Z34]; done) | (simp only [Z34]; omega)) | (refine Own.at0 ?_ ?_ (Z4 _); (exact rfl); first | exact DAct.flen _ | exact DAct.mlen _ _ | (simp only [Z34]; done) | (simp only [Z34]; omega)))
         · first | omega | (simp only [Z2]; omega)
         · first | omega | (simp only [Z2]; omega)
         )
      | ((with_reducible refine Z2w (n := 17) ?_); rintro _ _ ⟨rfl, hh⟩; replace hh := hh.symm; subst hh)
      | ((with_reducible refine Z2w (n := 21) ?_); rintro _ _ ⟨rfl, hh⟩; replace hh := hh.symm; subst hh)
      | ((with_reducible refine Z2w (n := 22) ?_); rintro _ _ ⟨rfl, hh⟩; replace hh := hh.symm; subst hh)
      | ((with_reducible refine Z2w (n := 43) ?_); rintro _ _ ⟨rfl, hh⟩; replace hh := hh.symm; subst hh)
      | ((with_reducible refine Z2w (n := 48) ?_); rintro _ _ ⟨rfl, hh⟩; replace hh := hh.symm; subst hh)
      | ((with_reducible refine Z2w (n := 49) ?_); rintro _ _ ⟨rfl, hh⟩; replace hh := hh.symm; subst hh)
      | ((with_reducible refine Z2w (n := 52) ?_); rintro _ _ ⟨rfl, hh⟩; replace hh := hh.symm; subst hh)
      | ((with_reducible refine Z2w (n := 65) ?_); rintro _ _ ⟨rfl, hh⟩; replace hh := hh.symm; subst hh)
      | ((with_reducible refine Z2w (n := 66) ?_); rintro _ _ ⟨rfl, hh⟩; replace hh := hh.symm; subst hh)
      | ((with_reducible refine Z2w (n := 67) ?_); rintro _ _ ⟨rfl, hh⟩; replace hh := hh.symm; subst hh)
      | ((with_reducible refine Z2w (n := 68) ?_); rintro _ _ ⟨rfl, hh⟩; replace hh := hh.symm; subst hh)
      )
    all_goals first | rfl | (exfalso; simp at hb; omega)
  have hl3 : people.length ≤ 1048576 := by omega
  have hl4 : l.length ≤ 1048576 := by unfold szM at hz2; split at hz2 <;> omega
  have hz1' : decide ((1048576 : Int) < people.length) = false := decide_eq_false hz1
  have hz2' : decide (szM l.length 1048576 < 0) = false := decide_eq_false hz2
  clear hz1 hz2 hc1 hc2
  rcases Bool.eq_false_or_eq_true (peopleOk people && decide ((l.length : Int) ≤ 60)) with hok | hok
  · have hpk : peopleOk people = true := by simp only [Bool.and_eq_true] at hok; exact hok.1
    have h60 : l.length ≤ 60 := by simp only [Bool.and_eq_true, decide_eq_true_eq] at hok; omega
    obtain ⟨hgk, hlk⟩ := playA_inv people ((deskOk_nil people).trans hpk) l l.length (Z4 _)
    rw [List.take_length] at hgk hlk
    by_cases hne : l = []
    · have ci : ∀ (ap : Addr) (c : Nat) (vl : Value) (h : Heap), Sl h (.slice (some ap) people.length c) 1 (ints people) → Sl h vl 8 (l.map DAct.cells) → people.length ≤ 1048576 → l.length ≤ 1048576 →
          ACalls Try.prog 0 56 #[.slice (some ap) people.length c, vl] h fun v h' => v = .tuple #[.agg #[.int .i64 0, .slice (some ⟨h.length, 0, some 0⟩) people.length people.length, .slice none 0 0], .slice (some ⟨h.length + 1, 0, some 0⟩) 0 0, .bool true] ∧
            h' = h ++ [⟨2, 1, (ints people).flatten⟩, ⟨2, 1, []⟩] := by
        subst hne
        exact fun ap c vl h hp hs hl hll => implPlay_g (l := []) (items := []) (codes := []) rfl rfl hok ap c vl h hp hs hl hll
      have cp : ∀ (ap : Addr) (c : Nat) (vl : Value) (h : Heap), Sl h (.slice (some ap) people.length c) 1 (ints people) → Sl h vl 8 (l.map DAct.cells) → people.length ≤ 1048576 →
          ACalls Try.prog 0 57 #[.slice (some ap) people.length c, vl] h fun v h' => v = .tuple #[.agg #[.int .i64 0, .slice (some ⟨h.length, 0, some 0⟩) people.length people.length, .slice none 0 0], .slice none 0 0, .bool true] ∧ h' = h ++ [⟨2, 1, (ints people).flatten⟩] := by
        subst hne
        exact fun ap c vl h hp hs hl => specPlay_0 hok ap c vl h hp hs hl
      clear hgk hlk hok hpk hne
      refine Z36 Try.func12 rfl Try.ntmps12 (by simp) (by dsimp only [Try.f12]) ?_
      repeat' (first
        | ((with_reducible refine eq_go ?_); simp only [stp, ev, Zb, Z2e, Z1z, Zk, Zl, reduceIte, Nat.reduceEqDiff, Zj, Zz, Zu, Z16, Z1a, Zm, Zp, Zo, Zd, Zx, Z2b, Z2x, Z1g, Z17, Zq, Zn, Zv, Z2p, Z2f, Z2o, Z2d, Z2g, Z1c, Z1b, Z2i, Z2n, Z2h, Z2j, Z2k, Z2l, Z2m, Z31, Z8, Z5, Z13, Zy, binV_bool_neq, binV_bool_eql, Ty.un4, Ze, Z1, Z0, ldv, stv, vcs, blt, lenV, Z10, Z3, Z2, Zf, Zg, Ze, Z1, Z0, Z14, Zw, Zh, Zr, Z33, Z15, Z7, Zc, Z6, Z3, Z2, Zf, Zi, Nat.reduceAdd, Nat.reduceMul, Nat.reduceLeDiff, Z11, Z12, Z1y, Z1h, Z2c, Z23, Z28, Z27, Z26, Z25, Z24, Z1m, Z1l, Z1k, Z1j, Z1i, Z1w, Z1v, Z1u, Z1t, Z1s, Z32, Z2y, Z2q, Z2r, Z2s, Z20, Z1q, Z1r, Z2z, Z2t, Z21, Z22, splice, Za, Z9, Z1, Z0, Z19, Zt, Zs, Z18, newB, vcs, Z30, Z2v, Z1x, Z29, Z1n, Z2u, Z1o, Z1f, Z1p, Z1d, Z1e, Ty.ld3, Ty.sz3, Ty.zc3, Ty.by3, Ty.ld4, Ty.sz4, Ty.zc4, Ty.by4, Ty.ld24, Ty.sz24, Ty.sl24, Ty.zc24, Ty.by24, Ty.ld56, Ty.sz56, Ty.sl56, Ty.zc56, Ty.by56, Ty.ld58, Ty.sz58, Ty.zc58, Ty.by58, Ty.ld71, Ty.sz71, Ty.sl71, Ty.zc71, Ty.by71, Ty.ld77, Ty.sz77, Ty.zc77, Ty.by77, Ty.ld80, Ty.sz80, Ty.zc80, Ty.by80, Ty.ld85, Ty.sz85, Ty.zc85, Ty.by85, Ty.ld88, Ty.sz88, Ty.sl88, Ty.zc88, Ty.by88, *]; rfl)
        | (with_reducible refine aw_then ?_) | (with_reducible refine aw_skip ?_) | (with_reducible refine aw_ret ?_) | (with_reducible refine aw_exit ?_) | (with_reducible refine aw_block ?_) | (with_reducible refine xr_reg (by decide +kernel) ?_)
        | (with_reducible refine xr_nil ?_) | (with_reducible refine k_norm ?_) | (with_reducible refine k_ret ?_) | (with_reducible refine k_exit ?_) | (with_reducible refine b_norm ?_) | (with_reducible refine b_ret ?_) | (with_reducible refine b_exit ?_) | (with_reducible refine b_past (by decide) ?_)
        | (refine xr_cl (f := ?_) (fs := ?_) (cs := ?_) (args := ?_) (K := ?_) ?_ ?_ ?_ ?_ ?_
           rotate_left 5
           · simp only [ev]; rfl
           first
           | (· with_reducible exact Ty.ok17
              rotate_left 2
              refine Z2a 17 ?_
              rotate_right 2)
           | (· with_reducible exact Ty.ok21
              rotate_left 2
              refine Z2a 21 ?_
              rotate_right 2)
           | (· with_reducible exact Ty.ok22
              rotate_left 2
              refine Z2a 22 ?_
              rotate_right 2)
           | (· with_reducible exact Ty.ok43
              rotate_left 2
              refine Z2a 43 ?_
              rotate_right 2)
           | (· with_reducible exact Ty.ok48
              rotate_left 2
              refine Z2a 48 ?_
              rotate_right 2)
           | (· with_reducible exact Ty.ok49
              rotate_left 2
              refine Z2a 49 ?_
              rotate_right 2)
           | (· with_reducible exact Ty.ok52
              rotate_left 2
              refine Z2a 52 ?_
              rotate_right 2)
           | (· with_reducible exact Ty.ok56
              rotate_left 2
              refine Z2a 56 ?_
              rotate_right 2)
           | (· with_reducible exact Ty.ok57
              rotate_left 2
              refine Z2a 57 ?_
              rotate_right 2)
           | (· with_reducible exact Ty.ok65
              rotate_left 2
              refine Z2a 65 ?_
              rotate_right 2)
           | (· with_reducible exact Ty.ok66
              rotate_left 2
              refine Z2a 66 ?_
              rotate_right 2)
           | (· with_reducible exact Ty.ok67
              rotate_left 2
              refine Z2a 67 ?_
              rotate_right 2)
           | (· with_reducible exact Ty.ok68
              rotate_left 2
              refine Z2a 68 ?_
              rotate_right 2)
           )
        | (refine xr_gcl (f := ?_) (fs := ?_) (cs := ?_) (args := ?_) (K := ?_) (by exact rfl) ?_ ?_ ?_ ?_ ?_ ?_
           rotate_left 5
           · simp only [ev, Zb, reduceIte, Nat.reduceEqDiff, Z8, Z5, *]
           · simp only [ev]; rfl
           first
           | (· with_reducible exact Ty.ok17
              rotate_left 2
              refine Z2a 17 ?_
              rotate_right 2)
           | (· with_reducible exact Ty.ok21
              rotate_left 2
              refine Z2a 21 ?_
              rotate_right 2)
           | (· with_reducible exact Ty.ok22
              rotate_left 2
              refine Z2a 22 ?_
              rotate_right 2)
           | (· with_reducible exact Ty.ok43
              rotate_left 2
              refine Z2a 43 ?_
              rotate_right 2)
           | (· with_reducible exact Ty.ok48
              rotate_left 2
              refine Z2a 48 ?_
              rotate_right 2)
           | (· with_reducible exact Ty.ok49
              rotate_left 2
              refine Z2a 49 ?_
              rotate_right 2)
           | (· with_reducible exact Ty.ok52
              rotate_left 2
              refine Z2a 52 ?_
              rotate_right 2)
           | (· with_reducible exact Ty.ok56
              rotate_left 2
              refine Z2a 56 ?_
              rotate_right 2)
           | (· with_reducible exact Ty.ok57
              rotate_left 2
              refine Z2a 57 ?_
              rotate_right 2)
           | (· with_reducible exact Ty.ok65
              rotate_left 2
              refine Z2a 65 ?_
              rotate_right 2)
           | (· with_reducible exact Ty.ok66
              rotate_left 2
              refine Z2a 66 ?_
              rotate_right 2)
           | (· with_reducible exact Ty.ok67
              rotate_left 2
              refine Z2a 67 ?_
              rotate_right 2)
           | (· with_reducible exact Ty.ok68
              rotate_left 2
              refine Z2a 68 ?_
              rotate_right 2)
           )
        | (refine xr_do (v := ?_) (h' := ?_) (by exact rfl) ?_ ?_; rotate_left 2)
        | (refine xr_st (v := ?_) (h' := ?_) (by exact rfl) ?_ ?_; rotate_left 2)
        | (refine xr_gdo (v := ?_) (h' := ?_) (by exact rfl) (by exact rfl) ?_ ?_ ?_
           rotate_left 2
           · simp only [ev, Zb, reduceIte, Nat.reduceEqDiff, Z8, Z5, *])
        | (refine xr_gst (v := ?_) (h' := ?_) (by exact rfl) (by exact rfl) ?_ ?_ ?_
           rotate_left 2
           · simp only [ev, Zb, reduceIte, Nat.reduceEqDiff, Z8, Z5, *])
        | (refine xr_goff (by exact rfl) ?_ ?_
           · simp only [ev, Zb, reduceIte, Nat.reduceEqDiff, Z8, Z5, *])
        | (refine xr_gsoff (by exact rfl) ?_ ?_
           · simp only [ev, Zb, reduceIte, Nat.reduceEqDiff, Z8, Z5, *])
        | (refine xr_gund (by exact rfl) ?_ ?_
           · simp only [ev, Zb, reduceIte, Nat.reduceEqDiff, Z8, Z5, *])
        | (refine xr_gsund (by exact rfl) ?_ ?_
           · simp only [ev, Zb, reduceIte, Nat.reduceEqDiff, Z8, Z5, *])
        | (refine xr_gif (b := ?_) (by exact rfl) ?_ (fun hb => ?_) (fun hb => ?_)
           rotate_left 1
           · simp only [ev, Zb, reduceIte, Nat.reduceEqDiff, Z8, Z5, *]; rfl)
        | (refine aw_ift (by decide) ?_ ?_
           · simp only [ev, Zb, reduceIte, Nat.reduceEqDiff, *])
        | (refine aw_iff (by decide) ?_ ?_
           · simp only [ev, Zb, reduceIte, Nat.reduceEqDiff, *])
        | (refine aw_if (b := ?_) (by decide) ?_ (fun hb => ?_) (fun hb => ?_)
           rotate_left 1
           · simp only [ev, Zb, reduceIte, Nat.reduceEqDiff, *]; rfl)
        | (refine r_ret (vs := ?_) ?_ ?_
           rotate_left 1
           · simp only [resV, ev, Zb, reduceIte, Nat.reduceEqDiff, Zj, *]; rfl)
        | (with_reducible refine toIntS_ok ?_ _ _ ?_ ?_
           rotate_left 1
           · first | assumption | exact Sl.old (by assumption) _ | ((try (simp only [deskV, deskL, Z11, Z12, Z1y, Z1h, Za, Z9, Z7, Zc, Zd, Z6, Z3, Z2, Zf, Zi, Nat.reduceAdd, Zh])); first | exact Sl.old (by assumption) _ | exact sl_nilints | exact sl_nilitems | (refine sl_ints (Z4 _) ?_; exact rfl) | (refine sl_items (Z4 _) ?_; exact rfl) | (refine sl_ints0 (Z4 _) ?_; exact rfl) | (refine sl_items0 (Z4 _) ?_; exact rfl))
           · first | omega | (simp only [Z2]; omega)
           )
        | (with_reducible refine eqIntS_ok ?_ ?_ _ _ _ ?_ ?_ ?_ ?_
           rotate_left 2
           · first | exact sl_zeroi | (first | assumption | exact Sl.old (by assumption) _ | ((try (simp only [deskV, deskL, Z11, Z12, Z1y, Z1h, Za, Z9, Z7, Zc, Zd, Z6, Z3, Z2, Zf, Zi, Nat.reduceAdd, Zh])); first | exact Sl.old (by assumption) _ | exact sl_nilints | exact sl_nilitems | (refine sl_ints (Z4 _) ?_; exact rfl) | (refine sl_items (Z4 _) ?_; exact rfl) | (refine sl_ints0 (Z4 _) ?_; exact rfl) | (refine sl_items0 (Z4 _) ?_; exact rfl)))
           · first | exact sl_zeroi | (first | assumption | exact Sl.old (by assumption) _ | ((try (simp only [deskV, deskL, Z11, Z12, Z1y, Z1h, Za, Z9, Z7, Zc, Zd, Z6, Z3, Z2, Zf, Zi, Nat.reduceAdd, Zh])); first | exact Sl.old (by assumption) _ | exact sl_nilints | exact sl_nilitems | (refine sl_ints (Z4 _) ?_; exact rfl) | (refine sl_items (Z4 _) ?_; exact rfl) | (refine sl_ints0 (Z4 _) ?_; exact rfl) | (refine sl_items0 (Z4 _) ?_; exact rfl)))
           · first | omega | (simp only [Z2]; omega)
           · first | omega | (simp only [Z2]; omega)
           )
        | (with_reducible refine markIntS_ok ?_ ?_ _ _ _ ?_ ?_ ?_
           rotate_left 2
           · first | (first | assumption | exact Own.old (by assumption) _ | ((try (simp only [deskV, deskL, Z11, Z12, Z1y, Z1h, Za, Z9, Z7, Zc, Zd, Z6, Z3, Z2, Zf, Zi, Nat.reduceAdd, Zh])); first | exact Own.old (by assumption) _ | exact Own.nil _ | (refine Own.at ?_ ?_ (Z4 _); (exact rfl); first | exact ints_flen _ | exact items_flen _ | (simp only [Z34]; done) | (simp only [Z34]; omega)) | (refine Own.at0 ?_ ?_ (Z4 _); (exact rfl); first | exact ints_flen _ | exact items_flen _ | (simp only [Z34]; done) | (simp only [Z34]; omega)))) | ((try (simp only [Z1y, Z1h, Za, Z9, Z11, Z12, Z7, Zc, Zd])); refine Own.at ?_ ?_ (Z4 _); (exact rfl); rfl)
           · first | omega | (simp only [Z2]; omega)
           · first | omega | (simp only [Z2]; omega)
           )
        | (with_reducible refine eqDesk_ok _ _ ?_ ?_ ?_ ?_ _ _ _ _ _ ?_ ?_ ?_ ?_ ?_ ?_ ?_ ?_
           rotate_left 4
           · first | assumption | exact Sl.old (by assumption) _ | ((try (simp only [deskV, deskL, Z11, Z12, Z1y, Z1h, Za, Z9, Z7, Zc, Zd, Z6, Z3, Z2, Zf, Zi, Nat.reduceAdd, Zh])); first | exact Sl.old (by assumption) _ | exact sl_nilints | exact sl_nilitems | (refine sl_ints (Z4 _) ?_; exact rfl) | (refine sl_items (Z4 _) ?_; exact rfl) | (refine sl_ints0 (Z4 _) ?_; exact rfl) | (refine sl_items0 (Z4 _) ?_; exact rfl))
           · first | exact sl_zero | (first | assumption | exact Sl.old (by assumption) _ | ((try (simp only [deskV, deskL, Z11, Z12, Z1y, Z1h, Za, Z9, Z7, Zc, Zd, Z6, Z3, Z2, Zf, Zi, Nat.reduceAdd, Zh])); first | exact Sl.old (by assumption) _ | exact sl_nilints | exact sl_nilitems | (refine sl_ints (Z4 _) ?_; exact rfl) | (refine sl_items (Z4 _) ?_; exact rfl) | (refine sl_ints0 (Z4 _) ?_; exact rfl) | (refine sl_items0 (Z4 _) ?_; exact rfl)))
           · first | assumption | exact Sl.old (by assumption) _ | ((try (simp only [deskV, deskL, Z11, Z12, Z1y, Z1h, Za, Z9, Z7, Zc, Zd, Z6, Z3, Z2, Zf, Zi, Nat.reduceAdd, Zh])); first | exact Sl.old (by assumption) _ | exact sl_nilints | exact sl_nilitems | (refine sl_ints (Z4 _) ?_; exact rfl) | (refine sl_items (Z4 _) ?_; exact rfl) | (refine sl_ints0 (Z4 _) ?_; exact rfl) | (refine sl_items0 (Z4 _) ?_; exact rfl))
           · first | exact sl_zero | (first | assumption | exact Sl.old (by assumption) _ | ((try (simp only [deskV, deskL, Z11, Z12, Z1y, Z1h, Za, Z9, Z7, Zc, Zd, Z6, Z3, Z2, Zf, Zi, Nat.reduceAdd, Zh])); first | exact Sl.old (by assumption) _ | exact sl_nilints | exact sl_nilitems | (refine sl_ints (Z4 _) ?_; exact rfl) | (refine sl_items (Z4 _) ?_; exact rfl) | (refine sl_ints0 (Z4 _) ?_; exact rfl) | (refine sl_items0 (Z4 _) ?_; exact rfl)))
           · first | omega | (simp only [Z2]; omega)
           · first | omega | (simp only [Z2]; omega)
           · first | omega | (simp only [Z2]; omega)
           · first | omega | (simp only [Z2]; omega)
           )
        | (with_reducible refine markDesk_ok ?_ ?_ ?_ ?_ _ _ _ _ _ ?_ ?_ ?_ ?_ ?_ ?_
           rotate_left 4
           · first | assumption | exact Own.old (by assumption) _ | ((try (simp only [deskV, deskL, Z11, Z12, Z1y, Z1h, Za, Z9, Z7, Zc, Zd, Z6, Z3, Z2, Zf, Zi, Nat.reduceAdd, Zh])); first | exact Own.old (by assumption) _ | exact Own.nil _ | (refine Own.at ?_ ?_ (Z4 _); (exact rfl); first | exact ints_flen _ | exact items_flen _ | (simp only [Z34]; done) | (simp only [Z34]; omega)) | (refine Own.at0 ?_ ?_ (Z4 _); (exact rfl); first | exact ints_flen _ | exact items_flen _ | (simp only [Z34]; done) | (simp only [Z34]; omega)))
           · first | assumption | exact Own.old (by assumption) _ | ((try (simp only [deskV, deskL, Z11, Z12, Z1y, Z1h, Za, Z9, Z7, Zc, Zd, Z6, Z3, Z2, Zf, Zi, Nat.reduceAdd, Zh])); first | exact Own.old (by assumption) _ | exact Own.nil _ | (refine Own.at ?_ ?_ (Z4 _); (exact rfl); first | exact ints_flen _ | exact items_flen _ | (simp only [Z34]; done) | (simp only [Z34]; omega)) | (refine Own.at0 ?_ ?_ (Z4 _); (exact rfl); first | exact ints_flen _ | exact items_flen _ | (simp only [Z34]; done) | (simp only [Z34]; omega)))
           · first | exact .inl rfl | (right; simp [bid])
           · first | omega | (simp only [Z2]; omega)
           · first | omega | (simp only [Z2]; omega)
           · first | omega | (simp only [Z2]; omega)
           )
        | (with_reducible refine heldDesk_ok ?_ ?_ _ _ _ _ _ ?_ ?_ ?_ ?_ ?_
           rotate_left 2
           · first | assumption | exact Own.old (by assumption) _ | ((try (simp only [deskV, deskL, Z11, Z12, Z1y, Z1h, Za, Z9, Z7, Zc, Zd, Z6, Z3, Z2, Zf, Zi, Nat.reduceAdd, Zh])); first | exact Own.old (by assumption) _ | exact Own.nil _ | (refine Own.at ?_ ?_ (Z4 _); (exact rfl); first | exact ints_flen _ | exact items_flen _ | (simp only [Z34]; done) | (simp only [Z34]; omega)) | (refine Own.at0 ?_ ?_ (Z4 _); (exact rfl); first | exact ints_flen _ | exact items_flen _ | (simp only [Z34]; done) | (simp only [Z34]; omega)))
           · first | assumption | exact Own.old (by assumption) _ | ((try (simp only [deskV, deskL, Z11, Z12, Z1y, Z1h, Za, Z9, Z7, Zc, Zd, Z6, Z3, Z2, Zf, Zi, Nat.reduceAdd, Zh])); first | exact Own.old (by assumption) _ | exact Own.nil _ | (refine Own.at ?_ ?_ (Z4 _); (exact rfl); first | exact ints_flen _ | exact items_flen _ | (simp only [Z34]; done) | (simp only [Z34]; omega)) | (refine Own.at0 ?_ ?_ (Z4 _); (exact rfl); first | exact ints_flen _ | exact items_flen _ | (simp only [Z34]; done) | (simp only [Z34]; omega)))
           · first | omega | (simp only [Z2]; omega)
           · first | omega | (simp only [Z2]; omega)
           · first | omega | (simp only [Z2]; omega)
           )
        | (with_reducible refine heldIntS_ok ?_ _ _ _ ?_ ?_ ?_
           rotate_left 1
           · first | assumption | exact Own.old (by assumption) _ | ((try (simp only [deskV, deskL, Z11, Z12, Z1y, Z1h, Za, Z9, Z7, Zc, Zd, Z6, Z3, Z2, Zf, Zi, Nat.reduceAdd, Zh])); first | exact Own.old (by assumption) _ | exact Own.nil _ | (refine Own.at ?_ ?_ (Z4 _); (exact rfl); first | exact ints_flen _ | exact items_flen _ | (simp only [Z34]; done) | (simp only [Z34]; omega)) | (refine Own.at0 ?_ ?_ (Z4 _); (exact rfl); first | exact ints_flen _ | exact items_flen _ | (simp only [Z34]; done) | (simp only [Z34]; omega)))
           · first | omega | (simp only [Z2]; omega)
           · first | omega | (simp only [Z2]; omega)
           )
        | (with_reducible refine ci _ _ _ _ ?_ ?_ ?_ ?_
           · first | assumption | exact Sl.old (by assumption) _ | ((try (simp only [deskV, deskL, Z11, Z12, Z1y, Z1h, Za, Z9, Z7, Zc, Zd, Z6, Z3, Z2, Zf, Zi, Nat.reduceAdd, Zh])); first | exact Sl.old (by assumption) _ | exact sl_nilints | exact sl_nilitems | (refine sl_ints (Z4 _) ?_; exact rfl) | (refine sl_items (Z4 _) ?_; exact rfl) | (refine sl_ints0 (Z4 _) ?_; exact rfl) | (refine sl_items0 (Z4 _) ?_; exact rfl))
           · first | assumption | exact Sl.old (by assumption) _ | ((try (simp only [Z11, Z12, Z1y, Z1h, Za, Z9, Z7, Zc, Zd, Z6, Z3, Z2, Zf, Zi, Nat.reduceAdd, Zh])); first | assumption | exact Sl.old (by assumption) _ | exact DAct.slnil | (refine DAct.slk (Z4 _) ?_; exact rfl) | (refine DAct.sl0 (Z4 _) ?_; exact rfl))
           · first | omega | (simp only [Z2]; omega)
           · first | omega | (simp only [Z2]; omega)
           )
        | (with_reducible refine cp _ _ _ _ ?_ ?_ ?_
           · first | assumption | exact Sl.old (by assumption) _ | ((try (simp only [deskV, deskL, Z11, Z12, Z1y, Z1h, Za, Z9, Z7, Zc, Zd, Z6, Z3, Z2, Zf, Zi, Nat.reduceAdd, Zh])); first | exact Sl.old (by assumption) _ | exact sl_nilints | exact sl_nilitems | (refine sl_ints (Z4 _) ?_; exact rfl) | (refine sl_items (Z4 _) ?_; exact rfl) | (refine sl_ints0 (Z4 _) ?_; exact rfl) | (refine sl_items0 (Z4 _) ?_; exact rfl))
           · first | assumption | exact Sl.old (by assumption) _ | ((try (simp only [Z11, Z12, Z1y, Z1h, Za, Z9, Z7, Zc, Zd, Z6, Z3, Z2, Zf, Zi, Nat.reduceAdd, Zh])); first | assumption | exact Sl.old (by assumption) _ | exact DAct.slnil | (refine DAct.slk (Z4 _) ?_; exact rfl) | (refine DAct.sl0 (Z4 _) ?_; exact rfl))
           · first | omega | (simp only [Z2]; omega)
           )
        | (with_reducible refine szDeskActS_ok ?_ ?_ _ _ _ ?_ ?_ ?_
           rotate_left 2
           · first | assumption | exact Sl.old (by assumption) _ | ((try (simp only [Z11, Z12, Z1y, Z1h, Za, Z9, Z7, Zc, Zd, Z6, Z3, Z2, Zf, Zi, Nat.reduceAdd, Zh])); first | assumption | exact Sl.old (by assumption) _ | exact DAct.slnil | (refine DAct.slk (Z4 _) ?_; exact rfl) | (refine DAct.sl0 (Z4 _) ?_; exact rfl))
           · grind
           · grind
           )
        | (with_reducible refine toDeskActS_ok ?_ _ _ ?_ ?_
           rotate_left 1
           · first | assumption | exact Sl.old (by assumption) _ | ((try (simp only [Z11, Z12, Z1y, Z1h, Za, Z9, Z7, Zc, Zd, Z6, Z3, Z2, Zf, Zi, Nat.reduceAdd, Zh])); first | assumption | exact Sl.old (by assumption) _ | exact DAct.slnil | (refine DAct.slk (Z4 _) ?_; exact rfl) | (refine DAct.sl0 (Z4 _) ?_; exact rfl))
           · first | omega | (simp only [Z2]; omega)
           )
        | (with_reducible refine eqDeskActS_ok ?_ ?_ _ _ _ ?_ ?_ ?_ ?_
           rotate_left 2
           · first | assumption | exact Sl.old (by assumption) _ | ((try (simp only [Z11, Z12, Z1y, Z1h, Za, Z9, Z7, Zc, Zd, Z6, Z3, Z2, Zf, Zi, Nat.reduceAdd, Zh])); first | assumption | exact Sl.old (by assumption) _ | exact DAct.slnil | (refine DAct.slk (Z4 _) ?_; exact rfl) | (refine DAct.sl0 (Z4 _) ?_; exact rfl))
           · first | assumption | exact Sl.old (by assumption) _ | ((try (simp only [Z11, Z12, Z1y, Z1h, Za, Z9, Z7, Zc, Zd, Z6, Z3, Z2, Zf, Zi, Nat.reduceAdd, Zh])); first | assumption | exact Sl.old (by assumption) _ | exact DAct.slnil | (refine DAct.slk (Z4 _) ?_; exact rfl) | (refine DAct.sl0 (Z4 _) ?_; exact rfl))
           · grind
           · grind
           )
        | (with_reducible refine markDeskActS_ok ?_ ?_ _ _ _ ?_ ?_ ?_
           rotate_left 2
           · first | assumption | exact Own.old (by assumption) _ | ((try (simp only [Z11, Z12, Z1y, Z1h, Za, Z9, Z7, Zc, Zd, Z6, Z3, Z2, Zf, Zi, Nat.reduceAdd, Zh])); first | assumption | exact Own.old (by assumption) _ | exact Own.nil _ | (refine Own.at ?_ ?_ (Z4 _); (exact rfl); first | exact DAct.flen _ | exact DAct.mlen _ _ | (simp only [Z34]; done) | (simp only [Z34]; omega)) | (refine Own.at0 ?_ ?_ (Z4 _); (exact rfl); first | exact DAct.flen _ | exact DAct.mlen _ _ | (simp only [Z34]; done) | (simp only [Z34]; omega)))
           · first | omega | (simp only [Z2]; omega)
           · first | omega | (simp only [Z2]; omega)
           )
        | ((with_reducible refine Z2w (n := 17) ?_); rintro _ _ ⟨rfl, hh⟩; replace hh := hh.symm; subst hh)
        | ((with_reducible refine Z2w (n := 21) ?_); rintro _ _ ⟨rfl, hh⟩; replace hh := hh.symm; subst hh)
        | ((with_reducible refine Z2w (n := 22) ?_); rintro _ _ ⟨rfl, hh⟩; replace hh := hh.symm; subst hh)
        | ((with_reducible refine Z2w (n := 43) ?_); rintro _ _ ⟨rfl, hh⟩; replace hh := hh.symm; subst hh)
        | ((with_reducible refine Z2w (n := 48) ?_); rintro _ _ ⟨rfl, hh⟩; replace hh := hh.symm; subst hh)
        | ((with_reducible refine Z2w (n := 49) ?_); rintro _ _ ⟨rfl, hh⟩; replace hh := hh.symm; subst hh)
        | ((with_reducible refine Z2w (n := 52) ?_); rintro _ _ ⟨rfl, hh⟩; replace hh := hh.symm; subst hh)
        | ((with_reducible refine Z2w (n := 56) ?_); rintro _ _ ⟨rfl, hh⟩; replace hh := hh.symm; subst hh)
        | ((with_reducible refine Z2w (n := 57) ?_); rintro _ _ ⟨rfl, hh⟩; replace hh := hh.symm; subst hh)
        | ((with_reducible refine Z2w (n := 65) ?_); rintro _ _ ⟨rfl, hh⟩; replace hh := hh.symm; subst hh)
        | ((with_reducible refine Z2w (n := 66) ?_); rintro _ _ ⟨rfl, hh⟩; replace hh := hh.symm; subst hh)
        | ((with_reducible refine Z2w (n := 67) ?_); rintro _ _ ⟨rfl, hh⟩; replace hh := hh.symm; subst hh)
        | ((with_reducible refine Z2w (n := 68) ?_); rintro _ _ ⟨rfl, hh⟩; replace hh := hh.symm; subst hh)
        )
      all_goals first | rfl | (exfalso; simp at hb; done) | (exfalso; simp at hb; omega)
    · generalize hq : playA people l = s at hgk hlk
      obtain ⟨now, items, codes⟩ := s
      simp only at hgk hlk
      have hil := deskOk_items hgk
      have hcl : codes.length ≤ 60 := by omega
      have ci := fun ap c vl h hp hs hl hll => implPlay_g hq hlk hok ap c vl h hp hs hl hll
      have cp := fun ap c vl h hp hs hl hll => specPlay_g hq hlk hne hok ap c vl h hp hs hl hll
      clear hgk hlk hq hok hpk
      have key : items = [] ∨ items ≠ [] := by
        by_cases q : items = []
        · exact .inl q
        · exact .inr q
      rcases key with rfl | hin
      all_goals
        refine Z36 Try.func12 rfl Try.ntmps12 (by simp) (by dsimp only [Try.f12]) ?_
        repeat' (first
          | ((with_reducible refine eq_go ?_); simp only [stp, ev, Zb, Z2e, Z1z, Zk, Zl, reduceIte, Nat.reduceEqDiff, Zj, Zz, Zu, Z16, Z1a, Zm, Zp, Zo, Zd, Zx, Z2b, Z2x, Z1g, Z17, Zq, Zn, Zv, Z2p, Z2f, Z2o, Z2d, Z2g, Z1c, Z1b, Z2i, Z2n, Z2h, Z2j, Z2k, Z2l, Z2m, Z31, Z8, Z5, Z13, Zy, binV_bool_neq, binV_bool_eql, Ty.un4, Ze, Z1, Z0, ldv, stv, vcs, blt, lenV, Z10, Z3, Z2, Zf, Zg, Ze, Z1, Z0, Z14, Zw, Zh, Zr, Z33, Z15, Z7, Zc, Z6, Z3, Z2, Zf, Zi, Nat.reduceAdd, Nat.reduceMul, Nat.reduceLeDiff, Z11, Z12, Z1y, Z1h, Z2c, Z23, Z28, Z27, Z26, Z25, Z24, Z1m, Z1l, Z1k, Z1j, Z1i, Z1w, Z1v, Z1u, Z1t, Z1s, Z32, Z2y, Z2q, Z2r, Z2s, Z20, Z1q, Z1r, Z2z, Z2t, Z21, Z22, splice, Za, Z9, Z1, Z0, Z19, Zt, Zs, Z18, newB, vcs, Z30, Z2v, Z1x, Z29, Z1n, Z2u, Z1o, Z1f, Z1p, Z1d, Z1e, Ty.ld3, Ty.sz3, Ty.zc3, Ty.by3, Ty.ld4, Ty.sz4, Ty.zc4, Ty.by4, Ty.ld24, Ty.sz24, Ty.sl24, Ty.zc24, Ty.by24, Ty.ld56, Ty.sz56, Ty.sl56, Ty.zc56, Ty.by56, Ty.ld58, Ty.sz58, Ty.zc58, Ty.by58, Ty.ld71, Ty.sz71, Ty.sl71, Ty.zc71, Ty.by71, Ty.ld77, Ty.sz77, Ty.zc77, Ty.by77, Ty.ld80, Ty.sz80, Ty.zc80, Ty.by80, Ty.ld85, Ty.sz85, Ty.zc85, Ty.by85, Ty.ld88, Ty.sz88, Ty.sl88, Ty.zc88, Ty.by88, itV, itL, Z2x, if_false, cellsL, *]; rfl)
          | (with_reducible refine aw_then ?_) | (with_reducible refine aw_skip ?_) | (with_reducible refine aw_ret ?_) | (with_reducible refine aw_exit ?_) | (with_reducible refine aw_block ?_) | (with_reducible refine xr_reg (by decide +kernel) ?_)
          | (with_reducible refine xr_nil ?_) | (with_reducible refine k_norm ?_) | (with_reducible refine k_ret ?_) | (with_reducible refine k_exit ?_) | (with_reducible refine b_norm ?_) | (with_reducible refine b_ret ?_) | (with_reducible refine b_exit ?_) | (with_reducible refine b_past (by decide) ?_)
          | (refine xr_cl (f := ?_) (fs := ?_) (cs := ?_) (args := ?_) (K := ?_) ?_ ?_ ?_ ?_ ?_
             rotate_left 5
             · simp only [ev]; rfl
             first
             | (· with_reducible exact Ty.ok17
                rotate_left 2
                refine Z2a 17 ?_
                rotate_right 2)
             | (· with_reducible exact Ty.ok21
                rotate_left 2
                refine Z2a 21 ?_
                rotate_right 2)
             | (· with_reducible exact Ty.ok22
                rotate_left 2
                refine Z2a 22 ?_
                rotate_right 2)
             | (· with_reducible exact Ty.ok43
                rotate_left 2
                refine Z2a 43 ?_
                rotate_right 2)
             | (· with_reducible exact Ty.ok48
                rotate_left 2
                refine Z2a 48 ?_
                rotate_right 2)
             | (· with_reducible exact Ty.ok49
                rotate_left 2
                refine Z2a 49 ?_
                rotate_right 2)
             | (· with_reducible exact Ty.ok52
                rotate_left 2
                refine Z2a 52 ?_
                rotate_right 2)
             | (· with_reducible exact Ty.ok56
                rotate_left 2
                refine Z2a 56 ?_
                rotate_right 2)
             | (· with_reducible exact Ty.ok57
                rotate_left 2
                refine Z2a 57 ?_
                rotate_right 2)
             | (· with_reducible exact Ty.ok65
                rotate_left 2
                refine Z2a 65 ?_
                rotate_right 2)
             | (· with_reducible exact Ty.ok66
                rotate_left 2
                refine Z2a 66 ?_
                rotate_right 2)
             | (· with_reducible exact Ty.ok67
                rotate_left 2
                refine Z2a 67 ?_
                rotate_right 2)
             | (· with_reducible exact Ty.ok68
                rotate_left 2
                refine Z2a 68 ?_
                rotate_right 2)
             )
          | (refine xr_gcl (f := ?_) (fs := ?_) (cs := ?_) (args := ?_) (K := ?_) (by exact rfl) ?_ ?_ ?_ ?_ ?_ ?_
             rotate_left 5
             · simp only [ev, Zb, reduceIte, Nat.reduceEqDiff, Z8, Z5, *]
             · simp only [ev]; rfl
             first
             | (· with_reducible exact Ty.ok17
                rotate_left 2
                refine Z2a 17 ?_
                rotate_right 2)
             | (· with_reducible exact Ty.ok21
                rotate_left 2
                refine Z2a 21 ?_
                rotate_right 2)
             | (· with_reducible exact Ty.ok22
                rotate_left 2
                refine Z2a 22 ?_
                rotate_right 2)
             | (· with_reducible exact Ty.ok43
                rotate_left 2
                refine Z2a 43 ?_
                rotate_right 2)
             | (· with_reducible exact Ty.ok48
                rotate_left 2
                refine Z2a 48 ?_
                rotate_right 2)
             | (· with_reducible exact Ty.ok49
                rotate_left 2
                refine Z2a 49 ?_
                rotate_right 2)
             | (· with_reducible exact Ty.ok52
                rotate_left 2
                refine Z2a 52 ?_
                rotate_right 2)
             | (· with_reducible exact Ty.ok56
                rotate_left 2
                refine Z2a 56 ?_
                rotate_right 2)
             | (· with_reducible exact Ty.ok57
                rotate_left 2
                refine Z2a 57 ?_
                rotate_right 2)
             | (· with_reducible exact Ty.ok65
                rotate_left 2
                refine Z2a 65 ?_
                rotate_right 2)
             | (· with_reducible exact Ty.ok66
                rotate_left 2
                refine Z2a 66 ?_
                rotate_right 2)
             | (· with_reducible exact Ty.ok67
                rotate_left 2
                refine Z2a 67 ?_
                rotate_right 2)
             | (· with_reducible exact Ty.ok68
                rotate_left 2
                refine Z2a 68 ?_
                rotate_right 2)
             )
          | (refine xr_do (v := ?_) (h' := ?_) (by exact rfl) ?_ ?_; rotate_left 2)
          | (refine xr_st (v := ?_) (h' := ?_) (by exact rfl) ?_ ?_; rotate_left 2)
          | (refine xr_gdo (v := ?_) (h' := ?_) (by exact rfl) (by exact rfl) ?_ ?_ ?_
             rotate_left 2
             · simp only [ev, Zb, reduceIte, Nat.reduceEqDiff, Z8, Z5, *])
          | (refine xr_gst (v := ?_) (h' := ?_) (by exact rfl) (by exact rfl) ?_ ?_ ?_
             rotate_left 2
             · simp only [ev, Zb, reduceIte, Nat.reduceEqDiff, Z8, Z5, *])
          | (refine xr_goff (by exact rfl) ?_ ?_
             · simp only [ev, Zb, reduceIte, Nat.reduceEqDiff, Z8, Z5, *])
          | (refine xr_gsoff (by exact rfl) ?_ ?_
             · simp only [ev, Zb, reduceIte, Nat.reduceEqDiff, Z8, Z5, *])
          | (refine xr_gund (by exact rfl) ?_ ?_
             · simp only [ev, Zb, reduceIte, Nat.reduceEqDiff, Z8, Z5, *])
          | (refine xr_gsund (by exact rfl) ?_ ?_
             · simp only [ev, Zb, reduceIte, Nat.reduceEqDiff, Z8, Z5, *])
          | (refine xr_gif (b := ?_) (by exact rfl) ?_ (fun hb => ?_) (fun hb => ?_)
             rotate_left 1
             · simp only [ev, Zb, reduceIte, Nat.reduceEqDiff, Z8, Z5, *]; rfl)
          | (refine aw_ift (by decide) ?_ ?_
             · simp only [ev, Zb, reduceIte, Nat.reduceEqDiff, *])
          | (refine aw_iff (by decide) ?_ ?_
             · simp only [ev, Zb, reduceIte, Nat.reduceEqDiff, *])
          | (refine aw_if (b := ?_) (by decide) ?_ (fun hb => ?_) (fun hb => ?_)
             rotate_left 1
             · simp only [ev, Zb, reduceIte, Nat.reduceEqDiff, *]; rfl)
          | (refine r_ret (vs := ?_) ?_ ?_
             rotate_left 1
             · simp only [resV, ev, Zb, reduceIte, Nat.reduceEqDiff, Zj, *]; rfl)
          | (with_reducible refine toIntS_ok ?_ _ _ ?_ ?_
             rotate_left 1
             · first | assumption | exact Sl.old (by assumption) _ | ((try (simp only [deskV, deskL, Z11, Z12, Z1y, Z1h, Za, Z9, Z7, Zc, Zd, Z6, Z3, Z2, Zf, Zi, Nat.reduceAdd, Zh])); first | exact Sl.old (by assumption) _ | exact sl_nilints | exact sl_nilitems | (refine sl_ints (Z4 _) ?_; exact rfl) | (refine sl_items (Z4 _) ?_; exact rfl) | (refine sl_ints0 (Z4 _) ?_; exact rfl) | (refine sl_items0 (Z4 _) ?_; exact rfl))
             · first | omega | (simp only [Z2]; omega)
             )
          | (with_reducible refine eqIntS_ok ?_ ?_ _ _ _ ?_ ?_ ?_ ?_
             rotate_left 2
             · first | exact sl_zeroi | (first | assumption | exact Sl.old (by assumption) _ | ((try (simp only [deskV, deskL, Z11, Z12, Z1y, Z1h, Za, Z9, Z7, Zc, Zd, Z6, Z3, Z2, Zf, Zi, Nat.reduceAdd, Zh])); first | exact Sl.old (by assumption) _ | exact sl_nilints | exact sl_nilitems | (refine sl_ints (Z4 _) ?_; exact rfl) | (refine sl_items (Z4 _) ?_; exact rfl) | (refine sl_ints0 (Z4 _) ?_; exact rfl) | (refine sl_items0 (Z4 _) ?_; exact rfl)))
             · first | exact sl_zeroi | (first | assumption | exact Sl.old (by assumption) _ | ((try (simp only [deskV, deskL, Z11, Z12, Z1y, Z1h, Za, Z9, Z7, Zc, Zd, Z6, Z3, Z2, Zf, Zi, Nat.reduceAdd, Zh])); first | exact Sl.old (by assumption) _ | exact sl_nilints | exact sl_nilitems | (refine sl_ints (Z4 _) ?_; exact rfl) | (refine sl_items (Z4 _) ?_; exact rfl) | (refine sl_ints0 (Z4 _) ?_; exact rfl) | (refine sl_items0 (Z4 _) ?_; exact rfl)))
             · first | omega | (simp only [Z2]; omega)
             · first | omega | (simp only [Z2]; omega)
             )
          | (with_reducible refine markIntS_ok ?_ ?_ _ _ _ ?_ ?_ ?_
             rotate_left 2
             · first | (first | assumption | exact Own.old (by assumption) _ | ((try (simp only [deskV, deskL, Z11, Z12, Z1y, Z1h, Za, Z9, Z7, Zc, Zd, Z6, Z3, Z2, Zf, Zi, Nat.reduceAdd, Zh])); first | exact Own.old (by assumption) _ | exact Own.nil _ | (refine Own.at ?_ ?_ (Z4 _); (exact rfl); first | exact ints_flen _ | exact items_flen _ | (simp only [Z34]; done) | (simp only [Z34]; omega)) | (refine Own.at0 ?_ ?_ (Z4 _); (exact rfl); first | exact ints_flen _ | exact items_flen _ | (simp only [Z34]; done) | (simp only [Z34]; omega)))) | ((try (simp only [Z1y, Z1h, Za, Z9, Z11, Z12, Z7, Zc, Zd])); refine Own.at ?_ ?_ (Z4 _); (exact rfl); rfl)
             · first | omega | (simp only [Z2]; omega)
             · first | omega | (simp only [Z2]; omega)
             )
          | (with_reducible refine eqDesk_ok _ _ ?_ ?_ ?_ ?_ _ _ _ _ _ ?_ ?_ ?_ ?_ ?_ ?_ ?_ ?_
             rotate_left 4
             · first | assumption | exact Sl.old (by assumption) _ | ((try (simp only [deskV, deskL, Z11, Z12, Z1y, Z1h, Za, Z9, Z7, Zc, Zd, Z6, Z3, Z2, Zf, Zi, Nat.reduceAdd, Zh])); first | exact Sl.old (by assumption) _ | exact sl_nilints | exact sl_nilitems | (refine sl_ints (Z4 _) ?_; exact rfl) | (refine sl_items (Z4 _) ?_; exact rfl) | (refine sl_ints0 (Z4 _) ?_; exact rfl) | (refine sl_items0 (Z4 _) ?_; exact rfl))
             · first | exact sl_zero | (first | assumption | exact Sl.old (by assumption) _ | ((try (simp only [deskV, deskL, Z11, Z12, Z1y, Z1h, Za, Z9, Z7, Zc, Zd, Z6, Z3, Z2, Zf, Zi, Nat.reduceAdd, Zh])); first | exact Sl.old (by assumption) _ | exact sl_nilints | exact sl_nilitems | (refine sl_ints (Z4 _) ?_; exact rfl) | (refine sl_items (Z4 _) ?_; exact rfl) | (refine sl_ints0 (Z4 _) ?_; exact rfl) | (refine sl_items0 (Z4 _) ?_; exact rfl)))
             · first | assumption | exact Sl.old (by assumption) _ | ((try (simp only [deskV, deskL, Z11, Z12, Z1y, Z1h, Za, Z9, Z7, Zc, Zd, Z6, Z3, Z2, Zf, Zi, Nat.reduceAdd, Zh])); first | exact Sl.old (by assumption) _ | exact sl_nilints | exact sl_nilitems | (refine sl_ints (Z4 _) ?_; exact rfl) | (refine sl_items (Z4 _) ?_; exact rfl) | (refine sl_ints0 (Z4 _) ?_; exact rfl) | (refine sl_items0 (Z4 _) ?_; exact rfl))
             · first | exact sl_zero | (first | assumption | exact Sl.old (by assumption) _ | ((try (simp only [deskV, deskL, Z11, Z12, Z1y, Z1h, Za, Z9, Z7, Zc, Zd, Z6, Z3, Z2, Zf, Zi, Nat.reduceAdd, Zh])); first | exact Sl.old (by assumption) _ | exact sl_nilints | exact sl_nilitems | (refine sl_ints (Z4 _) ?_; exact rfl) | (refine sl_items (Z4 _) ?_; exact rfl) | (refine sl_ints0 (Z4 _) ?_; exact rfl) | (refine sl_items0 (Z4 _) ?_; exact rfl)))
             · first | omega | (simp only [Z2]; omega)
             · first | omega | (simp only [Z2]; omega)
             · first | omega | (simp only [Z2]; omega)
             · first | omega | (simp only [Z2]; omega)
             )
          | (with_reducible refine markDesk_ok ?_ ?_ ?_ ?_ _ _ _ _ _ ?_ ?_ ?_ ?_ ?_ ?_
             rotate_left 4
             · first | assumption | exact Own.old (by assumption) _ | ((try (simp only [deskV, deskL, Z11, Z12, Z1y, Z1h, Za, Z9, Z7, Zc, Zd, Z6, Z3, Z2, Zf, Zi, Nat.reduceAdd, Zh])); first | exact Own.old (by assumption) _ | exact Own.nil _ | (refine Own.at ?_ ?_ (Z4 _); (exact rfl); first | exact ints_flen _ | exact items_flen _ | (simp only [Z34]; done) | (simp only [Z34]; omega)) | (refine Own.at0 ?_ ?_ (Z4 _); (exact rfl); first | exact ints_flen _ | exact items_flen _ | (simp only [Z34]; done) | (simp only [Z34]; omega)))
             · first | assumption | exact Own.old (by assumption) _ | ((try (simp only [deskV, deskL, Z11, Z12, Z1y, Z1h, Za, Z9, Z7, Zc, Zd, Z6, Z3, Z2, Zf, Zi, Nat.reduceAdd, Zh])); first | exact Own.old (by assumption) _ | exact Own.nil _ | (refine Own.at ?_ ?_ (Z4 _); (exact rfl); first | exact ints_flen _ | exact items_flen _ | (simp only [Z34]; done) | (simp only [Z34]; omega)) | (refine Own.at0 ?_ ?_ (Z4 _); (exact rfl); first | exact ints_flen _ | exact items_flen _ | (simp only [Z34]; done) | (simp only [Z34]; omega)))
             · first | exact .inl rfl | (right; simp [bid])
             · first | omega | (simp only [Z2]; omega)
             · first | omega | (simp only [Z2]; omega)
             · first | omega | (simp only [Z2]; omega)
             )
          | (with_reducible refine heldDesk_ok ?_ ?_ _ _ _ _ _ ?_ ?_ ?_ ?_ ?_
             rotate_left 2
             · first | assumption | exact Own.old (by assumption) _ | ((try (simp only [deskV, deskL, Z11, Z12, Z1y, Z1h, Za, Z9, Z7, Zc, Zd, Z6, Z3, Z2, Zf, Zi, Nat.reduceAdd, Zh])); first | exact Own.old (by assumption) _ | exact Own.nil _ | (refine Own.at ?_ ?_ (Z4 _); (exact rfl); first | exact ints_flen _ | exact items_flen _ | (simp only [Z34]; done) | (simp only [Z34]; omega)) | (refine Own.at0 ?_ ?_ (Z4 _); (exact rfl); first | exact ints_flen _ | exact items_flen _ | (simp only [Z34]; done) | (simp only [Z34]; omega)))
             · first | assumption | exact Own.old (by assumption) _ | ((try (simp only [deskV, deskL, Z11, Z12, Z1y, Z1h, Za, Z9, Z7, Zc, Zd, Z6, Z3, Z2, Zf, Zi, Nat.reduceAdd, Zh])); first | exact Own.old (by assumption) _ | exact Own.nil _ | (refine Own.at ?_ ?_ (Z4 _); (exact rfl); first | exact ints_flen _ | exact items_flen _ | (simp only [Z34]; done) | (simp only [Z34]; omega)) | (refine Own.at0 ?_ ?_ (Z4 _); (exact rfl); first | exact ints_flen _ | exact items_flen _ | (simp only [Z34]; done) | (simp only [Z34]; omega)))
             · first | omega | (simp only [Z2]; omega)
             · first | omega | (simp only [Z2]; omega)
             · first | omega | (simp only [Z2]; omega)
             )
          | (with_reducible refine heldIntS_ok ?_ _ _ _ ?_ ?_ ?_
             rotate_left 1
             · first | assumption | exact Own.old (by assumption) _ | ((try (simp only [deskV, deskL, Z11, Z12, Z1y, Z1h, Za, Z9, Z7, Zc, Zd, Z6, Z3, Z2, Zf, Zi, Nat.reduceAdd, Zh])); first | exact Own.old (by assumption) _ | exact Own.nil _ | (refine Own.at ?_ ?_ (Z4 _); (exact rfl); first | exact ints_flen _ | exact items_flen _ | (simp only [Z34]; done) | (simp only [Z34]; omega)) | (refine Own.at0 ?_ ?_ (Z4 _); (exact rfl); first | exact ints_flen _ | exact items_flen _ | (simp only [Z34]; done) | (simp only [Z34]; omega)))
             · first | omega | (simp only [Z2]; omega)
             · first | omega | (simp only [Z2]; omega)
             )
          | (with_reducible refine ci _ _ _ _ ?_ ?_ ?_ ?_
             · first | assumption | exact Sl.old (by assumption) _ | ((try (simp only [deskV, deskL, Z11, Z12, Z1y, Z1h, Za, Z9, Z7, Zc, Zd, Z6, Z3, Z2, Zf, Zi, Nat.reduceAdd, Zh])); first | exact Sl.old (by assumption) _ | exact sl_nilints | exact sl_nilitems | (refine sl_ints (Z4 _) ?_; exact rfl) | (refine sl_items (Z4 _) ?_; exact rfl) | (refine sl_ints0 (Z4 _) ?_; exact rfl) | (refine sl_items0 (Z4 _) ?_; exact rfl))
             · first | assumption | exact Sl.old (by assumption) _ | ((try (simp only [Z11, Z12, Z1y, Z1h, Za, Z9, Z7, Zc, Zd, Z6, Z3, Z2, Zf, Zi, Nat.reduceAdd, Zh])); first | assumption | exact Sl.old (by assumption) _ | exact DAct.slnil | (refine DAct.slk (Z4 _) ?_; exact rfl) | (refine DAct.sl0 (Z4 _) ?_; exact rfl))
             · first | omega | (simp only [Z2]; omega)
             · first | omega | (simp only [Z2]; omega)
             )
          | (with_reducible refine cp _ _ _ _ ?_ ?_ ?_ ?_
             · first | assumption | exact Sl.old (by assumption) _ | ((try (simp only [deskV, deskL, Z11, Z12, Z1y, Z1h, Za, Z9, Z7, Zc, Zd, Z6, Z3, Z2, Zf, Zi, Nat.reduceAdd, Zh])); first | exact Sl.old (by assumption) _ | exact sl_nilints | exact sl_nilitems | (refine sl_ints (Z4 _) ?_; exact rfl) | (refine sl_items (Z4 _) ?_; exact rfl) | (refine sl_ints0 (Z4 _) ?_; exact rfl) | (refine sl_items0 (Z4 _) ?_; exact rfl))
             · first | assumption | exact Sl.old (by assumption) _ | ((try (simp only [Z11, Z12, Z1y, Z1h, Za, Z9, Z7, Zc, Zd, Z6, Z3, Z2, Zf, Zi, Nat.reduceAdd, Zh])); first | assumption | exact Sl.old (by assumption) _ | exact DAct.slnil | (refine DAct.slk (Z4 _) ?_; exact rfl) | (refine DAct.sl0 (Z4 _) ?_; exact rfl))
             · first | omega | (simp only [Z2]; omega)
             · first | omega | (simp only [Z2]; omega)
             )
          | (with_reducible refine szDeskActS_ok ?_ ?_ _ _ _ ?_ ?_ ?_
             rotate_left 2
             · first | assumption | exact Sl.old (by assumption) _ | ((try (simp only [Z11, Z12, Z1y, Z1h, Za, Z9, Z7, Zc, Zd, Z6, Z3, Z2, Zf, Zi, Nat.reduceAdd, Zh])); first | assumption | exact Sl.old (by assumption) _ | exact DAct.slnil | (refine DAct.slk (Z4 _) ?_; exact rfl) | (refine DAct.sl0 (Z4 _) ?_; exact rfl))
             · grind
             · grind
             )
          | (with_reducible refine toDeskActS_ok ?_ _ _ ?_ ?_
             rotate_left 1
             · first | assumption | exact Sl.old (by assumption) _ | ((try (simp only [Z11, Z12, Z1y, Z1h, Za, Z9, Z7, Zc, Zd, Z6, Z3, Z2, Zf, Zi, Nat.reduceAdd, Zh])); first | assumption | exact Sl.old (by assumption) _ | exact DAct.slnil | (refine DAct.slk (Z4 _) ?_; exact rfl) | (refine DAct.sl0 (Z4 _) ?_; exact rfl))
             · first | omega | (simp only [Z2]; omega)
             )
          | (with_reducible refine eqDeskActS_ok ?_ ?_ _ _ _ ?_ ?_ ?_ ?_
             rotate_left 2
             · first | assumption | exact Sl.old (by assumption) _ | ((try (simp only [Z11, Z12, Z1y, Z1h, Za, Z9, Z7, Zc, Zd, Z6, Z3, Z2, Zf, Zi, Nat.reduceAdd, Zh])); first | assumption | exact Sl.old (by assumption) _ | exact DAct.slnil | (refine DAct.slk (Z4 _) ?_; exact rfl) | (refine DAct.sl0 (Z4 _) ?_; exact rfl))
             · first | assumption | exact Sl.old (by assumption) _ | ((try (simp only [Z11, Z12, Z1y, Z1h, Za, Z9, Z7, Zc, Zd, Z6, Z3, Z2, Zf, Zi, Nat.reduceAdd, Zh])); first | assumption | exact Sl.old (by assumption) _ | exact DAct.slnil | (refine DAct.slk (Z4 _) ?_; exact rfl) | (refine DAct.sl0 (Z4 _) ?_; exact rfl))
             · grind
             · grind
             )
          | (with_reducible refine markDeskActS_ok ?_ ?_ _ _ _ ?_ ?_ ?_
             rotate_left 2
             · first | assumption | exact Own.old (by assumption) _ | ((try (simp only [Z11, Z12, Z1y, Z1h, Za, Z9, Z7, Zc, Zd, Z6, Z3, Z2, Zf, Zi, Nat.reduceAdd, Zh])); first | assumption | exact Own.old (by assumption) _ | exact Own.nil _ | (refine Own.at ?_ ?_ (Z4 _); (exact rfl); first | exact DAct.flen _ | exact DAct.mlen _ _ | (simp only [Z34]; done) | (simp only [Z34]; omega)) | (refine Own.at0 ?_ ?_ (Z4 _); (exact rfl); first | exact DAct.flen _ | exact DAct.mlen _ _ | (simp only [Z34]; done) | (simp only [Z34]; omega)))
             · first | omega | (simp only [Z2]; omega)
             · first | omega | (simp only [Z2]; omega)
             )
          | ((with_reducible refine Z2w (n := 17) ?_); rintro _ _ ⟨rfl, hh⟩; replace hh := hh.symm; subst hh)
          | ((with_reducible refine Z2w (n := 21) ?_); rintro _ _ ⟨rfl, hh⟩; replace hh := hh.symm; subst hh)
          | ((with_reducible refine Z2w (n := 22) ?_); rintro _ _ ⟨rfl, hh⟩; replace hh := hh.symm; subst hh)
          | ((with_reducible refine Z2w (n := 43) ?_); rintro _ _ ⟨rfl, hh⟩; replace hh := hh.symm; subst hh)
          | ((with_reducible refine Z2w (n := 48) ?_); rintro _ _ ⟨rfl, hh⟩; replace hh := hh.symm; subst hh)
          | ((with_reducible refine Z2w (n := 49) ?_); rintro _ _ ⟨rfl, hh⟩; replace hh := hh.symm; subst hh)
          | ((with_reducible refine Z2w (n := 52) ?_); rintro _ _ ⟨rfl, hh⟩; replace hh := hh.symm; subst hh)
          | ((with_reducible refine Z2w (n := 56) ?_); rintro _ _ ⟨rfl, hh⟩; replace hh := hh.symm; subst hh)
          | ((with_reducible refine Z2w (n := 57) ?_); rintro _ _ ⟨rfl, hh⟩; replace hh := hh.symm; subst hh)
          | ((with_reducible refine Z2w (n := 65) ?_); rintro _ _ ⟨rfl, hh⟩; replace hh := hh.symm; subst hh)
          | ((with_reducible refine Z2w (n := 66) ?_); rintro _ _ ⟨rfl, hh⟩; replace hh := hh.symm; subst hh)
          | ((with_reducible refine Z2w (n := 67) ?_); rintro _ _ ⟨rfl, hh⟩; replace hh := hh.symm; subst hh)
          | ((with_reducible refine Z2w (n := 68) ?_); rintro _ _ ⟨rfl, hh⟩; replace hh := hh.symm; subst hh)
          )
        all_goals first | rfl | (exfalso; simp at hb; done) | (exfalso; simp at hb; omega)
  · have ci := fun ap c vl h hp hs hl hll => playNo_i hok ap c vl h hp hs hl hll
    have cp := fun ap c vl h hp hs hl hll => playNo_s hok ap c vl h hp hs hl hll
    clear hok
    refine Z36 Try.func12 rfl Try.ntmps12 (by simp) (by dsimp only [Try.f12]) ?_
    repeat' (first
      | ((with_reducible refine eq_go ?_); simp only [stp, ev, Zb, Z2e, Z1z, Zk, Zl, reduceIte, Nat.reduceEqDiff, Zj, Zz, Zu, Z16, Z1a, Zm, Zp, Zo, Zd, Zx, Z2b, Z2x, Z1g, Z17, Zq, Zn, Zv, Z2p, Z2f, Z2o, Z2d, Z2g, Z1c, Z1b, Z2i, Z2n, Z2h, Z2j, Z2k, Z2l, Z2m, Z31, Z8, Z5, Z13, Zy, binV_bool_neq, binV_bool_eql, Ty.un4, Ze, Z1, Z0, ldv, stv, vcs, blt, lenV, Z10, Z3, Z2, Zf, Zg, Ze, Z1, Z0, Z14, Zw, Zh, Zr, Z33, Z15, Z7, Zc, Z6, Z3, Z2, Zf, Zi, Nat.reduceAdd, Nat.reduceMul, Nat.reduceLeDiff, Z11, Z12, Z1y, Z1h, Z2c, Z23, Z28, Z27, Z26, Z25, Z24, Z1m, Z1l, Z1k, Z1j, Z1i, Z1w, Z1v, Z1u, Z1t, Z1s, Z32, Z2y, Z2q, Z2r, Z2s, Z20, Z1q, Z1r, Z2z, Z2t, Z21, Z22, splice, Za, Z9, Z1, Z0, Z19, Zt, Zs, Z18, newB, vcs, Z30, Z2v, Z1x, Z29, Z1n, Z2u, Z1o, Z1f, Z1p, Z1d, Z1e, Ty.ld3, Ty.sz3, Ty.zc3, Ty.by3, Ty.ld4, Ty.sz4, Ty.zc4, Ty.by4, Ty.ld24, Ty.sz24, Ty.sl24, Ty.zc24, Ty.by24, Ty.ld56, Ty.sz56, Ty.sl56, Ty.zc56, Ty.by56, Ty.ld58, Ty.sz58, Ty.zc58, Ty.by58, Ty.ld71, Ty.sz71, Ty.sl71, Ty.zc71, Ty.by71, Ty.ld77, Ty.sz77, Ty.zc77, Ty.by77, Ty.ld80, Ty.sz80, Ty.zc80, Ty.by80, Ty.ld85, Ty.sz85, Ty.zc85, Ty.by85, Ty.ld88, Ty.sz88, Ty.sl88, Ty.zc88, Ty.by88, *]; rfl)
      | (with_reducible refine aw_then ?_) | (with_reducible refine aw_skip ?_) | (with_reducible refine aw_ret ?_) | (with_reducible refine aw_exit ?_) | (with_reducible refine aw_block ?_) | (with_reducible refine xr_reg (by decide +kernel) ?_)
      | (with_reducible refine xr_nil ?_) | (with_reducible refine k_norm ?_) | (with_reducible refine k_ret ?_) | (with_reducible refine k_exit ?_) | (with_reducible refine b_norm ?_) | (with_reducible refine b_ret ?_) | (with_reducible refine b_exit ?_) | (with_reducible refine b_past (by decide) ?_)
      | (refine xr_cl (f := ?_) (fs := ?_) (cs := ?_) (args := ?_) (K := ?_) ?_ ?_ ?_ ?_ ?_
         rotate_left 5
         · simp only [ev]; rfl
         first
         | (· with_reducible exact Ty.ok17
            rotate_left 2
            refine Z2a 17 ?_
            rotate_right 2)
         | (· with_reducible exact Ty.ok21
            rotate_left 2
            refine Z2a 21 ?_
            rotate_right 2)
         | (· with_reducible exact Ty.ok22
            rotate_left 2
            refine Z2a 22 ?_
            rotate_right 2)
         | (· with_reducible exact Ty.ok43
            rotate_left 2
            refine Z2a 43 ?_
            rotate_right 2)
         | (· with_reducible exact Ty.ok48
            rotate_left 2
            refine Z2a 48 ?_
            rotate_right 2)
         | (· with_reducible exact Ty.ok49
            rotate_left 2
            refine Z2a 49 ?_
            rotate_right 2)
         | (· with_reducible exact Ty.ok52
            rotate_left 2
            refine Z2a 52 ?_
            rotate_right 2)
         | (· with_reducible exact Ty.ok56
            rotate_left 2
            refine Z2a 56 ?_
            rotate_right 2)
         | (· with_reducible exact Ty.ok57
            rotate_left 2
            refine Z2a 57 ?_
            rotate_right 2)
         | (· with_reducible exact Ty.ok65
            rotate_left 2
            refine Z2a 65 ?_
            rotate_right 2)
         | (· with_reducible exact Ty.ok66
            rotate_left 2
            refine Z2a 66 ?_
            rotate_right 2)
         | (· with_reducible exact Ty.ok67
            rotate_left 2
            refine Z2a 67 ?_
            rotate_right 2)
         | (· with_reducible exact Ty.ok68
            rotate_left 2
            refine Z2a 68 ?_
            rotate_right 2)
         )
      | (refine xr_gcl (f := ?_) (fs := ?_) (cs := ?_) (args := ?_) (K := ?_) (by exact rfl) ?_ ?_ ?_ ?_ ?_ ?_
         rotate_left 5
         · simp only [ev, Zb, reduceIte, Nat.reduceEqDiff, Z8, Z5, *]
         · simp only [ev]; rfl
         first
         | (· with_reducible exact Ty.ok17
            rotate_left 2
            refine Z2a 17 ?_
            rotate_right 2)
         | (· with_reducible exact Ty.ok21
            rotate_left 2
            refine Z2a 21 ?_
            rotate_right 2)
         | (· with_reducible exact Ty.ok22
            rotate_left 2
            refine Z2a 22 ?_
            rotate_right 2)
         | (· with_reducible exact Ty.ok43
            rotate_left 2
            refine Z2a 43 ?_
            rotate_right 2)
         | (· with_reducible exact Ty.ok48
            rotate_left 2
            refine Z2a 48 ?_
            rotate_right 2)
         | (· with_reducible exact Ty.ok49
            rotate_left 2
            refine Z2a 49 ?_
            rotate_right 2)
         | (· with_reducible exact Ty.ok52
            rotate_left 2
            refine Z2a 52 ?_
            rotate_right 2)
         | (· with_reducible exact Ty.ok56
            rotate_left 2
            refine Z2a 56 ?_
            rotate_right 2)
         | (· with_reducible exact Ty.ok57
            rotate_left 2
            refine Z2a 57 ?_
            rotate_right 2)
         | (· with_reducible exact Ty.ok65
            rotate_left 2
            refine Z2a 65 ?_
            rotate_right 2)
         | (· with_reducible exact Ty.ok66
            rotate_left 2
            refine Z2a 66 ?_
            rotate_right 2)
         | (· with_reducible exact Ty.ok67
            rotate_left 2
            refine Z2a 67 ?_
            rotate_right 2)
         | (· with_reducible exact Ty.ok68
            rotate_left 2
            refine Z2a 68 ?_
            rotate_right 2)
         )
      | (refine xr_do (v := ?_) (h' := ?_) (by exact rfl) ?_ ?_; rotate_left 2)
      | (refine xr_st (v := ?_) (h' := ?_) (by exact rfl) ?_ ?_; rotate_left 2)
      | (refine xr_gdo (v := ?_) (h' := ?_) (by exact rfl) (by exact rfl) ?_ ?_ ?_
         rotate_left 2
         · simp only [ev, Zb, reduceIte, Nat.reduceEqDiff, Z8, Z5, *])
      | (refine xr_gst (v := ?_) (h' := ?_) (by exact rfl) (by exact rfl) ?_ ?_ ?_
         rotate_left 2
         · simp only [ev, Zb, reduceIte, Nat.reduceEqDiff, Z8, Z5, *])
      | (refine xr_goff (by exact rfl) ?_ ?_
         · simp only [ev, Zb, reduceIte, Nat.reduceEqDiff, Z8, Z5, *])
      | (refine xr_gsoff (by exact rfl) ?_ ?_
         · simp only [ev, Zb, reduceIte, Nat.reduceEqDiff, Z8, Z5, *])
      | (refine xr_gund (by exact rfl) ?_ ?_
         · simp only [ev, Zb, reduceIte, Nat.reduceEqDiff, Z8, Z5, *])
      | (refine xr_gsund (by exact rfl) ?_ ?_
         · simp only [ev, Zb, reduceIte, Nat.reduceEqDiff, Z8, Z5, *])
      | (refine xr_gif (b := ?_) (by exact rfl) ?_ (fun hb => ?_) (fun hb => ?_)
         rotate_left 1
         · simp only [ev, Zb, reduceIte, Nat.reduceEqDiff, Z8, Z5, *]; rfl)
      | (refine aw_ift (by decide) ?_ ?_
         · simp only [ev, Zb, reduceIte, Nat.reduceEqDiff, *])
      | (refine aw_iff (by decide) ?_ ?_
         · simp only [ev, Zb, reduceIte, Nat.reduceEqDiff, *])
      | (refine aw_if (b := ?_) (by decide) ?_ (fun hb => ?_) (fun hb => ?_)
         rotate_left 1
         · simp only [ev, Zb, reduceIte, Nat.reduceEqDiff, *]; rfl)
      | (refine r_ret (vs := ?_) ?_ ?_
         rotate_left 1
         · simp only [resV, ev, Zb, reduceIte, Nat.reduceEqDiff, Zj, *]; rfl)
      | (with_reducible refine toIntS_ok ?_ _ _ ?_ ?_
         rotate_left 1
         · first | assumption | exact Sl.old (by assumption) _ | ((try (simp only [deskV, deskL, Z11, Z12, Z1y, Z1h, Za, Z9, Z7, Zc, Zd, Z6, Z3, Z2, Zf, Zi, Nat.reduceAdd, Zh])); first | exact Sl.old (by assumption) _ | exact sl_nilints | exact sl_nilitems | (refine sl_ints (Z4 _) ?_; exact rfl) | (refine sl_items (Z4 _) ?_; exact rfl) | (refine sl_ints0 (Z4 _) ?_; exact rfl) | (refine sl_items0 (Z4 _) ?_; exact rfl))
         · first | omega | (simp only [Z2]; omega)
         )
      | (with_reducible refine eqIntS_ok ?_ ?_ _ _ _ ?_ ?_ ?_ ?_
         rotate_left 2
         · first | exact sl_zeroi | (first | assumption | exact Sl.old (by assumption) _ | ((try (simp only [deskV, deskL, Z11, Z12, Z1y, Z1h, Za, Z9, Z7, Zc, Zd, Z6, Z3, Z2, Zf, Zi, Nat.reduceAdd, Zh])); first | exact Sl.old (by assumption) _ | exact sl_nilints | exact sl_nilitems | (refine sl_ints (Z4 _) ?_; exact rfl) | (refine sl_items (Z4 _) ?_; exact rfl) | (refine sl_ints0 (Z4 _) ?_; exact rfl) | (refine sl_items0 (Z4 _) ?_; exact rfl)))
         · first | exact sl_zeroi | (first | assumption | exact Sl.old (by assumption) _ | ((try (simp only [deskV, deskL, Z11, Z12, Z1y, Z1h, Za, Z9, Z7, Zc, Zd, Z6, Z3, Z2, Zf, Zi, Nat.reduceAdd, Zh])); first | exact Sl.old (by assumption) _ | exact sl_nilints | exact sl_nilitems | (refine sl_ints (Z4 _) ?_; exact rfl) | (refine sl_items (Z4 _) ?_; exact rfl) | (refine sl_ints0 (Z4 _) ?_; exact rfl) | (refine sl_items0 (Z4 _) ?_; exact rfl)))
         · first | omega | (simp only [Z2]; omega)
         · first | omega | (simp only [Z2]; omega)
         )
      | (with_reducible refine markIntS_ok ?_ ?_ _ _ _ ?_ ?_ ?_
         rotate_left 2
         · first | (first | assumption | exact Own.old (by assumption) _ | ((try (simp only [deskV, deskL, Z11, Z12, Z1y, Z1h, Za, Z9, Z7, Zc, Zd, Z6, Z3, Z2, Zf, Zi, Nat.reduceAdd, Zh])); first | exact Own.old (by assumption) _ | exact Own.nil _ | (refine Own.at ?_ ?_ (Z4 _); (exact rfl); first | exact ints_flen _ | exact items_flen _ | (simp only [Z34]; done) | (simp only [Z34]; omega)) | (refine Own.at0 ?_ ?_ (Z4 _); (exact rfl); first | exact ints_flen _ | exact items_flen _ | (simp only [Z34]; done) | (simp only [Z34]; omega)))) | ((try (simp only [Z1y, Z1h, Za, Z9, Z11, Z12, Z7, Zc, Zd])); refine Own.at ?_ ?_ (Z4 _); (exact rfl); rfl)
         · first | omega | (simp only [Z2]; omega)
         · first | omega | (simp only [Z2]; omega)
         )
      | (with_reducible refine eqDesk_ok _ _ ?_ ?_ ?_ ?_ _ _ _ _ _ ?_ ?_ ?_ ?_ ?_ ?_ ?_ ?_
         rotate_left 4
         · first | assumption | exact Sl.old (by assumption) _ | ((try (simp only [deskV, deskL, Z11, Z12, Z1y, Z1h, Za, Z9, Z7, Zc, Zd, Z6, Z3, Z2, Zf, Zi, Nat.reduceAdd, Zh])); first | exact Sl.old (by assumption) _ | exact sl_nilints | exact sl_nilitems | (refine sl_ints (Z4 _) ?_; exact rfl) | (refine sl_items (Z4 _) ?_; exact rfl) | (refine sl_ints0 (Z4 _) ?_; exact rfl) | (refine sl_items0 (Z4 _) ?_; exact rfl))
         · first | exact sl_zero | (first | assumption | exact Sl.old (by assumption) _ | ((try (simp only [deskV, deskL, Z11, Z12, Z1y, Z1h, Za, Z9, Z7, Zc, Zd, Z6, Z3, Z2, Zf, Zi, Nat.reduceAdd, Zh])); first | exact Sl.old (by assumption) _ | exact sl_nilints | exact sl_nilitems | (refine sl_ints (Z4 _) ?_; exact rfl) | (refine sl_items (Z4 _) ?_; exact rfl) | (refine sl_ints0 (Z4 _) ?_; exact rfl) | (refine sl_items0 (Z4 _) ?_; exact rfl)))
         · first | assumption | exact Sl.old (by assumption) _ | ((try (simp only [deskV, deskL, Z11, Z12, Z1y, Z1h, Za, Z9, Z7, Zc, Zd, Z6, Z3, Z2, Zf, Zi, Nat.reduceAdd, Zh])); first | exact Sl.old (by assumption) _ | exact sl_nilints | exact sl_nilitems | (refine sl_ints (Z4 _) ?_; exact rfl) | (refine sl_items (Z4 _) ?_; exact rfl) | (refine sl_ints0 (Z4 _) ?_; exact rfl) | (refine sl_items0 (Z4 _) ?_; exact rfl))
         · first | exact sl_zero | (first | assumption | exact Sl.old (by assumption) _ | ((try (simp only [deskV, deskL, Z11, Z12, Z1y, Z1h, Za, Z9, Z7, Zc, Zd, Z6, Z3, Z2, Zf, Zi, Nat.reduceAdd, Zh])); first | exact Sl.old (by assumption) _ | exact sl_nilints | exact sl_nilitems | (refine sl_ints (Z4 _) ?_; exact rfl) | (refine sl_items (Z4 _) ?_; exact rfl) | (refine sl_ints0 (Z4 _) ?_; exact rfl) | (refine sl_items0 (Z4 _) ?_; exact rfl)))
         · first | omega | (simp only [Z2]; omega)
         · first | omega | (simp only [Z2]; omega)
         · first | omega | (simp only [Z2]; omega)
         · first | omega | (simp only [Z2]; omega)
         )
      | (with_reducible refine markDesk_ok ?_ ?_ ?_ ?_ _ _ _ _ _ ?_ ?_ ?_ ?_ ?_ ?_
         rotate_left 4
         · first | assumption | exact Own.old (by assumption) _ | ((try (simp only [deskV, deskL, Z11, Z12, Z1y, Z1h, Za, Z9, Z7, Zc, Zd, Z6, Z3, Z2, Zf, Zi, Nat.reduceAdd, Zh])); first | exact Own.old (by assumption) _ | exact Own.nil _ | (refine Own.at ?_ ?_ (Z4 _); (exact rfl); first | exact ints_flen _ | exact items_flen _ | (simp only [Z34]; done) | (simp only [Z34]; omega)) | (refine Own.at0 ?_ ?_ (Z4 _); (exact rfl); first | exact ints_flen _ | exact items_flen _ | (simp only [Z34]; done) | (simp only [Z34]; omega)))
         · first | assumption | exact Own.old (by assumption) _ | ((try (simp only [deskV, deskL, Z11, Z12, Z1y, Z1h, Za, Z9, Z7, Zc, Zd, Z6, Z3, Z2, Zf, Zi, Nat.reduceAdd, Zh])); first | exact Own.old (by assumption) _ | exact Own.nil _ | (refine Own.at ?_ ?_ (Z4 _); (exact rfl); first | exact ints_flen _ | exact items_flen _ | (simp only [Z34]; done) | (simp only [Z34]; omega)) | (refine Own.at0 ?_ ?_ (Z4 _); (exact rfl); first | exact ints_flen _ | exact items_flen _ | (simp only [Z34]; done) | (simp only [Z34]; omega)))
         · first | exact .inl rfl | (right; simp [bid])
         · first | omega | (simp only [Z2]; omega)
         · first | omega | (simp only [Z2]; omega)
         · first | omega | (simp only [Z2]; omega)
         )
      | (with_reducible refine heldDesk_ok ?_ ?_ _ _ _ _ _ ?_ ?_ ?_ ?_ ?_
         rotate_left 2
         · first | assumption | exact Own.old (by assumption) _ | ((try (simp only [deskV, deskL, Z11, Z12, Z1y, Z1h, Za, Z9, Z7, Zc, Zd, Z6, Z3, Z2, Zf, Zi, Nat.reduceAdd, Zh])); first | exact Own.old (by assumption) _ | exact Own.nil _ | (refine Own.at ?_ ?_ (Z4 _); (exact rfl); first | exact ints_flen _ | exact items_flen _ | (simp only [Z34]; done) | (simp only [Z34]; omega)) | (refine Own.at0 ?_ ?_ (Z4 _); (exact rfl); first | exact ints_flen _ | exact items_flen _ | (simp only [Z34]; done) | (simp only [Z34]; omega)))
         · first | assumption | exact Own.old (by assumption) _ | ((try (simp only [deskV, deskL, Z11, Z12, Z1y, Z1h, Za, Z9, Z7, Zc, Zd, Z6, Z3, Z2, Zf, Zi, Nat.reduceAdd, Zh])); first | exact Own.old (by assumption) _ | exact Own.nil _ | (refine Own.at ?_ ?_ (Z4 _); (exact rfl); first | exact ints_flen _ | exact items_flen _ | (simp only [Z34]; done) | (simp only [Z34]; omega)) | (refine Own.at0 ?_ ?_ (Z4 _); (exact rfl); first | exact ints_flen _ | exact items_flen _ | (simp only [Z34]; done) | (simp only [Z34]; omega)))
         · first | omega | (simp only [Z2]; omega)
         · first | omega | (simp only [Z2]; omega)
         · first | omega | (simp only [Z2]; omega)
         )
      | (with_reducible refine heldIntS_ok ?_ _ _ _ ?_ ?_ ?_
         rotate_left 1
         · first | assumption | exact Own.old (by assumption) _ | ((try (simp only [deskV, deskL, Z11, Z12, Z1y, Z1h, Za, Z9, Z7, Zc, Zd, Z6, Z3, Z2, Zf, Zi, Nat.reduceAdd, Zh])); first | exact Own.old (by assumption) _ | exact Own.nil _ | (refine Own.at ?_ ?_ (Z4 _); (exact rfl); first | exact ints_flen _ | exact items_flen _ | (simp only [Z34]; done) | (simp only [Z34]; omega)) | (refine Own.at0 ?_ ?_ (Z4 _); (exact rfl); first | exact ints_flen _ | exact items_flen _ | (simp only [Z34]; done) | (simp only [Z34]; omega)))
         · first | omega | (simp only [Z2]; omega)
         · first | omega | (simp only [Z2]; omega)
         )
      | (with_reducible refine ci _ _ _ _ ?_ ?_ ?_ ?_
         · first | assumption | exact Sl.old (by assumption) _ | ((try (simp only [deskV, deskL, Z11, Z12, Z1y, Z1h, Za, Z9, Z7, Zc, Zd, Z6, Z3, Z2, Zf, Zi, Nat.reduceAdd, Zh])); first | exact Sl.old (by assumption) _ | exact sl_nilints | exact sl_nilitems | (refine sl_ints (Z4 _) ?_; exact rfl) | (refine sl_items (Z4 _) ?_; exact rfl) | (refine sl_ints0 (Z4 _) ?_; exact rfl) | (refine sl_items0 (Z4 _) ?_; exact rfl))
         · first | assumption | exact Sl.old (by assumption) _ | ((try (simp only [Z11, Z12, Z1y, Z1h, Za, Z9, Z7, Zc, Zd, Z6, Z3, Z2, Zf, Zi, Nat.reduceAdd, Zh])); first | assumption | exact Sl.old (by assumption) _ | exact DAct.slnil | (refine DAct.slk (Z4 _) ?_; exact rfl) | (refine DAct.sl0 (Z4 _) ?_; exact rfl))
         · first | omega | (simp only [Z2]; omega)
         · first | omega | (simp only [Z2]; omega)
         )
      | (with_reducible refine cp _ _ _ _ ?_ ?_ ?_ ?_
         · first | assumption | exact Sl.old (by assumption) _ | ((try (simp only [deskV, deskL, Z11, Z12, Z1y, Z1h, Za, Z9, Z7, Zc, Zd, Z6, Z3, Z2, Zf, Zi, Nat.reduceAdd, Zh])); first | exact Sl.old (by assumption) _ | exact sl_nilints | exact sl_nilitems | (refine sl_ints (Z4 _) ?_; exact rfl) | (refine sl_items (Z4 _) ?_; exact rfl) | (refine sl_ints0 (Z4 _) ?_; exact rfl) | (refine sl_items0 (Z4 _) ?_; exact rfl))
         · first | assumption | exact Sl.old (by assumption) _ | ((try (simp only [Z11, Z12, Z1y, Z1h, Za, Z9, Z7, Zc, Zd, Z6, Z3, Z2, Zf, Zi, Nat.reduceAdd, Zh])); first | assumption | exact Sl.old (by assumption) _ | exact DAct.slnil | (refine DAct.slk (Z4 _) ?_; exact rfl) | (refine DAct.sl0 (Z4 _) ?_; exact rfl))
         · first | omega | (simp only [Z2]; omega)
         · first | omega | (simp only [Z2]; omega)
         )
      | (with_reducible refine szDeskActS_ok ?_ ?_ _ _ _ ?_ ?_ ?_
         rotate_left 2
         · first | assumption | exact Sl.old (by assumption) _ | ((try (simp only [Z11, Z12, Z1y, Z1h, Za, Z9, Z7, Zc, Zd, Z6, Z3, Z2, Zf, Zi, Nat.reduceAdd, Zh])); first | assumption | exact Sl.old (by assumption) _ | exact DAct.slnil | (refine DAct.slk (Z4 _) ?_; exact rfl) | (refine DAct.sl0 (Z4 _) ?_; exact rfl))
         · grind
         · grind
         )
      | (with_reducible refine toDeskActS_ok ?_ _ _ ?_ ?_
         rotate_left 1
         · first | assumption | exact Sl.old (by assumption) _ | ((try (simp only [Z11, Z12, Z1y, Z1h, Za, Z9, Z7, Zc, Zd, Z6, Z3, Z2, Zf, Zi, Nat.reduceAdd, Zh])); first | assumption | exact Sl.old (by assumption) _ | exact DAct.slnil | (refine DAct.slk (Z4 _) ?_; exact rfl) | (refine DAct.sl0 (Z4 _) ?_; exact rfl))
         · first | omega | (simp only [Z2]; omega)
         )
      | (with_reducible refine eqDeskActS_ok ?_ ?_ _ _ _ ?_ ?_ ?_ ?_
         rotate_left 2
         · first | assumption | exact Sl.old (by assumption) _ | ((try (simp only [Z11, Z12, Z1y, Z1h, Za, Z9, Z7, Zc, Zd, Z6, Z3, Z2, Zf, Zi, Nat.reduceAdd, Zh])); first | assumption | exact Sl.old (by assumption) _ | exact DAct.slnil | (refine DAct.slk (Z4 _) ?_; exact rfl) | (refine DAct.sl0 (Z4 _) ?_; exact rfl))
         · first | assumption | exact Sl.old (by assumption) _ | ((try (simp only [Z11, Z12, Z1y, Z1h, Za, Z9, Z7, Zc, Zd, Z6, Z3, Z2, Zf, Zi, Nat.reduceAdd, Zh])); first | assumption | exact Sl.old (by assumption) _ | exact DAct.slnil | (refine DAct.slk (Z4 _) ?_; exact rfl) | (refine DAct.sl0 (Z4 _) ?_; exact rfl))
         · grind
         · grind
         )
      | (with_reducible refine markDeskActS_ok ?_ ?_ _ _ _ ?_ ?_ ?_
         rotate_left 2
         · first | assumption | exact Own.old (by assumption) _ | ((try (simp only [Z11, Z12, Z1y, Z1h, Za, Z9, Z7, Zc, Zd, Z6, Z3, Z2, Zf, Zi, Nat.reduceAdd, Zh])); first | assumption | exact Own.old (by assumption) _ | exact Own.nil _ | (refine Own.at ?_ ?_ (Z4 _); (exact rfl); first | exact DAct.flen _ | exact DAct.mlen _ _ | (simp only [Z34]; done) | (simp only [Z34]; omega)) | (refine Own.at0 ?_ ?_ (Z4 _); (exact rfl); first | exact DAct.flen _ | exact DAct.mlen _ _ | (simp only [Z34]; done) | (simp only [Z34]; omega)))
         · first | omega | (simp only [Z2]; omega)
         · first | omega | (simp only [Z2]; omega)
         )
      | ((with_reducible refine Z2w (n := 17) ?_); rintro _ _ ⟨rfl, hh⟩; replace hh := hh.symm; subst hh)
      | ((with_reducible refine Z2w (n := 21) ?_); rintro _ _ ⟨rfl, hh⟩; replace hh := hh.symm; subst hh)
      | ((with_reducible refine Z2w (n := 22) ?_); rintro _ _ ⟨rfl, hh⟩; replace hh := hh.symm; subst hh)
      | ((with_reducible refine Z2w (n := 43) ?_); rintro _ _ ⟨rfl, hh⟩; replace hh := hh.symm; subst hh)
      | ((with_reducible refine Z2w (n := 48) ?_); rintro _ _ ⟨rfl, hh⟩; replace hh := hh.symm; subst hh)
      | ((with_reducible refine Z2w (n := 49) ?_); rintro _ _ ⟨rfl, hh⟩; replace hh := hh.symm; subst hh)
      | ((with_reducible refine Z2w (n := 52) ?_); rintro _ _ ⟨rfl, hh⟩; replace hh := hh.symm; subst hh)
      | ((with_reducible refine Z2w (n := 56) ?_); rintro _ _ ⟨rfl, hh⟩; replace hh := hh.symm; subst hh)
      | ((with_reducible refine Z2w (n := 57) ?_); rintro _ _ ⟨rfl, hh⟩; replace hh := hh.symm; subst hh)
      | ((with_reducible refine Z2w (n := 65) ?_); rintro _ _ ⟨rfl, hh⟩; replace hh := hh.symm; subst hh)
      | ((with_reducible refine Z2w (n := 66) ?_); rintro _ _ ⟨rfl, hh⟩; replace hh := hh.symm; subst hh)
      | ((with_reducible refine Z2w (n := 67) ?_); rintro _ _ ⟨rfl, hh⟩; replace hh := hh.symm; subst hh)
      | ((with_reducible refine Z2w (n := 68) ?_); rintro _ _ ⟨rfl, hh⟩; replace hh := hh.symm; subst hh)
      )
    all_goals first | rfl | (exfalso; simp at hb; done) | (exfalso; simp at hb; omega)
end Go.Proofs.Ytiddnhhjlipebaa.Am
