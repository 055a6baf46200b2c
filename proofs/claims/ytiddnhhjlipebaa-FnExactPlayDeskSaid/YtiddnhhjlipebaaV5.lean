/- Walk of the passing of time on a desk, in the program. Conditions: none. -/
import Derived.Test.YtiddnhhjlipebaaK3
import Derived.Test.YtiddnhhjlipebaaV3
import Derived.Test.YtiddnhhjlipebaaV4
namespace Go.Proofs.Ytiddnhhjlipebaa.Am
open Go Go.Proofs
set_option linter.unusedVariables false
set_option linter.unusedSimpArgs false
set_option maxRecDepth 100000
set_option maxHeartbeats 8000000

def cellsL (l : List Item) : List Value := (l.map Item.cells).flatten
theorem cellsL_append (a b : List Item) : cellsL (a ++ b) = cellsL a ++ cellsL b := by simp [cellsL]
theorem cellsL_cons (x : Item) (b : List Item) : cellsL (x :: b) = x.cells ++ cellsL b := by simp [cellsL]
theorem cellsL_len (l : List Item) : (cellsL l).length = l.length * 6 := items_flen l
theorem cellsL_af (l : List Item) : ∀ x ∈ cellsL l, af1 x = true := items_af l
theorem cellsL_mid {l : List Item} {k : Nat} (hk : k < l.length) : cellsL l = cellsL (l.take k) ++ (l[k].cells ++ cellsL (l.drop (k + 1))) := by
  conv => lhs; rw [← List.take_append_drop k l, List.drop_eq_getElem_cons hk]
  rw [cellsL_append, cellsL_cons]
theorem cellsL_set {l : List Item} {k : Nat} (hk : k < l.length) (y : Item) : cellsL (l.set k y) = cellsL (l.take k) ++ (y.cells ++ cellsL (l.drop (k + 1))) := by
  rw [List.set_eq_take_append_cons_drop, if_pos hk, cellsL_append, cellsL_cons]

/-- An item when time has come to now. -/
def tickI (now : Int) (x : Item) : Item := if x.state = 2 ∧ x.till ≤ now then { x with state := 1, who := -1, till := 0 } else x
def tickK (now : Int) (l : List Item) (k : Nat) : List Item := (l.take k).map (tickI now) ++ l.drop k
theorem tickK_zero (now : Int) (l : List Item) : tickK now l 0 = l := by simp [tickK]
theorem tickK_all (now : Int) {l : List Item} {k : Nat} (h : l.length ≤ k) : tickK now l k = l.map (tickI now) := by simp [tickK, List.take_of_length_le h, List.drop_of_length_le h]
theorem tickK_mid (now : Int) {l : List Item} {k : Nat} (hk : k < l.length) : ∃ pre post, pre.length = k * 6 ∧ cellsL (tickK now l k) = pre ++ (l[k].cells ++ post) ∧ cellsL (tickK now l (k + 1)) = pre ++ ((tickI now l[k]).cells ++ post) := by
  refine ⟨cellsL ((l.take k).map (tickI now)), cellsL (l.drop (k + 1)), ?_, ?_, ?_⟩
  · rw [cellsL_len, Zv, List.length_take, Nat.min_eq_left (Nat.le_of_lt hk)]
  · rw [tickK, List.drop_eq_getElem_cons hk, cellsL_append, cellsL_cons]
  · rw [tickK, ← List.take_append_getElem hk, List.map_append, cellsL_append, cellsL_append, Z7, Z16, Z1a, cellsL_cons]; simp [cellsL]

theorem tickDesk_at (now many : Int) (items : List Item) (vp : Value) (sp : Option Nat) (c : Nat) (h L : Heap) (hf : flat vp = true) (hn : 0 ≤ now ∧ now ≤ 10000) (hm : 0 ≤ many ∧ many ≤ 100) (hl : items.length ≤ 1048576) :
    ACalls Try.prog 0 126 #[.agg #[.int .i64 now, vp, .slice (some ⟨h.length, 0, sp⟩) items.length c], .int .i64 many] (h ++ ⟨2, 6, cellsL items⟩ :: L)
    fun v h' => ∃ X, v = .tuple #[.agg #[.int .i64 (if 10000 < now + many then now else now + many), vp, .slice (some ⟨h.length, 0, sp⟩) items.length c], .int .i64 (if 10000 < now + many then 5 else 0)] ∧
      h' = h ++ ⟨2, 6, cellsL (if 10000 < now + many then items else items.map (tickI (now + many)))⟩ :: (L ++ X) := by
  have hw : IntKind.i64.wrap (now + many) = now + many := wrap_id (by omega)
  by_cases hq : 10000 < now + many
  · simp only [if_pos hq]
    refine Z36 Try.func126 rfl Try.ntmps126 (by simp) (by dsimp only [Try.f126]) ?_
    repeat' (first
      | ((with_reducible refine eq_go ?_); simp only [stp, ev, Zb, Z2e, Z1z, Zk, Zl, reduceIte, Nat.reduceEqDiff, Zj, Zz, Zu, Z16, Z1a, Zm, Zp, Zo, Zd, Zx, Z2b, Z2x, Z1g, Z17, Zq, Zn, Zv, Z2p, Z2f, Z2o, Z2d, Z2g, Z1c, Z1b, Z2i, Z2n, Z2h, Z2j, Z2k, Z2l, Z2m, Z31, Z8, Z5, Z13, Zy, ldv, stv, vcs, fldA, idxA, blt, lenV, Z10, Z3, Z2, Zf, Zg, Ze, Z1, Z0, Z14, Zw, Zh, Zr, Z33, Z15, Z7, Zc, Z6, Z3, Z2, Zf, Zi, Nat.reduceAdd, Nat.reduceMul, Nat.reduceLeDiff, Z11, Z12, Z1y, Z1h, Z2c, Z23, Z28, Z27, Z26, Z25, Z24, Z1m, Z1l, Z1k, Z1j, Z1i, Z1w, Z1v, Z1u, Z1t, Z1s, Z32, Z2y, Z2q, Z2r, Z2s, Z20, Z1q, Z1r, Z2z, Z2t, Z21, Z22, splice, Za, Z9, Z1, Z0, Z19, Zt, Zs, Z18, newB, vcs, Z30, Z2v, Z1x, Z29, Z1n, Z2u, Z1o, Z1f, Z1p, Z1d, Z1e, Ty.ld3, Ty.sz3, Ty.zc3, Ty.by3, Ty.ld24, Ty.sz24, Ty.sl24, Ty.zc24, Ty.by24, Ty.ld56, Ty.sz56, Ty.sl56, Ty.zc56, Ty.by56, Ty.ld58, Ty.sz58, Ty.zc58, Ty.by58, Ty.fl58_0, Ty.fl58_1, Ty.fl58_2, Ty.ld77, Ty.sz77, Ty.zc77, Ty.by77, Ty.fl77_0, Ty.fl77_1, Ty.fl77_2, Ty.fl77_3, Ty.fl77_4, Ty.fl77_5, *]; rfl)
      | (with_reducible refine aw_then ?_) | (with_reducible refine aw_skip ?_) | (with_reducible refine aw_ret ?_) | (with_reducible refine aw_exit ?_) | (with_reducible refine aw_block ?_) | (with_reducible refine xr_reg (by decide +kernel) ?_)
      | (with_reducible refine xr_nil ?_) | (with_reducible refine k_norm ?_) | (with_reducible refine k_ret ?_) | (with_reducible refine k_exit ?_) | (with_reducible refine b_norm ?_) | (with_reducible refine b_ret ?_) | (with_reducible refine b_exit ?_) | (with_reducible refine b_past (by decide) ?_)
      | (with_reducible refine xd_nil ?_)
      | (refine xr_do (v := ?_) (h' := ?_) (by exact rfl) ?_ ?_; rotate_left 2)
      | (refine xr_st (v := ?_) (h' := ?_) (by exact rfl) ?_ ?_; rotate_left 2)
      | (refine xd_reg (ms := [0, 1, 0, 0, 8, 0, 0, 64, 0, 7, 519, 1543, 3647, 7743, 15935, 32767, 65535, 131071]) Ty.mx (by decide +kernel) (by decide +kernel) ?_)
      | (refine xd_do (v := ?_) (by exact rfl) (by decide +kernel) ?_ ?_; rotate_left 1)
      | (refine xd_gdo (v := ?_) (by exact rfl) (by decide +kernel) (by exact rfl) ?_ ?_ ?_
         rotate_left 1
         · simp only [ev, Zb, reduceIte, Nat.reduceEqDiff, Z8, Z5, *])
      | (refine xd_goff (by exact rfl) ?_ ?_
         · simp only [ev, Zb, reduceIte, Nat.reduceEqDiff, Z8, Z5, *])
      | (refine xd_gund (by exact rfl) ?_ ?_
         · simp only [ev, Zb, reduceIte, Nat.reduceEqDiff, Z8, Z5, *])
      | (refine xd_gif (b := ?_) (by exact rfl) ?_ (fun hb => ?_) (fun hb => ?_)
         rotate_left 1
         · simp only [ev, Zb, reduceIte, Nat.reduceEqDiff, Z8, Z5, *]; rfl)
      | (refine xr_gdo (v := ?_) (h' := ?_) (by exact rfl) (by exact rfl) ?_ ?_ ?_
         rotate_left 2
         · simp only [ev, Zb, reduceIte, Nat.reduceEqDiff, Z8, Z5, *])
      | (refine xr_gst (v := ?_) (h' := ?_) (by exact rfl) (by exact rfl) ?_ ?_ ?_
         rotate_left 2
         · simp only [ev, Zb, reduceIte, Nat.reduceEqDiff, Z8, Z5, *])
      | (refine xr_goff (by exact rfl) ?_ ?_
         · simp only [ev, Zb, reduceIte, Nat.reduceEqDiff, Z8, Z5, *])
      | (refine xr_gsoff (by exact rfl) ?_ ?_
         · simp only [ev, Zb, reduceIte, Nat.reduceEqDiff, Z8, Z5, *])
      | (refine xr_gund (by exact rfl) ?_ ?_
         · simp only [ev, Zb, reduceIte, Nat.reduceEqDiff, Z8, Z5, *])
      | (refine xr_gsund (by exact rfl) ?_ ?_
         · simp only [ev, Zb, reduceIte, Nat.reduceEqDiff, Z8, Z5, *])
      | (refine xr_gif (b := ?_) (by exact rfl) ?_ (fun hb => ?_) (fun hb => ?_)
         rotate_left 1
         · simp only [ev, Zb, reduceIte, Nat.reduceEqDiff, Z8, Z5, *]; rfl)
      | (refine aw_ift (by decide) ?_ ?_
         · simp only [ev, Zb, reduceIte, Nat.reduceEqDiff, *])
      | (refine aw_iff (by decide) ?_ ?_
         · simp only [ev, Zb, reduceIte, Nat.reduceEqDiff, *])
      | (refine aw_if (b := ?_) (by decide) ?_ (fun hb => ?_) (fun hb => ?_)
         rotate_left 1
         · simp only [ev, Zb, reduceIte, Nat.reduceEqDiff, *]; rfl)
      | (refine r_ret (vs := ?_) ?_ ?_
         rotate_left 1
         · simp only [resV, oneOf, stp, ev, Zb, Z2e, Z1z, Zk, Zl, reduceIte, Nat.reduceEqDiff, Zj, Zz, Zu, Z16, Z1a, Zm, Zp, Zo, Zd, Zx, Z2b, Z2x, Z1g, Z17, Zq, Zn, Zv, Z2p, Z2f, Z2o, Z2d, Z2g, Z1c, Z1b, Z2i, Z2n, Z2h, Z2j, Z2k, Z2l, Z2m, Z31, Z8, Z5, Z13, Zy, ldv, stv, vcs, fldA, idxA, blt, lenV, Z10, Z3, Z2, Zf, Zg, Ze, Z1, Z0, Z14, Zw, Zh, Zr, Z33, Z15, Z7, Zc, Z6, Z3, Z2, Zf, Zi, Nat.reduceAdd, Nat.reduceMul, Nat.reduceLeDiff, Z11, Z12, Z1y, Z1h, Z2c, Z23, Z28, Z27, Z26, Z25, Z24, Z1m, Z1l, Z1k, Z1j, Z1i, Z1w, Z1v, Z1u, Z1t, Z1s, Z32, Z2y, Z2q, Z2r, Z2s, Z20, Z1q, Z1r, Z2z, Z2t, Z21, Z22, splice, Za, Z9, Z1, Z0, Z19, Zt, Zs, Z18, newB, vcs, Z30, Z2v, Z1x, Z29, Z1n, Z2u, Z1o, Z1f, Z1p, Z1d, Z1e, Ty.ld3, Ty.sz3, Ty.zc3, Ty.by3, Ty.ld24, Ty.sz24, Ty.sl24, Ty.zc24, Ty.by24, Ty.ld56, Ty.sz56, Ty.sl56, Ty.zc56, Ty.by56, Ty.ld58, Ty.sz58, Ty.zc58, Ty.by58, Ty.fl58_0, Ty.fl58_1, Ty.fl58_2, Ty.ld77, Ty.sz77, Ty.zc77, Ty.by77, Ty.fl77_0, Ty.fl77_1, Ty.fl77_2, Ty.fl77_3, Ty.fl77_4, Ty.fl77_5, *]; rfl)
      )
    exact ⟨_, rfl, rfl⟩
  · simp only [if_neg hq]
    refine Z36 Try.func126 rfl Try.ntmps126 (by simp) (by dsimp only [Try.f126]) ?_
    repeat' (first
      | ((with_reducible refine eq_go ?_); simp only [stp, ev, Zb, Z2e, Z1z, Zk, Zl, reduceIte, Nat.reduceEqDiff, Zj, Zz, Zu, Z16, Z1a, Zm, Zp, Zo, Zd, Zx, Z2b, Z2x, Z1g, Z17, Zq, Zn, Zv, Z2p, Z2f, Z2o, Z2d, Z2g, Z1c, Z1b, Z2i, Z2n, Z2h, Z2j, Z2k, Z2l, Z2m, Z31, Z8, Z5, Z13, Zy, ldv, stv, vcs, fldA, idxA, blt, lenV, Z10, Z3, Z2, Zf, Zg, Ze, Z1, Z0, Z14, Zw, Zh, Zr, Z33, Z15, Z7, Zc, Z6, Z3, Z2, Zf, Zi, Nat.reduceAdd, Nat.reduceMul, Nat.reduceLeDiff, Z11, Z12, Z1y, Z1h, Z2c, Z23, Z28, Z27, Z26, Z25, Z24, Z1m, Z1l, Z1k, Z1j, Z1i, Z1w, Z1v, Z1u, Z1t, Z1s, Z32, Z2y, Z2q, Z2r, Z2s, Z20, Z1q, Z1r, Z2z, Z2t, Z21, Z22, splice, Za, Z9, Z1, Z0, Z19, Zt, Zs, Z18, newB, vcs, Z30, Z2v, Z1x, Z29, Z1n, Z2u, Z1o, Z1f, Z1p, Z1d, Z1e, Ty.ld3, Ty.sz3, Ty.zc3, Ty.by3, Ty.ld24, Ty.sz24, Ty.sl24, Ty.zc24, Ty.by24, Ty.ld56, Ty.sz56, Ty.sl56, Ty.zc56, Ty.by56, Ty.ld58, Ty.sz58, Ty.zc58, Ty.by58, Ty.fl58_0, Ty.fl58_1, Ty.fl58_2, Ty.ld77, Ty.sz77, Ty.zc77, Ty.by77, Ty.fl77_0, Ty.fl77_1, Ty.fl77_2, Ty.fl77_3, Ty.fl77_4, Ty.fl77_5, *]; rfl)
      | (with_reducible refine aw_then ?_) | (with_reducible refine aw_skip ?_) | (with_reducible refine aw_ret ?_) | (with_reducible refine aw_exit ?_) | (with_reducible refine aw_block ?_) | (with_reducible refine xr_reg (by decide +kernel) ?_)
      | (with_reducible refine xr_nil ?_) | (with_reducible refine k_norm ?_) | (with_reducible refine k_ret ?_) | (with_reducible refine k_exit ?_) | (with_reducible refine b_norm ?_) | (with_reducible refine b_ret ?_) | (with_reducible refine b_exit ?_) | (with_reducible refine b_past (by decide) ?_)
      | (with_reducible refine xd_nil ?_)
      | (refine xr_do (v := ?_) (h' := ?_) (by exact rfl) ?_ ?_; rotate_left 2)
      | (refine xr_st (v := ?_) (h' := ?_) (by exact rfl) ?_ ?_; rotate_left 2)
      | (refine xd_reg (ms := [0, 1, 0, 0, 8, 0, 0, 64, 0, 7, 519, 1543, 3647, 7743, 15935, 32767, 65535, 131071]) Ty.mx (by decide +kernel) (by decide +kernel) ?_)
      | (refine xd_do (v := ?_) (by exact rfl) (by decide +kernel) ?_ ?_; rotate_left 1)
      | (refine xd_gdo (v := ?_) (by exact rfl) (by decide +kernel) (by exact rfl) ?_ ?_ ?_
         rotate_left 1
         · simp only [ev, Zb, reduceIte, Nat.reduceEqDiff, Z8, Z5, *])
      | (refine xd_goff (by exact rfl) ?_ ?_
         · simp only [ev, Zb, reduceIte, Nat.reduceEqDiff, Z8, Z5, *])
      | (refine xd_gund (by exact rfl) ?_ ?_
         · simp only [ev, Zb, reduceIte, Nat.reduceEqDiff, Z8, Z5, *])
      | (refine xd_gif (b := ?_) (by exact rfl) ?_ (fun hb => ?_) (fun hb => ?_)
         rotate_left 1
         · simp only [ev, Zb, reduceIte, Nat.reduceEqDiff, Z8, Z5, *]; rfl)
      | (refine xr_gdo (v := ?_) (h' := ?_) (by exact rfl) (by exact rfl) ?_ ?_ ?_
         rotate_left 2
         · simp only [ev, Zb, reduceIte, Nat.reduceEqDiff, Z8, Z5, *])
      | (refine xr_gst (v := ?_) (h' := ?_) (by exact rfl) (by exact rfl) ?_ ?_ ?_
         rotate_left 2
         · simp only [ev, Zb, reduceIte, Nat.reduceEqDiff, Z8, Z5, *])
      | (refine xr_goff (by exact rfl) ?_ ?_
         · simp only [ev, Zb, reduceIte, Nat.reduceEqDiff, Z8, Z5, *])
      | (refine xr_gsoff (by exact rfl) ?_ ?_
         · simp only [ev, Zb, reduceIte, Nat.reduceEqDiff, Z8, Z5, *])
      | (refine xr_gund (by exact rfl) ?_ ?_
         · simp only [ev, Zb, reduceIte, Nat.reduceEqDiff, Z8, Z5, *])
      | (refine xr_gsund (by exact rfl) ?_ ?_
         · simp only [ev, Zb, reduceIte, Nat.reduceEqDiff, Z8, Z5, *])
      | (refine xr_gif (b := ?_) (by exact rfl) ?_ (fun hb => ?_) (fun hb => ?_)
         rotate_left 1
         · simp only [ev, Zb, reduceIte, Nat.reduceEqDiff, Z8, Z5, *]; rfl)
      | (refine aw_ift (by decide) ?_ ?_
         · simp only [ev, Zb, reduceIte, Nat.reduceEqDiff, *])
      | (refine aw_iff (by decide) ?_ ?_
         · simp only [ev, Zb, reduceIte, Nat.reduceEqDiff, *])
      | (refine aw_if (b := ?_) (by decide) ?_ (fun hb => ?_) (fun hb => ?_)
         rotate_left 1
         · simp only [ev, Zb, reduceIte, Nat.reduceEqDiff, *]; rfl)
      | (refine r_ret (vs := ?_) ?_ ?_
         rotate_left 1
         · simp only [resV, oneOf, stp, ev, Zb, Z2e, Z1z, Zk, Zl, reduceIte, Nat.reduceEqDiff, Zj, Zz, Zu, Z16, Z1a, Zm, Zp, Zo, Zd, Zx, Z2b, Z2x, Z1g, Z17, Zq, Zn, Zv, Z2p, Z2f, Z2o, Z2d, Z2g, Z1c, Z1b, Z2i, Z2n, Z2h, Z2j, Z2k, Z2l, Z2m, Z31, Z8, Z5, Z13, Zy, ldv, stv, vcs, fldA, idxA, blt, lenV, Z10, Z3, Z2, Zf, Zg, Ze, Z1, Z0, Z14, Zw, Zh, Zr, Z33, Z15, Z7, Zc, Z6, Z3, Z2, Zf, Zi, Nat.reduceAdd, Nat.reduceMul, Nat.reduceLeDiff, Z11, Z12, Z1y, Z1h, Z2c, Z23, Z28, Z27, Z26, Z25, Z24, Z1m, Z1l, Z1k, Z1j, Z1i, Z1w, Z1v, Z1u, Z1t, Z1s, Z32, Z2y, Z2q, Z2r, Z2s, Z20, Z1q, Z1r, Z2z, Z2t, Z21, Z22, splice, Za, Z9, Z1, Z0, Z19, Zt, Zs, Z18, newB, vcs, Z30, Z2v, Z1x, Z29, Z1n, Z2u, Z1o, Z1f, Z1p, Z1d, Z1e, Ty.ld3, Ty.sz3, Ty.zc3, Ty.by3, Ty.ld24, Ty.sz24, Ty.sl24, Ty.zc24, Ty.by24, Ty.ld56, Ty.sz56, Ty.sl56, Ty.zc56, Ty.by56, Ty.ld58, Ty.sz58, Ty.zc58, Ty.by58, Ty.fl58_0, Ty.fl58_1, Ty.fl58_2, Ty.ld77, Ty.sz77, Ty.zc77, Ty.by77, Ty.fl77_0, Ty.fl77_1, Ty.fl77_2, Ty.fl77_3, Ty.fl77_4, Ty.fl77_5, *]; rfl)
      )
    refine aw_for [0, 1, 2, 4, 5, 20, 21] (fun k T h' => ∃ X, h' = h ++ ⟨2, 6, cellsL (tickK (now + many) items k)⟩ :: (L ++ ⟨2, 1, [.int .i64 (now + many), vp, .slice (some ⟨h.length, 0, sp⟩) items.length c]⟩ :: ⟨2, 1, [.int .i64 0, .slice none 0 0, .slice none 0 0]⟩ :: X) ∧ T 22 = .int .i64 (k : Nat))
      items.length (k0 := 0) (Nat.zero_le _) ⟨[], ?_, rfl⟩ ?_
    · rw [tickK_zero]
    rintro k T h' hk hR ⟨X, rfl, h22⟩
    simp only [Z37, Z38, Z39, implies_true, and_true, stp, ev, Zb, Z2e, Z1z, Zk, Zl, reduceIte, Nat.reduceEqDiff, Zj, Zz, Zu, Z16, Z1a, Zm, Zp, Zo, Zd, Zx, Z2b, Z2x, Z1g, Z17, Zq, Zn, Zv, Z2p, Z2f, Z2o, Z2d, Z2g, Z1c, Z1b, Z2i, Z2n, Z2h, Z2j, Z2k, Z2l, Z2m, Z31, Z8, Z5, Z13, Zy] at hR
    rcases Nat.lt_or_ge k items.length with hkn | hkn
    · have h1 : (k : Int) < items.length := by omega
      obtain ⟨pre, post, hpl, e1, e2⟩ := tickK_mid (now + many) hkn
      generalize hx : items[k] = x at e1 e2
      rw [e1]
      replace hpl := hpl.symm
      obtain ⟨xc, xt, xr, xs, xw, xl⟩ := x
      simp only [tickI, Item.cells, Zc, Zd] at e2 ⊢
      clear e1 hx
      by_cases hcd : xs = 2 ∧ xl ≤ now + many
      · simp only [if_pos hcd] at e2
        have d1 : decide (xs = 2) = true := decide_eq_true hcd.1
        have d2 : decide (xl ≤ now + many) = true := decide_eq_true hcd.2
        clear hcd
        repeat' (first
          | ((with_reducible refine eq_go ?_); simp only [stp, ev, Zb, Z2e, Z1z, Zk, Zl, reduceIte, Nat.reduceEqDiff, Zj, Zz, Zu, Z16, Z1a, Zm, Zp, Zo, Zd, Zx, Z2b, Z2x, Z1g, Z17, Zq, Zn, Zv, Z2p, Z2f, Z2o, Z2d, Z2g, Z1c, Z1b, Z2i, Z2n, Z2h, Z2j, Z2k, Z2l, Z2m, Z31, Z8, Z5, Z13, Zy, ldv, stv, vcs, fldA, idxA, blt, lenV, Z10, Z3, Z2, Zf, Zg, Ze, Z1, Z0, Z14, Zw, Zh, Zr, Z33, Z15, Z7, Zc, Z6, Z3, Z2, Zf, Zi, Nat.reduceAdd, Nat.reduceMul, Nat.reduceLeDiff, Z11, Z12, Z1y, Z1h, Z2c, Z23, Z28, Z27, Z26, Z25, Z24, Z1m, Z1l, Z1k, Z1j, Z1i, Z1w, Z1v, Z1u, Z1t, Z1s, Z32, Z2y, Z2q, Z2r, Z2s, Z20, Z1q, Z1r, Z2z, Z2t, Z21, Z22, splice, Za, Z9, Z1, Z0, Z19, Zt, Zs, Z18, newB, vcs, Z30, Z2v, Z1x, Z29, Z1n, Z2u, Z1o, Z1f, Z1p, Z1d, Z1e, Ty.ld3, Ty.sz3, Ty.zc3, Ty.by3, Ty.ld24, Ty.sz24, Ty.sl24, Ty.zc24, Ty.by24, Ty.ld56, Ty.sz56, Ty.sl56, Ty.zc56, Ty.by56, Ty.ld58, Ty.sz58, Ty.zc58, Ty.by58, Ty.fl58_0, Ty.fl58_1, Ty.fl58_2, Ty.ld77, Ty.sz77, Ty.zc77, Ty.by77, Ty.fl77_0, Ty.fl77_1, Ty.fl77_2, Ty.fl77_3, Ty.fl77_4, Ty.fl77_5, get_mid, get_mid0, splice_pre, splice_pre0, set_mid, drop_mid, Nat.add_le_add_iff_left, Nat.le_add_left, *]; rfl)
          | (with_reducible refine aw_then ?_) | (with_reducible refine aw_skip ?_) | (with_reducible refine aw_ret ?_) | (with_reducible refine aw_exit ?_) | (with_reducible refine aw_block ?_) | (with_reducible refine xr_reg (by decide +kernel) ?_)
          | (with_reducible refine xr_nil ?_) | (with_reducible refine k_norm ?_) | (with_reducible refine k_ret ?_) | (with_reducible refine k_exit ?_) | (with_reducible refine b_norm ?_) | (with_reducible refine b_ret ?_) | (with_reducible refine b_exit ?_) | (with_reducible refine b_past (by decide) ?_)
          | (with_reducible refine xd_nil ?_)
          | (refine xr_do (v := ?_) (h' := ?_) (by exact rfl) ?_ ?_; rotate_left 2)
          | (refine xr_st (v := ?_) (h' := ?_) (by exact rfl) ?_ ?_; rotate_left 2)
          | (refine xe_reg (ms := [0, 1, 0, 0, 8, 0, 0, 64, 0, 7, 519, 1543, 3647, 7743, 15935, 32767, 65535, 131071]) Ty.mx (by decide +kernel) (by decide +kernel) [[],[],[],[],[],[],[],[],[],[],[],[h.length],[],[],[h.length],[],[],[h.length]] ?_)
          | (with_reducible refine xe_nil ?_)
          | (refine xe_do (v := ?_) (ids := []) (by exact rfl) (by decide +kernel) (by exact rfl) (by exact rfl) ?_ ?_; rotate_left 1)
          | (refine xe_st (v := ?_) (a := ?_) (h' := ?_) (ids := []) (by decide +kernel) (by exact rfl) ?_ ?_ ?_ ?_ ?_
             rotate_left 3
             · simp only [stp, ev, Zb, Z2e, Z1z, Zk, Zl, reduceIte, Nat.reduceEqDiff, Zj, Zz, Zu, Z16, Z1a, Zm, Zp, Zo, Zd, Zx, Z2b, Z2x, Z1g, Z17, Zq, Zn, Zv, Z2p, Z2f, Z2o, Z2d, Z2g, Z1c, Z1b, Z2i, Z2n, Z2h, Z2j, Z2k, Z2l, Z2m, Z31, Z8, Z5, Z13, Zy, ldv, stv, vcs, fldA, idxA, blt, lenV, Z10, Z3, Z2, Zf, Zg, Ze, Z1, Z0, Z14, Zw, Zh, Zr, Z33, Z15, Z7, Zc, Z6, Z3, Z2, Zf, Zi, Nat.reduceAdd, Nat.reduceMul, Nat.reduceLeDiff, Z11, Z12, Z1y, Z1h, Z2c, Z23, Z28, Z27, Z26, Z25, Z24, Z1m, Z1l, Z1k, Z1j, Z1i, Z1w, Z1v, Z1u, Z1t, Z1s, Z32, Z2y, Z2q, Z2r, Z2s, Z20, Z1q, Z1r, Z2z, Z2t, Z21, Z22, splice, Za, Z9, Z1, Z0, Z19, Zt, Zs, Z18, newB, vcs, Z30, Z2v, Z1x, Z29, Z1n, Z2u, Z1o, Z1f, Z1p, Z1d, Z1e, Ty.ld3, Ty.sz3, Ty.zc3, Ty.by3, Ty.ld24, Ty.sz24, Ty.sl24, Ty.zc24, Ty.by24, Ty.ld56, Ty.sz56, Ty.sl56, Ty.zc56, Ty.by56, Ty.ld58, Ty.sz58, Ty.zc58, Ty.by58, Ty.fl58_0, Ty.fl58_1, Ty.fl58_2, Ty.ld77, Ty.sz77, Ty.zc77, Ty.by77, Ty.fl77_0, Ty.fl77_1, Ty.fl77_2, Ty.fl77_3, Ty.fl77_4, Ty.fl77_5, get_mid, get_mid0, splice_pre, splice_pre0, set_mid, drop_mid, Nat.add_le_add_iff_left, Nat.le_add_left, *]; rfl
             · exact rfl
             · simp
             skip)
          | (refine xe_do (v := ?_) (ids := [h.length]) (by exact rfl) (by decide +kernel) (by exact rfl) (by exact rfl) ?_ ?_; rotate_left 1)
          | (refine xe_st (v := ?_) (a := ?_) (h' := ?_) (ids := [h.length]) (by decide +kernel) (by exact rfl) ?_ ?_ ?_ ?_ ?_
             rotate_left 3
             · simp only [stp, ev, Zb, Z2e, Z1z, Zk, Zl, reduceIte, Nat.reduceEqDiff, Zj, Zz, Zu, Z16, Z1a, Zm, Zp, Zo, Zd, Zx, Z2b, Z2x, Z1g, Z17, Zq, Zn, Zv, Z2p, Z2f, Z2o, Z2d, Z2g, Z1c, Z1b, Z2i, Z2n, Z2h, Z2j, Z2k, Z2l, Z2m, Z31, Z8, Z5, Z13, Zy, ldv, stv, vcs, fldA, idxA, blt, lenV, Z10, Z3, Z2, Zf, Zg, Ze, Z1, Z0, Z14, Zw, Zh, Zr, Z33, Z15, Z7, Zc, Z6, Z3, Z2, Zf, Zi, Nat.reduceAdd, Nat.reduceMul, Nat.reduceLeDiff, Z11, Z12, Z1y, Z1h, Z2c, Z23, Z28, Z27, Z26, Z25, Z24, Z1m, Z1l, Z1k, Z1j, Z1i, Z1w, Z1v, Z1u, Z1t, Z1s, Z32, Z2y, Z2q, Z2r, Z2s, Z20, Z1q, Z1r, Z2z, Z2t, Z21, Z22, splice, Za, Z9, Z1, Z0, Z19, Zt, Zs, Z18, newB, vcs, Z30, Z2v, Z1x, Z29, Z1n, Z2u, Z1o, Z1f, Z1p, Z1d, Z1e, Ty.ld3, Ty.sz3, Ty.zc3, Ty.by3, Ty.ld24, Ty.sz24, Ty.sl24, Ty.zc24, Ty.by24, Ty.ld56, Ty.sz56, Ty.sl56, Ty.zc56, Ty.by56, Ty.ld58, Ty.sz58, Ty.zc58, Ty.by58, Ty.fl58_0, Ty.fl58_1, Ty.fl58_2, Ty.ld77, Ty.sz77, Ty.zc77, Ty.by77, Ty.fl77_0, Ty.fl77_1, Ty.fl77_2, Ty.fl77_3, Ty.fl77_4, Ty.fl77_5, get_mid, get_mid0, splice_pre, splice_pre0, set_mid, drop_mid, Nat.add_le_add_iff_left, Nat.le_add_left, *]; rfl
             · exact rfl
             · simp
             skip)
          | (refine xe_do (v := ?_) (ids := [h.length, h.length]) (by exact rfl) (by decide +kernel) (by exact rfl) (by exact rfl) ?_ ?_; rotate_left 1)
          | (refine xe_st (v := ?_) (a := ?_) (h' := ?_) (ids := [h.length, h.length]) (by decide +kernel) (by exact rfl) ?_ ?_ ?_ ?_ ?_
             rotate_left 3
             · simp only [stp, ev, Zb, Z2e, Z1z, Zk, Zl, reduceIte, Nat.reduceEqDiff, Zj, Zz, Zu, Z16, Z1a, Zm, Zp, Zo, Zd, Zx, Z2b, Z2x, Z1g, Z17, Zq, Zn, Zv, Z2p, Z2f, Z2o, Z2d, Z2g, Z1c, Z1b, Z2i, Z2n, Z2h, Z2j, Z2k, Z2l, Z2m, Z31, Z8, Z5, Z13, Zy, ldv, stv, vcs, fldA, idxA, blt, lenV, Z10, Z3, Z2, Zf, Zg, Ze, Z1, Z0, Z14, Zw, Zh, Zr, Z33, Z15, Z7, Zc, Z6, Z3, Z2, Zf, Zi, Nat.reduceAdd, Nat.reduceMul, Nat.reduceLeDiff, Z11, Z12, Z1y, Z1h, Z2c, Z23, Z28, Z27, Z26, Z25, Z24, Z1m, Z1l, Z1k, Z1j, Z1i, Z1w, Z1v, Z1u, Z1t, Z1s, Z32, Z2y, Z2q, Z2r, Z2s, Z20, Z1q, Z1r, Z2z, Z2t, Z21, Z22, splice, Za, Z9, Z1, Z0, Z19, Zt, Zs, Z18, newB, vcs, Z30, Z2v, Z1x, Z29, Z1n, Z2u, Z1o, Z1f, Z1p, Z1d, Z1e, Ty.ld3, Ty.sz3, Ty.zc3, Ty.by3, Ty.ld24, Ty.sz24, Ty.sl24, Ty.zc24, Ty.by24, Ty.ld56, Ty.sz56, Ty.sl56, Ty.zc56, Ty.by56, Ty.ld58, Ty.sz58, Ty.zc58, Ty.by58, Ty.fl58_0, Ty.fl58_1, Ty.fl58_2, Ty.ld77, Ty.sz77, Ty.zc77, Ty.by77, Ty.fl77_0, Ty.fl77_1, Ty.fl77_2, Ty.fl77_3, Ty.fl77_4, Ty.fl77_5, get_mid, get_mid0, splice_pre, splice_pre0, set_mid, drop_mid, Nat.add_le_add_iff_left, Nat.le_add_left, *]; rfl
             · exact rfl
             · simp
             skip)
          | (refine xe_alloc (z := ?_) ?_ ?_ (by exact rfl) ?_
             rotate_left 1
             · first | exact Ty.zc3 | exact Ty.zc56 | exact Ty.zc58 | exact Ty.zc77
             · decide)
          | (refine xd_do (v := ?_) (by exact rfl) (by decide +kernel) ?_ ?_; rotate_left 1)
          | (refine xd_gdo (v := ?_) (by exact rfl) (by decide +kernel) (by exact rfl) ?_ ?_ ?_
             rotate_left 1
             · simp only [ev, Zb, reduceIte, Nat.reduceEqDiff, Z8, Z5, *])
          | (refine xd_goff (by exact rfl) ?_ ?_
             · simp only [ev, Zb, reduceIte, Nat.reduceEqDiff, Z8, Z5, *])
          | (refine xd_gund (by exact rfl) ?_ ?_
             · simp only [ev, Zb, reduceIte, Nat.reduceEqDiff, Z8, Z5, *])
          | (refine xd_gif (b := ?_) (by exact rfl) ?_ (fun hb => ?_) (fun hb => ?_)
             rotate_left 1
             · simp only [ev, Zb, reduceIte, Nat.reduceEqDiff, Z8, Z5, *]; rfl)
          | (refine xr_gdo (v := ?_) (h' := ?_) (by exact rfl) (by exact rfl) ?_ ?_ ?_
             rotate_left 2
             · simp only [ev, Zb, reduceIte, Nat.reduceEqDiff, Z8, Z5, *])
          | (refine xr_gst (v := ?_) (h' := ?_) (by exact rfl) (by exact rfl) ?_ ?_ ?_
             rotate_left 2
             · simp only [ev, Zb, reduceIte, Nat.reduceEqDiff, Z8, Z5, *])
          | (refine xr_goff (by exact rfl) ?_ ?_
             · simp only [ev, Zb, reduceIte, Nat.reduceEqDiff, Z8, Z5, *])
          | (refine xr_gsoff (by exact rfl) ?_ ?_
             · simp only [ev, Zb, reduceIte, Nat.reduceEqDiff, Z8, Z5, *])
          | (refine xr_gund (by exact rfl) ?_ ?_
             · simp only [ev, Zb, reduceIte, Nat.reduceEqDiff, Z8, Z5, *])
          | (refine xr_gsund (by exact rfl) ?_ ?_
             · simp only [ev, Zb, reduceIte, Nat.reduceEqDiff, Z8, Z5, *])
          | (refine xr_gif (b := ?_) (by exact rfl) ?_ (fun hb => ?_) (fun hb => ?_)
             rotate_left 1
             · simp only [ev, Zb, reduceIte, Nat.reduceEqDiff, Z8, Z5, *]; rfl)
          | (refine aw_ift (by decide) ?_ ?_
             · simp only [ev, Zb, reduceIte, Nat.reduceEqDiff, *])
          | (refine aw_iff (by decide) ?_ ?_
             · simp only [ev, Zb, reduceIte, Nat.reduceEqDiff, *])
          | (refine aw_if (b := ?_) (by decide) ?_ (fun hb => ?_) (fun hb => ?_)
             rotate_left 1
             · simp only [ev, Zb, reduceIte, Nat.reduceEqDiff, *]; rfl)
          | (refine r_ret (vs := ?_) ?_ ?_
             rotate_left 1
             · simp only [resV, oneOf, stp, ev, Zb, Z2e, Z1z, Zk, Zl, reduceIte, Nat.reduceEqDiff, Zj, Zz, Zu, Z16, Z1a, Zm, Zp, Zo, Zd, Zx, Z2b, Z2x, Z1g, Z17, Zq, Zn, Zv, Z2p, Z2f, Z2o, Z2d, Z2g, Z1c, Z1b, Z2i, Z2n, Z2h, Z2j, Z2k, Z2l, Z2m, Z31, Z8, Z5, Z13, Zy, ldv, stv, vcs, fldA, idxA, blt, lenV, Z10, Z3, Z2, Zf, Zg, Ze, Z1, Z0, Z14, Zw, Zh, Zr, Z33, Z15, Z7, Zc, Z6, Z3, Z2, Zf, Zi, Nat.reduceAdd, Nat.reduceMul, Nat.reduceLeDiff, Z11, Z12, Z1y, Z1h, Z2c, Z23, Z28, Z27, Z26, Z25, Z24, Z1m, Z1l, Z1k, Z1j, Z1i, Z1w, Z1v, Z1u, Z1t, Z1s, Z32, Z2y, Z2q, Z2r, Z2s, Z20, Z1q, Z1r, Z2z, Z2t, Z21, Z22, splice, Za, Z9, Z1, Z0, Z19, Zt, Zs, Z18, newB, vcs, Z30, Z2v, Z1x, Z29, Z1n, Z2u, Z1o, Z1f, Z1p, Z1d, Z1e, Ty.ld3, Ty.sz3, Ty.zc3, Ty.by3, Ty.ld24, Ty.sz24, Ty.sl24, Ty.zc24, Ty.by24, Ty.ld56, Ty.sz56, Ty.sl56, Ty.zc56, Ty.by56, Ty.ld58, Ty.sz58, Ty.zc58, Ty.by58, Ty.fl58_0, Ty.fl58_1, Ty.fl58_2, Ty.ld77, Ty.sz77, Ty.zc77, Ty.by77, Ty.fl77_0, Ty.fl77_1, Ty.fl77_2, Ty.fl77_3, Ty.fl77_4, Ty.fl77_5, get_mid, get_mid0, splice_pre, splice_pre0, set_mid, drop_mid, Nat.add_le_add_iff_left, Nat.le_add_left, *]; rfl)
          )
        refine ⟨by first | assumption | omega, ?_, ?_⟩
        · simp only [Z37, Z38, Z39, implies_true, and_true, Z2b, stp, ev, Zb, Z2e, Z1z, Zk, Zl, reduceIte, Nat.reduceEqDiff, Zj, Zz, Zu, Z16, Z1a, Zm, Zp, Zo, Zd, Zx, Z2b, Z2x, Z1g, Z17, Zq, Zn, Zv, Z2p, Z2f, Z2o, Z2d, Z2g, Z1c, Z1b, Z2i, Z2n, Z2h, Z2j, Z2k, Z2l, Z2m, Z31, Z8, Z5, Z13, Zy, *]
        refine ⟨_, by rw [e2], ?_⟩
        simp only [Zb, reduceIte, Nat.reduceEqDiff]
        rw [wrap_id (by omega)]; rfl
      · simp only [if_neg hcd] at e2
        rcases Bool.eq_false_or_eq_true (decide (xs = 2)) with d1 | d1
        · have d2 : decide (xl ≤ now + many) = false := decide_eq_false fun q => hcd ⟨of_decide_eq_true d1, q⟩
          clear hcd
          repeat' (first
            | ((with_reducible refine eq_go ?_); simp only [stp, ev, Zb, Z2e, Z1z, Zk, Zl, reduceIte, Nat.reduceEqDiff, Zj, Zz, Zu, Z16, Z1a, Zm, Zp, Zo, Zd, Zx, Z2b, Z2x, Z1g, Z17, Zq, Zn, Zv, Z2p, Z2f, Z2o, Z2d, Z2g, Z1c, Z1b, Z2i, Z2n, Z2h, Z2j, Z2k, Z2l, Z2m, Z31, Z8, Z5, Z13, Zy, ldv, stv, vcs, fldA, idxA, blt, lenV, Z10, Z3, Z2, Zf, Zg, Ze, Z1, Z0, Z14, Zw, Zh, Zr, Z33, Z15, Z7, Zc, Z6, Z3, Z2, Zf, Zi, Nat.reduceAdd, Nat.reduceMul, Nat.reduceLeDiff, Z11, Z12, Z1y, Z1h, Z2c, Z23, Z28, Z27, Z26, Z25, Z24, Z1m, Z1l, Z1k, Z1j, Z1i, Z1w, Z1v, Z1u, Z1t, Z1s, Z32, Z2y, Z2q, Z2r, Z2s, Z20, Z1q, Z1r, Z2z, Z2t, Z21, Z22, splice, Za, Z9, Z1, Z0, Z19, Zt, Zs, Z18, newB, vcs, Z30, Z2v, Z1x, Z29, Z1n, Z2u, Z1o, Z1f, Z1p, Z1d, Z1e, Ty.ld3, Ty.sz3, Ty.zc3, Ty.by3, Ty.ld24, Ty.sz24, Ty.sl24, Ty.zc24, Ty.by24, Ty.ld56, Ty.sz56, Ty.sl56, Ty.zc56, Ty.by56, Ty.ld58, Ty.sz58, Ty.zc58, Ty.by58, Ty.fl58_0, Ty.fl58_1, Ty.fl58_2, Ty.ld77, Ty.sz77, Ty.zc77, Ty.by77, Ty.fl77_0, Ty.fl77_1, Ty.fl77_2, Ty.fl77_3, Ty.fl77_4, Ty.fl77_5, get_mid, get_mid0, splice_pre, splice_pre0, set_mid, drop_mid, Nat.add_le_add_iff_left, Nat.le_add_left, *]; rfl)
            | (with_reducible refine aw_then ?_) | (with_reducible refine aw_skip ?_) | (with_reducible refine aw_ret ?_) | (with_reducible refine aw_exit ?_) | (with_reducible refine aw_block ?_) | (with_reducible refine xr_reg (by decide +kernel) ?_)
            | (with_reducible refine xr_nil ?_) | (with_reducible refine k_norm ?_) | (with_reducible refine k_ret ?_) | (with_reducible refine k_exit ?_) | (with_reducible refine b_norm ?_) | (with_reducible refine b_ret ?_) | (with_reducible refine b_exit ?_) | (with_reducible refine b_past (by decide) ?_)
            | (with_reducible refine xd_nil ?_)
            | (refine xr_do (v := ?_) (h' := ?_) (by exact rfl) ?_ ?_; rotate_left 2)
            | (refine xr_st (v := ?_) (h' := ?_) (by exact rfl) ?_ ?_; rotate_left 2)
            | (refine xe_reg (ms := [0, 1, 0, 0, 8, 0, 0, 64, 0, 7, 519, 1543, 3647, 7743, 15935, 32767, 65535, 131071]) Ty.mx (by decide +kernel) (by decide +kernel) [[],[],[],[],[],[],[],[],[],[],[],[h.length],[],[],[h.length],[],[],[h.length]] ?_)
            | (with_reducible refine xe_nil ?_)
            | (refine xe_do (v := ?_) (ids := []) (by exact rfl) (by decide +kernel) (by exact rfl) (by exact rfl) ?_ ?_; rotate_left 1)
            | (refine xe_st (v := ?_) (a := ?_) (h' := ?_) (ids := []) (by decide +kernel) (by exact rfl) ?_ ?_ ?_ ?_ ?_
               rotate_left 3
               · simp only [stp, ev, Zb, Z2e, Z1z, Zk, Zl, reduceIte, Nat.reduceEqDiff, Zj, Zz, Zu, Z16, Z1a, Zm, Zp, Zo, Zd, Zx, Z2b, Z2x, Z1g, Z17, Zq, Zn, Zv, Z2p, Z2f, Z2o, Z2d, Z2g, Z1c, Z1b, Z2i, Z2n, Z2h, Z2j, Z2k, Z2l, Z2m, Z31, Z8, Z5, Z13, Zy, ldv, stv, vcs, fldA, idxA, blt, lenV, Z10, Z3, Z2, Zf, Zg, Ze, Z1, Z0, Z14, Zw, Zh, Zr, Z33, Z15, Z7, Zc, Z6, Z3, Z2, Zf, Zi, Nat.reduceAdd, Nat.reduceMul, Nat.reduceLeDiff, Z11, Z12, Z1y, Z1h, Z2c, Z23, Z28, Z27, Z26, Z25, Z24, Z1m, Z1l, Z1k, Z1j, Z1i, Z1w, Z1v, Z1u, Z1t, Z1s, Z32, Z2y, Z2q, Z2r, Z2s, Z20, Z1q, Z1r, Z2z, Z2t, Z21, Z22, splice, Za, Z9, Z1, Z0, Z19, Zt, Zs, Z18, newB, vcs, Z30, Z2v, Z1x, Z29, Z1n, Z2u, Z1o, Z1f, Z1p, Z1d, Z1e, Ty.ld3, Ty.sz3, Ty.zc3, Ty.by3, Ty.ld24, Ty.sz24, Ty.sl24, Ty.zc24, Ty.by24, Ty.ld56, Ty.sz56, Ty.sl56, Ty.zc56, Ty.by56, Ty.ld58, Ty.sz58, Ty.zc58, Ty.by58, Ty.fl58_0, Ty.fl58_1, Ty.fl58_2, Ty.ld77, Ty.sz77, Ty.zc77, Ty.by77, Ty.fl77_0, Ty.fl77_1, Ty.fl77_2, Ty.fl77_3, Ty.fl77_4, Ty.fl77_5, get_mid, get_mid0, splice_pre, splice_pre0, set_mid, drop_mid, Nat.add_le_add_iff_left, Nat.le_add_left, *]; rfl
               · exact rfl
               · simp
               skip)
            | (refine xe_do (v := ?_) (ids := [h.length]) (by exact rfl) (by decide +kernel) (by exact rfl) (by exact rfl) ?_ ?_; rotate_left 1)
            | (refine xe_st (v := ?_) (a := ?_) (h' := ?_) (ids := [h.length]) (by decide +kernel) (by exact rfl) ?_ ?_ ?_ ?_ ?_
               rotate_left 3
               · simp only [stp, ev, Zb, Z2e, Z1z, Zk, Zl, reduceIte, Nat.reduceEqDiff, Zj, Zz, Zu, Z16, Z1a, Zm, Zp, Zo, Zd, Zx, Z2b, Z2x, Z1g, Z17, Zq, Zn, Zv, Z2p, Z2f, Z2o, Z2d, Z2g, Z1c, Z1b, Z2i, Z2n, Z2h, Z2j, Z2k, Z2l, Z2m, Z31, Z8, Z5, Z13, Zy, ldv, stv, vcs, fldA, idxA, blt, lenV, Z10, Z3, Z2, Zf, Zg, Ze, Z1, Z0, Z14, Zw, Zh, Zr, Z33, Z15, Z7, Zc, Z6, Z3, Z2, Zf, Zi, Nat.reduceAdd, Nat.reduceMul, Nat.reduceLeDiff, Z11, Z12, Z1y, Z1h, Z2c, Z23, Z28, Z27, Z26, Z25, Z24, Z1m, Z1l, Z1k, Z1j, Z1i, Z1w, Z1v, Z1u, Z1t, Z1s, Z32, Z2y, Z2q, Z2r, Z2s, Z20, Z1q, Z1r, Z2z, Z2t, Z21, Z22, splice, Za, Z9, Z1, Z0, Z19, Zt, Zs, Z18, newB, vcs, Z30, Z2v, Z1x, Z29, Z1n, Z2u, Z1o, Z1f, Z1p, Z1d, Z1e, Ty.ld3, Ty.sz3, Ty.zc3, Ty.by3, Ty.ld24, Ty.sz24, Ty.sl24, Ty.zc24, Ty.by24, Ty.ld56, Ty.sz56, Ty.sl56, Ty.zc56, Ty.by56, Ty.ld58, Ty.sz58, Ty.zc58, Ty.by58, Ty.fl58_0, Ty.fl58_1, Ty.fl58_2, Ty.ld77, Ty.sz77, Ty.zc77, Ty.by77, Ty.fl77_0, Ty.fl77_1, Ty.fl77_2, Ty.fl77_3, Ty.fl77_4, Ty.fl77_5, get_mid, get_mid0, splice_pre, splice_pre0, set_mid, drop_mid, Nat.add_le_add_iff_left, Nat.le_add_left, *]; rfl
               · exact rfl
               · simp
               skip)
            | (refine xe_do (v := ?_) (ids := [h.length, h.length]) (by exact rfl) (by decide +kernel) (by exact rfl) (by exact rfl) ?_ ?_; rotate_left 1)
            | (refine xe_st (v := ?_) (a := ?_) (h' := ?_) (ids := [h.length, h.length]) (by decide +kernel) (by exact rfl) ?_ ?_ ?_ ?_ ?_
               rotate_left 3
               · simp only [stp, ev, Zb, Z2e, Z1z, Zk, Zl, reduceIte, Nat.reduceEqDiff, Zj, Zz, Zu, Z16, Z1a, Zm, Zp, Zo, Zd, Zx, Z2b, Z2x, Z1g, Z17, Zq, Zn, Zv, Z2p, Z2f, Z2o, Z2d, Z2g, Z1c, Z1b, Z2i, Z2n, Z2h, Z2j, Z2k, Z2l, Z2m, Z31, Z8, Z5, Z13, Zy, ldv, stv, vcs, fldA, idxA, blt, lenV, Z10, Z3, Z2, Zf, Zg, Ze, Z1, Z0, Z14, Zw, Zh, Zr, Z33, Z15, Z7, Zc, Z6, Z3, Z2, Zf, Zi, Nat.reduceAdd, Nat.reduceMul, Nat.reduceLeDiff, Z11, Z12, Z1y, Z1h, Z2c, Z23, Z28, Z27, Z26, Z25, Z24, Z1m, Z1l, Z1k, Z1j, Z1i, Z1w, Z1v, Z1u, Z1t, Z1s, Z32, Z2y, Z2q, Z2r, Z2s, Z20, Z1q, Z1r, Z2z, Z2t, Z21, Z22, splice, Za, Z9, Z1, Z0, Z19, Zt, Zs, Z18, newB, vcs, Z30, Z2v, Z1x, Z29, Z1n, Z2u, Z1o, Z1f, Z1p, Z1d, Z1e, Ty.ld3, Ty.sz3, Ty.zc3, Ty.by3, Ty.ld24, Ty.sz24, Ty.sl24, Ty.zc24, Ty.by24, Ty.ld56, Ty.sz56, Ty.sl56, Ty.zc56, Ty.by56, Ty.ld58, Ty.sz58, Ty.zc58, Ty.by58, Ty.fl58_0, Ty.fl58_1, Ty.fl58_2, Ty.ld77, Ty.sz77, Ty.zc77, Ty.by77, Ty.fl77_0, Ty.fl77_1, Ty.fl77_2, Ty.fl77_3, Ty.fl77_4, Ty.fl77_5, get_mid, get_mid0, splice_pre, splice_pre0, set_mid, drop_mid, Nat.add_le_add_iff_left, Nat.le_add_left, *]; rfl
               · exact rfl
               · simp
               skip)
            | (refine xe_alloc (z := ?_) ?_ ?_ (by exact rfl) ?_
               rotate_left 1
               · first | exact Ty.zc3 | exact Ty.zc56 | exact Ty.zc58 | exact Ty.zc77
               · decide)
            | (refine xd_do (v := ?_) (by exact rfl) (by decide +kernel) ?_ ?_; rotate_left 1)
            | (refine xd_gdo (v := ?_) (by exact rfl) (by decide +kernel) (by exact rfl) ?_ ?_ ?_
               rotate_left 1
               · simp only [ev, Zb, reduceIte, Nat.reduceEqDiff, Z8, Z5, *])
            | (refine xd_goff (by exact rfl) ?_ ?_
               · simp only [ev, Zb, reduceIte, Nat.reduceEqDiff, Z8, Z5, *])
            | (refine xd_gund (by exact rfl) ?_ ?_
               · simp only [ev, Zb, reduceIte, Nat.reduceEqDiff, Z8, Z5, *])
            | (refine xd_gif (b := ?_) (by exact rfl) ?_ (fun hb => ?_) (fun hb => ?_)
               rotate_left 1
               · simp only [ev, Zb, reduceIte, Nat.reduceEqDiff, Z8, Z5, *]; rfl)
            | (refine xr_gdo (v := ?_) (h' := ?_) (by exact rfl) (by exact rfl) ?_ ?_ ?_
               rotate_left 2
               · simp only [ev, Zb, reduceIte, Nat.reduceEqDiff, Z8, Z5, *])
            | (refine xr_gst (v := ?_) (h' := ?_) (by exact rfl) (by exact rfl) ?_ ?_ ?_
               rotate_left 2
               · simp only [ev, Zb, reduceIte, Nat.reduceEqDiff, Z8, Z5, *])
            | (refine xr_goff (by exact rfl) ?_ ?_
               · simp only [ev, Zb, reduceIte, Nat.reduceEqDiff, Z8, Z5, *])
            | (refine xr_gsoff (by exact rfl) ?_ ?_
               · simp only [ev, Zb, reduceIte, Nat.reduceEqDiff, Z8, Z5, *])
            | (refine xr_gund (by exact rfl) ?_ ?_
               · simp only [ev, Zb, reduceIte, Nat.reduceEqDiff, Z8, Z5, *])
            | (refine xr_gsund (by exact rfl) ?_ ?_
               · simp only [ev, Zb, reduceIte, Nat.reduceEqDiff, Z8, Z5, *])
            | (refine xr_gif (b := ?_) (by exact rfl) ?_ (fun hb => ?_) (fun hb => ?_)
               rotate_left 1
               · simp only [ev, Zb, reduceIte, Nat.reduceEqDiff, Z8, Z5, *]; rfl)
            | (refine aw_ift (by decide) ?_ ?_
               · simp only [ev, Zb, reduceIte, Nat.reduceEqDiff, *])
            | (refine aw_iff (by decide) ?_ ?_
               · simp only [ev, Zb, reduceIte, Nat.reduceEqDiff, *])
            | (refine aw_if (b := ?_) (by decide) ?_ (fun hb => ?_) (fun hb => ?_)
               rotate_left 1
               · simp only [ev, Zb, reduceIte, Nat.reduceEqDiff, *]; rfl)
            | (refine r_ret (vs := ?_) ?_ ?_
               rotate_left 1
               · simp only [resV, oneOf, stp, ev, Zb, Z2e, Z1z, Zk, Zl, reduceIte, Nat.reduceEqDiff, Zj, Zz, Zu, Z16, Z1a, Zm, Zp, Zo, Zd, Zx, Z2b, Z2x, Z1g, Z17, Zq, Zn, Zv, Z2p, Z2f, Z2o, Z2d, Z2g, Z1c, Z1b, Z2i, Z2n, Z2h, Z2j, Z2k, Z2l, Z2m, Z31, Z8, Z5, Z13, Zy, ldv, stv, vcs, fldA, idxA, blt, lenV, Z10, Z3, Z2, Zf, Zg, Ze, Z1, Z0, Z14, Zw, Zh, Zr, Z33, Z15, Z7, Zc, Z6, Z3, Z2, Zf, Zi, Nat.reduceAdd, Nat.reduceMul, Nat.reduceLeDiff, Z11, Z12, Z1y, Z1h, Z2c, Z23, Z28, Z27, Z26, Z25, Z24, Z1m, Z1l, Z1k, Z1j, Z1i, Z1w, Z1v, Z1u, Z1t, Z1s, Z32, Z2y, Z2q, Z2r, Z2s, Z20, Z1q, Z1r, Z2z, Z2t, Z21, Z22, splice, Za, Z9, Z1, Z0, Z19, Zt, Zs, Z18, newB, vcs, Z30, Z2v, Z1x, Z29, Z1n, Z2u, Z1o, Z1f, Z1p, Z1d, Z1e, Ty.ld3, Ty.sz3, Ty.zc3, Ty.by3, Ty.ld24, Ty.sz24, Ty.sl24, Ty.zc24, Ty.by24, Ty.ld56, Ty.sz56, Ty.sl56, Ty.zc56, Ty.by56, Ty.ld58, Ty.sz58, Ty.zc58, Ty.by58, Ty.fl58_0, Ty.fl58_1, Ty.fl58_2, Ty.ld77, Ty.sz77, Ty.zc77, Ty.by77, Ty.fl77_0, Ty.fl77_1, Ty.fl77_2, Ty.fl77_3, Ty.fl77_4, Ty.fl77_5, get_mid, get_mid0, splice_pre, splice_pre0, set_mid, drop_mid, Nat.add_le_add_iff_left, Nat.le_add_left, *]; rfl)
            )
          refine ⟨by first | assumption | omega, ?_, ?_⟩
          · simp only [Z37, Z38, Z39, implies_true, and_true, Z2b, stp, ev, Zb, Z2e, Z1z, Zk, Zl, reduceIte, Nat.reduceEqDiff, Zj, Zz, Zu, Z16, Z1a, Zm, Zp, Zo, Zd, Zx, Z2b, Z2x, Z1g, Z17, Zq, Zn, Zv, Z2p, Z2f, Z2o, Z2d, Z2g, Z1c, Z1b, Z2i, Z2n, Z2h, Z2j, Z2k, Z2l, Z2m, Z31, Z8, Z5, Z13, Zy, *]
          refine ⟨_, by rw [e2], ?_⟩
          simp only [Zb, reduceIte, Nat.reduceEqDiff]
          rw [wrap_id (by omega)]; rfl
        · clear hcd
          repeat' (first
            | ((with_reducible refine eq_go ?_); simp only [stp, ev, Zb, Z2e, Z1z, Zk, Zl, reduceIte, Nat.reduceEqDiff, Zj, Zz, Zu, Z16, Z1a, Zm, Zp, Zo, Zd, Zx, Z2b, Z2x, Z1g, Z17, Zq, Zn, Zv, Z2p, Z2f, Z2o, Z2d, Z2g, Z1c, Z1b, Z2i, Z2n, Z2h, Z2j, Z2k, Z2l, Z2m, Z31, Z8, Z5, Z13, Zy, ldv, stv, vcs, fldA, idxA, blt, lenV, Z10, Z3, Z2, Zf, Zg, Ze, Z1, Z0, Z14, Zw, Zh, Zr, Z33, Z15, Z7, Zc, Z6, Z3, Z2, Zf, Zi, Nat.reduceAdd, Nat.reduceMul, Nat.reduceLeDiff, Z11, Z12, Z1y, Z1h, Z2c, Z23, Z28, Z27, Z26, Z25, Z24, Z1m, Z1l, Z1k, Z1j, Z1i, Z1w, Z1v, Z1u, Z1t, Z1s, Z32, Z2y, Z2q, Z2r, Z2s, Z20, Z1q, Z1r, Z2z, Z2t, Z21, Z22, splice, Za, Z9, Z1, Z0, Z19, Zt, Zs, Z18, newB, vcs, Z30, Z2v, Z1x, Z29, Z1n, Z2u, Z1o, Z1f, Z1p, Z1d, Z1e, Ty.ld3, Ty.sz3, Ty.zc3, Ty.by3, Ty.ld24, Ty.sz24, Ty.sl24, Ty.zc24, Ty.by24, Ty.ld56, Ty.sz56, Ty.sl56, Ty.zc56, Ty.by56, Ty.ld58, Ty.sz58, Ty.zc58, Ty.by58, Ty.fl58_0, Ty.fl58_1, Ty.fl58_2, Ty.ld77, Ty.sz77, Ty.zc77, Ty.by77, Ty.fl77_0, Ty.fl77_1, Ty.fl77_2, Ty.fl77_3, Ty.fl77_4, Ty.fl77_5, get_mid, get_mid0, splice_pre, splice_pre0, set_mid, drop_mid, Nat.add_le_add_iff_left, Nat.le_add_left, *]; rfl)
            | (with_reducible refine aw_then ?_) | (with_reducible refine aw_skip ?_) | (with_reducible refine aw_ret ?_) | (with_reducible refine aw_exit ?_) | (with_reducible refine aw_block ?_) | (with_reducible refine xr_reg (by decide +kernel) ?_)
            | (with_reducible refine xr_nil ?_) | (with_reducible refine k_norm ?_) | (with_reducible refine k_ret ?_) | (with_reducible refine k_exit ?_) | (with_reducible refine b_norm ?_) | (with_reducible refine b_ret ?_) | (with_reducible refine b_exit ?_) | (with_reducible refine b_past (by decide) ?_)
            | (with_reducible refine xd_nil ?_)
            | (refine xr_do (v := ?_) (h' := ?_) (by exact rfl) ?_ ?_; rotate_left 2)
            | (refine xr_st (v := ?_) (h' := ?_) (by exact rfl) ?_ ?_; rotate_left 2)
            | (refine xe_reg (ms := [0, 1, 0, 0, 8, 0, 0, 64, 0, 7, 519, 1543, 3647, 7743, 15935, 32767, 65535, 131071]) Ty.mx (by decide +kernel) (by decide +kernel) [[],[],[],[],[],[],[],[],[],[],[],[h.length],[],[],[h.length],[],[],[h.length]] ?_)
            | (with_reducible refine xe_nil ?_)
            | (refine xe_do (v := ?_) (ids := []) (by exact rfl) (by decide +kernel) (by exact rfl) (by exact rfl) ?_ ?_; rotate_left 1)
            | (refine xe_st (v := ?_) (a := ?_) (h' := ?_) (ids := []) (by decide +kernel) (by exact rfl) ?_ ?_ ?_ ?_ ?_
               rotate_left 3
               · simp only [stp, ev, Zb, Z2e, Z1z, Zk, Zl, reduceIte, Nat.reduceEqDiff, Zj, Zz, Zu, Z16, Z1a, Zm, Zp, Zo, Zd, Zx, Z2b, Z2x, Z1g, Z17, Zq, Zn, Zv, Z2p, Z2f, Z2o, Z2d, Z2g, Z1c, Z1b, Z2i, Z2n, Z2h, Z2j, Z2k, Z2l, Z2m, Z31, Z8, Z5, Z13, Zy, ldv, stv, vcs, fldA, idxA, blt, lenV, Z10, Z3, Z2, Zf, Zg, Ze, Z1, Z0, Z14, Zw, Zh, Zr, Z33, Z15, Z7, Zc, Z6, Z3, Z2, Zf, Zi, Nat.reduceAdd, Nat.reduceMul, Nat.reduceLeDiff, Z11, Z12, Z1y, Z1h, Z2c, Z23, Z28, Z27, Z26, Z25, Z24, Z1m, Z1l, Z1k, Z1j, Z1i, Z1w, Z1v, Z1u, Z1t, Z1s, Z32, Z2y, Z2q, Z2r, Z2s, Z20, Z1q, Z1r, Z2z, Z2t, Z21, Z22, splice, Za, Z9, Z1, Z0, Z19, Zt, Zs, Z18, newB, vcs, Z30, Z2v, Z1x, Z29, Z1n, Z2u, Z1o, Z1f, Z1p, Z1d, Z1e, Ty.ld3, Ty.sz3, Ty.zc3, Ty.by3, Ty.ld24, Ty.sz24, Ty.sl24, Ty.zc24, Ty.by24, Ty.ld56, Ty.sz56, Ty.sl56, Ty.zc56, Ty.by56, Ty.ld58, Ty.sz58, Ty.zc58, Ty.by58, Ty.fl58_0, Ty.fl58_1, Ty.fl58_2, Ty.ld77, Ty.sz77, Ty.zc77, Ty.by77, Ty.fl77_0, Ty.fl77_1, Ty.fl77_2, Ty.fl77_3, Ty.fl77_4, Ty.fl77_5, get_mid, get_mid0, splice_pre, splice_pre0, set_mid, drop_mid, Nat.add_le_add_iff_left, Nat.le_add_left, *]; rfl
               · exact rfl
               · simp
               skip)
            | (refine xe_do (v := ?_) (ids := [h.length]) (by exact rfl) (by decide +kernel) (by exact rfl) (by exact rfl) ?_ ?_; rotate_left 1)
            | (refine xe_st (v := ?_) (a := ?_) (h' := ?_) (ids := [h.length]) (by decide +kernel) (by exact rfl) ?_ ?_ ?_ ?_ ?_
               rotate_left 3
               · simp only [stp, ev, Zb, Z2e, Z1z, Zk, Zl, reduceIte, Nat.reduceEqDiff, Zj, Zz, Zu, Z16, Z1a, Zm, Zp, Zo, Zd, Zx, Z2b, Z2x, Z1g, Z17, Zq, Zn, Zv, Z2p, Z2f, Z2o, Z2d, Z2g, Z1c, Z1b, Z2i, Z2n, Z2h, Z2j, Z2k, Z2l, Z2m, Z31, Z8, Z5, Z13, Zy, ldv, stv, vcs, fldA, idxA, blt, lenV, Z10, Z3, Z2, Zf, Zg, Ze, Z1, Z0, Z14, Zw, Zh, Zr, Z33, Z15, Z7, Zc, Z6, Z3, Z2, Zf, Zi, Nat.reduceAdd, Nat.reduceMul, Nat.reduceLeDiff, Z11, Z12, Z1y, Z1h, Z2c, Z23, Z28, Z27, Z26, Z25, Z24, Z1m, Z1l, Z1k, Z1j, Z1i, Z1w, Z1v, Z1u, Z1t, Z1s, Z32, Z2y, Z2q, Z2r, Z2s, Z20, Z1q, Z1r, Z2z, Z2t, Z21, Z22, splice, Za, Z9, Z1, Z0, Z19, Zt, Zs, Z18, newB, vcs, Z30, Z2v, Z1x, Z29, Z1n, Z2u, Z1o, Z1f, Z1p, Z1d, Z1e, Ty.ld3, Ty.sz3, Ty.zc3, Ty.by3, Ty.ld24, Ty.sz24, Ty.sl24, Ty.zc24, Ty.by24, Ty.ld56, Ty.sz56, Ty.sl56, Ty.zc56, Ty.by56, Ty.ld58, Ty.sz58, Ty.zc58, Ty.by58, Ty.fl58_0, Ty.fl58_1, Ty.fl58_2, Ty.ld77, Ty.sz77, Ty.zc77, Ty.by77, Ty.fl77_0, Ty.fl77_1, Ty.fl77_2, Ty.fl77_3, Ty.fl77_4, Ty.fl77_5, get_mid, get_mid0, splice_pre, splice_pre0, set_mid, drop_mid, Nat.add_le_add_iff_left, Nat.le_add_left, *]; rfl
               · exact rfl
               · simp
               skip)
            | (refine xe_do (v := ?_) (ids := [h.length, h.length]) (by exact rfl) (by decide +kernel) (by exact rfl) (by exact rfl) ?_ ?_; rotate_left 1)
            | (refine xe_st (v := ?_) (a := ?_) (h' := ?_) (ids := [h.length, h.length]) (by decide +kernel) (by exact rfl) ?_ ?_ ?_ ?_ ?_
               rotate_left 3
               · simp only [stp, ev, Zb, Z2e, Z1z, Zk, Zl, reduceIte, Nat.reduceEqDiff, Zj, Zz, Zu, Z16, Z1a, Zm, Zp, Zo, Zd, Zx, Z2b, Z2x, Z1g, Z17, Zq, Zn, Zv, Z2p, Z2f, Z2o, Z2d, Z2g, Z1c, Z1b, Z2i, Z2n, Z2h, Z2j, Z2k, Z2l, Z2m, Z31, Z8, Z5, Z13, Zy, ldv, stv, vcs, fldA, idxA, blt, lenV, Z10, Z3, Z2, Zf, Zg, Ze, Z1, Z0, Z14, Zw, Zh, Zr, Z33, Z15, Z7, Zc, Z6, Z3, Z2, Zf, Zi, Nat.reduceAdd, Nat.reduceMul, Nat.reduceLeDiff, Z11, Z12, Z1y, Z1h, Z2c, Z23, Z28, Z27, Z26, Z25, Z24, Z1m, Z1l, Z1k, Z1j, Z1i, Z1w, Z1v, Z1u, Z1t, Z1s, Z32, Z2y, Z2q, Z2r, Z2s, Z20, Z1q, Z1r, Z2z, Z2t, Z21, Z22, splice, Za, Z9, Z1, Z0, Z19, Zt, Zs, Z18, newB, vcs, Z30, Z2v, Z1x, Z29, Z1n, Z2u, Z1o, Z1f, Z1p, Z1d, Z1e, Ty.ld3, Ty.sz3, Ty.zc3, Ty.by3, Ty.ld24, Ty.sz24, Ty.sl24, Ty.zc24, Ty.by24, Ty.ld56, Ty.sz56, Ty.sl56, Ty.zc56, Ty.by56, Ty.ld58, Ty.sz58, Ty.zc58, Ty.by58, Ty.fl58_0, Ty.fl58_1, Ty.fl58_2, Ty.ld77, Ty.sz77, Ty.zc77, Ty.by77, Ty.fl77_0, Ty.fl77_1, Ty.fl77_2, Ty.fl77_3, Ty.fl77_4, Ty.fl77_5, get_mid, get_mid0, splice_pre, splice_pre0, set_mid, drop_mid, Nat.add_le_add_iff_left, Nat.le_add_left, *]; rfl
               · exact rfl
               · simp
               skip)
            | (refine xe_alloc (z := ?_) ?_ ?_ (by exact rfl) ?_
               rotate_left 1
               · first | exact Ty.zc3 | exact Ty.zc56 | exact Ty.zc58 | exact Ty.zc77
               · decide)
            | (refine xd_do (v := ?_) (by exact rfl) (by decide +kernel) ?_ ?_; rotate_left 1)
            | (refine xd_gdo (v := ?_) (by exact rfl) (by decide +kernel) (by exact rfl) ?_ ?_ ?_
               rotate_left 1
               · simp only [ev, Zb, reduceIte, Nat.reduceEqDiff, Z8, Z5, *])
            | (refine xd_goff (by exact rfl) ?_ ?_
               · simp only [ev, Zb, reduceIte, Nat.reduceEqDiff, Z8, Z5, *])
            | (refine xd_gund (by exact rfl) ?_ ?_
               · simp only [ev, Zb, reduceIte, Nat.reduceEqDiff, Z8, Z5, *])
            | (refine xd_gif (b := ?_) (by exact rfl) ?_ (fun hb => ?_) (fun hb => ?_)
               rotate_left 1
               · simp only [ev, Zb, reduceIte, Nat.reduceEqDiff, Z8, Z5, *]; rfl)
            | (refine xr_gdo (v := ?_) (h' := ?_) (by exact rfl) (by exact rfl) ?_ ?_ ?_
               rotate_left 2
               · simp only [ev, Zb, reduceIte, Nat.reduceEqDiff, Z8, Z5, *])
            | (refine xr_gst (v := ?_) (h' := ?_) (by exact rfl) (by exact rfl) ?_ ?_ ?_
               rotate_left 2
               · simp only [ev, Zb, reduceIte, Nat.reduceEqDiff, Z8, Z5, *])
            | (refine xr_goff (by exact rfl) ?_ ?_
               · simp only [ev, Zb, reduceIte, Nat.reduceEqDiff, Z8, Z5, *])
            | (refine xr_gsoff (by exact rfl) ?_ ?_
               · simp only [ev, Zb, reduceIte, Nat.reduceEqDiff, Z8, Z5, *])
            | (refine xr_gund (by exact rfl) ?_ ?_
               · simp only [ev, Zb, reduceIte, Nat.reduceEqDiff, Z8, Z5, *])
            | (refine xr_gsund (by exact rfl) ?_ ?_
               · simp only [ev, Zb, reduceIte, Nat.reduceEqDiff, Z8, Z5, *])
            | (refine xr_gif (b := ?_) (by exact rfl) ?_ (fun hb => ?_) (fun hb => ?_)
               rotate_left 1
               · simp only [ev, Zb, reduceIte, Nat.reduceEqDiff, Z8, Z5, *]; rfl)
            | (refine aw_ift (by decide) ?_ ?_
               · simp only [ev, Zb, reduceIte, Nat.reduceEqDiff, *])
            | (refine aw_iff (by decide) ?_ ?_
               · simp only [ev, Zb, reduceIte, Nat.reduceEqDiff, *])
            | (refine aw_if (b := ?_) (by decide) ?_ (fun hb => ?_) (fun hb => ?_)
               rotate_left 1
               · simp only [ev, Zb, reduceIte, Nat.reduceEqDiff, *]; rfl)
            | (refine r_ret (vs := ?_) ?_ ?_
               rotate_left 1
               · simp only [resV, oneOf, stp, ev, Zb, Z2e, Z1z, Zk, Zl, reduceIte, Nat.reduceEqDiff, Zj, Zz, Zu, Z16, Z1a, Zm, Zp, Zo, Zd, Zx, Z2b, Z2x, Z1g, Z17, Zq, Zn, Zv, Z2p, Z2f, Z2o, Z2d, Z2g, Z1c, Z1b, Z2i, Z2n, Z2h, Z2j, Z2k, Z2l, Z2m, Z31, Z8, Z5, Z13, Zy, ldv, stv, vcs, fldA, idxA, blt, lenV, Z10, Z3, Z2, Zf, Zg, Ze, Z1, Z0, Z14, Zw, Zh, Zr, Z33, Z15, Z7, Zc, Z6, Z3, Z2, Zf, Zi, Nat.reduceAdd, Nat.reduceMul, Nat.reduceLeDiff, Z11, Z12, Z1y, Z1h, Z2c, Z23, Z28, Z27, Z26, Z25, Z24, Z1m, Z1l, Z1k, Z1j, Z1i, Z1w, Z1v, Z1u, Z1t, Z1s, Z32, Z2y, Z2q, Z2r, Z2s, Z20, Z1q, Z1r, Z2z, Z2t, Z21, Z22, splice, Za, Z9, Z1, Z0, Z19, Zt, Zs, Z18, newB, vcs, Z30, Z2v, Z1x, Z29, Z1n, Z2u, Z1o, Z1f, Z1p, Z1d, Z1e, Ty.ld3, Ty.sz3, Ty.zc3, Ty.by3, Ty.ld24, Ty.sz24, Ty.sl24, Ty.zc24, Ty.by24, Ty.ld56, Ty.sz56, Ty.sl56, Ty.zc56, Ty.by56, Ty.ld58, Ty.sz58, Ty.zc58, Ty.by58, Ty.fl58_0, Ty.fl58_1, Ty.fl58_2, Ty.ld77, Ty.sz77, Ty.zc77, Ty.by77, Ty.fl77_0, Ty.fl77_1, Ty.fl77_2, Ty.fl77_3, Ty.fl77_4, Ty.fl77_5, get_mid, get_mid0, splice_pre, splice_pre0, set_mid, drop_mid, Nat.add_le_add_iff_left, Nat.le_add_left, *]; rfl)
            )
          refine ⟨by first | assumption | omega, ?_, ?_⟩
          · simp only [Z37, Z38, Z39, implies_true, and_true, Z2b, stp, ev, Zb, Z2e, Z1z, Zk, Zl, reduceIte, Nat.reduceEqDiff, Zj, Zz, Zu, Z16, Z1a, Zm, Zp, Zo, Zd, Zx, Z2b, Z2x, Z1g, Z17, Zq, Zn, Zv, Z2p, Z2f, Z2o, Z2d, Z2g, Z1c, Z1b, Z2i, Z2n, Z2h, Z2j, Z2k, Z2l, Z2m, Z31, Z8, Z5, Z13, Zy, *]
          refine ⟨_, by rw [e2], ?_⟩
          simp only [Zb, reduceIte, Nat.reduceEqDiff]
          rw [wrap_id (by omega)]; rfl
    · have h1 : ¬ (k : Int) < items.length := by omega
      rw [tickK_all _ hkn]
      repeat' (first
        | ((with_reducible refine eq_go ?_); simp only [stp, ev, Zb, Z2e, Z1z, Zk, Zl, reduceIte, Nat.reduceEqDiff, Zj, Zz, Zu, Z16, Z1a, Zm, Zp, Zo, Zd, Zx, Z2b, Z2x, Z1g, Z17, Zq, Zn, Zv, Z2p, Z2f, Z2o, Z2d, Z2g, Z1c, Z1b, Z2i, Z2n, Z2h, Z2j, Z2k, Z2l, Z2m, Z31, Z8, Z5, Z13, Zy, ldv, stv, vcs, fldA, idxA, blt, lenV, Z10, Z3, Z2, Zf, Zg, Ze, Z1, Z0, Z14, Zw, Zh, Zr, Z33, Z15, Z7, Zc, Z6, Z3, Z2, Zf, Zi, Nat.reduceAdd, Nat.reduceMul, Nat.reduceLeDiff, Z11, Z12, Z1y, Z1h, Z2c, Z23, Z28, Z27, Z26, Z25, Z24, Z1m, Z1l, Z1k, Z1j, Z1i, Z1w, Z1v, Z1u, Z1t, Z1s, Z32, Z2y, Z2q, Z2r, Z2s, Z20, Z1q, Z1r, Z2z, Z2t, Z21, Z22, splice, Za, Z9, Z1, Z0, Z19, Zt, Zs, Z18, newB, vcs, Z30, Z2v, Z1x, Z29, Z1n, Z2u, Z1o, Z1f, Z1p, Z1d, Z1e, Ty.ld3, Ty.sz3, Ty.zc3, Ty.by3, Ty.ld24, Ty.sz24, Ty.sl24, Ty.zc24, Ty.by24, Ty.ld56, Ty.sz56, Ty.sl56, Ty.zc56, Ty.by56, Ty.ld58, Ty.sz58, Ty.zc58, Ty.by58, Ty.fl58_0, Ty.fl58_1, Ty.fl58_2, Ty.ld77, Ty.sz77, Ty.zc77, Ty.by77, Ty.fl77_0, Ty.fl77_1, Ty.fl77_2, Ty.fl77_3, Ty.fl77_4, Ty.fl77_5, *]; rfl)
        | (with_reducible refine aw_then ?_) | (with_reducible refine aw_skip ?_) | (with_reducible refine aw_ret ?_) | (with_reducible refine aw_exit ?_) | (with_reducible refine aw_block ?_) | (with_reducible refine xr_reg (by decide +kernel) ?_)
        | (with_reducible refine xr_nil ?_) | (with_reducible refine k_norm ?_) | (with_reducible refine k_ret ?_) | (with_reducible refine k_exit ?_) | (with_reducible refine b_norm ?_) | (with_reducible refine b_ret ?_) | (with_reducible refine b_exit ?_) | (with_reducible refine b_past (by decide) ?_)
        | (with_reducible refine xd_nil ?_)
        | (refine xr_do (v := ?_) (h' := ?_) (by exact rfl) ?_ ?_; rotate_left 2)
        | (refine xr_st (v := ?_) (h' := ?_) (by exact rfl) ?_ ?_; rotate_left 2)
        | (refine xd_reg (ms := [0, 1, 0, 0, 8, 0, 0, 64, 0, 7, 519, 1543, 3647, 7743, 15935, 32767, 65535, 131071]) Ty.mx (by decide +kernel) (by decide +kernel) ?_)
        | (refine xd_do (v := ?_) (by exact rfl) (by decide +kernel) ?_ ?_; rotate_left 1)
        | (refine xd_gdo (v := ?_) (by exact rfl) (by decide +kernel) (by exact rfl) ?_ ?_ ?_
           rotate_left 1
           · simp only [ev, Zb, reduceIte, Nat.reduceEqDiff, Z8, Z5, *])
        | (refine xd_goff (by exact rfl) ?_ ?_
           · simp only [ev, Zb, reduceIte, Nat.reduceEqDiff, Z8, Z5, *])
        | (refine xd_gund (by exact rfl) ?_ ?_
           · simp only [ev, Zb, reduceIte, Nat.reduceEqDiff, Z8, Z5, *])
        | (refine xd_gif (b := ?_) (by exact rfl) ?_ (fun hb => ?_) (fun hb => ?_)
           rotate_left 1
           · simp only [ev, Zb, reduceIte, Nat.reduceEqDiff, Z8, Z5, *]; rfl)
        | (refine xr_gdo (v := ?_) (h' := ?_) (by exact rfl) (by exact rfl) ?_ ?_ ?_
           rotate_left 2
           · simp only [ev, Zb, reduceIte, Nat.reduceEqDiff, Z8, Z5, *])
        | (refine xr_gst (v := ?_) (h' := ?_) (by exact rfl) (by exact rfl) ?_ ?_ ?_
           rotate_left 2
           · simp only [ev, Zb, reduceIte, Nat.reduceEqDiff, Z8, Z5, *])
        | (refine xr_goff (by exact rfl) ?_ ?_
           · simp only [ev, Zb, reduceIte, Nat.reduceEqDiff, Z8, Z5, *])
        | (refine xr_gsoff (by exact rfl) ?_ ?_
           · simp only [ev, Zb, reduceIte, Nat.reduceEqDiff, Z8, Z5, *])
        | (refine xr_gund (by exact rfl) ?_ ?_
           · simp only [ev, Zb, reduceIte, Nat.reduceEqDiff, Z8, Z5, *])
        | (refine xr_gsund (by exact rfl) ?_ ?_
           · simp only [ev, Zb, reduceIte, Nat.reduceEqDiff, Z8, Z5, *])
        | (refine xr_gif (b := ?_) (by exact rfl) ?_ (fun hb => ?_) (fun hb => ?_)
           rotate_left 1
           · simp only [ev, Zb, reduceIte, Nat.reduceEqDiff, Z8, Z5, *]; rfl)
        | (refine aw_ift (by decide) ?_ ?_
           · simp only [ev, Zb, reduceIte, Nat.reduceEqDiff, *])
        | (refine aw_iff (by decide) ?_ ?_
           · simp only [ev, Zb, reduceIte, Nat.reduceEqDiff, *])
        | (refine aw_if (b := ?_) (by decide) ?_ (fun hb => ?_) (fun hb => ?_)
           rotate_left 1
           · simp only [ev, Zb, reduceIte, Nat.reduceEqDiff, *]; rfl)
        | (refine r_ret (vs := ?_) ?_ ?_
           rotate_left 1
           · simp only [resV, oneOf, stp, ev, Zb, Z2e, Z1z, Zk, Zl, reduceIte, Nat.reduceEqDiff, Zj, Zz, Zu, Z16, Z1a, Zm, Zp, Zo, Zd, Zx, Z2b, Z2x, Z1g, Z17, Zq, Zn, Zv, Z2p, Z2f, Z2o, Z2d, Z2g, Z1c, Z1b, Z2i, Z2n, Z2h, Z2j, Z2k, Z2l, Z2m, Z31, Z8, Z5, Z13, Zy, ldv, stv, vcs, fldA, idxA, blt, lenV, Z10, Z3, Z2, Zf, Zg, Ze, Z1, Z0, Z14, Zw, Zh, Zr, Z33, Z15, Z7, Zc, Z6, Z3, Z2, Zf, Zi, Nat.reduceAdd, Nat.reduceMul, Nat.reduceLeDiff, Z11, Z12, Z1y, Z1h, Z2c, Z23, Z28, Z27, Z26, Z25, Z24, Z1m, Z1l, Z1k, Z1j, Z1i, Z1w, Z1v, Z1u, Z1t, Z1s, Z32, Z2y, Z2q, Z2r, Z2s, Z20, Z1q, Z1r, Z2z, Z2t, Z21, Z22, splice, Za, Z9, Z1, Z0, Z19, Zt, Zs, Z18, newB, vcs, Z30, Z2v, Z1x, Z29, Z1n, Z2u, Z1o, Z1f, Z1p, Z1d, Z1e, Ty.ld3, Ty.sz3, Ty.zc3, Ty.by3, Ty.ld24, Ty.sz24, Ty.sl24, Ty.zc24, Ty.by24, Ty.ld56, Ty.sz56, Ty.sl56, Ty.zc56, Ty.by56, Ty.ld58, Ty.sz58, Ty.zc58, Ty.by58, Ty.fl58_0, Ty.fl58_1, Ty.fl58_2, Ty.ld77, Ty.sz77, Ty.zc77, Ty.by77, Ty.fl77_0, Ty.fl77_1, Ty.fl77_2, Ty.fl77_3, Ty.fl77_4, Ty.fl77_5, *]; rfl)
        )
      exact ⟨_, rfl, rfl⟩
end Go.Proofs.Ytiddnhhjlipebaa.Am
namespace Go.Proofs.Ytiddnhhjlipebaa.Am
open Go Go.Proofs
set_option linter.unusedVariables false
set_option linter.unusedSimpArgs false
set_option maxRecDepth 100000
set_option maxHeartbeats 8000000

def Item.nil : Item := ⟨0, 0, 0, 0, 0, 0⟩
def freeI (a : DAct) : Item := ⟨a.cas, a.task, a.role, 1, -1, 0⟩
def inRange (items : List Item) (a : DAct) : Prop := 0 ≤ a.item ∧ a.item ≤ (items.length : Int) - 1
instance (items : List Item) (a : DAct) : Decidable (inRange items a) := inferInstanceAs (Decidable (_ ∧ _))
def stepCode (now : Int) (people : List Int) (items : List Item) (a : DAct) : Int :=
  if formM a = false then 1 else if a.kind = 1 then (if items.length = 40 then 5 else 0) else if a.kind = 8 then (if 10000 < now + a.many then 5 else 0)
  else if inRange items a then codeI people (items.getD a.item.toNat Item.nil) a else 2
def stepItems (now : Int) (people : List Int) (items : List Item) (a : DAct) : List Item :=
  if formM a = false then items else if a.kind = 1 then (if items.length = 40 then items else items ++ [freeI a]) else if a.kind = 8 then (if 10000 < now + a.many then items else items.map (tickI (now + a.many)))
  else if inRange items a then items.set a.item.toNat (nextI now people (items.getD a.item.toNat Item.nil) a) else items
def stepNow (now : Int) (a : DAct) : Int := if formM a = false then now else if a.kind = 8 then (if 10000 < now + a.many then now else now + a.many) else now

theorem desk_keep {h L X : Heap} {B B' : Blk} {now' code : Int} {vp : Value} {items' : List Item} {k : Nat} {sp : Option Nat} (hk : k = h.length ∨ h.length + (L.length + 1) ≤ k)
    (hb : (h ++ B' :: (L ++ X))[k]? = some ⟨2, 6, cellsL items'⟩) (hsp : sp = none ∨ sp = some 0) (hids : IdsP (fun id => id < h.length + (L.length + 1)) vp) :
    ∃ ks, Inj ks ∧ ks.length = [(⟨2, 6, cellsL items'⟩ : Blk)].length ∧ (h ++ B :: L).length ≤ (h ++ B' :: (L ++ X)).length ∧ OldOk (h ++ B :: L) (h ++ B' :: (L ++ X)) (h ++ ⟨0, 0, []⟩ :: L) ks ∧
      NewOk [⟨2, 6, cellsL items'⟩] (h ++ B' :: (L ++ X)) ks ∧
      RW (h ++ B :: L).length (h ++ B' :: (L ++ X)) ks (.tuple #[.agg #[.int .i64 now', vp, .slice (some ⟨h.length + (L.length + 1), 0, some 0⟩) items'.length items'.length], .int .i64 code])
        (.tuple #[.agg #[.int .i64 now', vp, .slice (some ⟨k, 0, sp⟩) items'.length items'.length], .int .i64 code]) := by
  have hn : (h ++ B :: L).length = h.length + (L.length + 1) := by simp
  refine ⟨[k], Inj.one k, rfl, by simp, OldOk.kill (fun x hx => by simp at hx; subst hx; exact hk), ?_, ?_⟩
  · intro i b hi
    obtain rfl : i = 0 := by have := (List.getElem?_eq_some_iff.1 hi).1; simp at this; omega
    simp at hi; subst hi
    exact ⟨rfl, cellsL_af _, k, rfl, hb⟩
  · rw [hn]
    refine RWl.tuple (l := [_, _]) (l' := [_, _]) ⟨RWl.agg (l := [_, _, _]) (l' := [_, _, _]) ⟨.plain _ rfl, .old _ hids, ?_, trivial⟩, .plain _ rfl, trivial⟩
    exact .sl 0 k _ _ 6 sp _ rfl hb (cellsL_len _) (Z4 _) (by rcases hsp with q | q <;> simp [q])

theorem form_many {a : DAct} (h : formM a = true) (hk : a.kind = 8) : 0 ≤ a.many ∧ a.many ≤ 100 := by
  simp only [formM, hk] at h
  simp at h; omega

theorem stepDesk_blk (now : Int) (people : List Int) (items : List Item) (a : DAct) (vp : Value) (sp : Option Nat) (h L : Heap) (hsp : sp = none ∨ sp = some 0) (hp : ∀ (b : Blk) (X : Heap), Sl (h ++ b :: (L ++ X)) vp 1 (ints people))
    (hids : IdsP (fun id => id < h.length + (L.length + 1)) vp) (hl : people.length ≤ 6) (hn : 0 ≤ now ∧ now ≤ 10000) (hil : items.length ≤ 1048576) (hr : ∀ x ∈ items, 0 ≤ x.role) :
    ACalls Try.prog 0 109 #[.agg #[.int .i64 now, vp, .slice (some ⟨h.length, 0, sp⟩) items.length items.length], .agg a.cells.toArray] (h ++ ⟨2, 6, cellsL items⟩ :: L)
    fun v h' => v = .tuple #[.agg #[.int .i64 (stepNow now a), vp, .slice (some ⟨h.length + (L.length + 1), 0, some 0⟩) (stepItems now people items a).length (stepItems now people items a).length], .int .i64 (stepCode now people items a)] ∧
      h' = h ++ ⟨0, 0, []⟩ :: L ++ [⟨2, 6, cellsL (stepItems now people items a)⟩] := by
  refine acalls_keep _ _ _ (by simp) ?_
  have hf := (hp ⟨0, 0, []⟩ []).flat
  have hwl : IntKind.i64.wrap ((items.length : Int) - 1) = (items.length : Int) - 1 := wrap_id (by omega)
  rcases Bool.eq_false_or_eq_true (formM a) with hfm | hfm
  · simp only [stepNow, stepItems, stepCode, hfm, Bool.true_eq_false, if_false]
    by_cases hk1 : a.kind = 1
    · have hk1' : decide (a.kind = 1) = true := decide_eq_true hk1
      simp only [hk1, Z2x, show ¬ (1 : Int) = 8 by decide, if_false]
      by_cases h40 : items.length = 40
      · have h40' : decide ((items.length : Int) = 40) = true := decide_eq_true (by omega)
        simp only [if_pos h40]
        clear h40 hk1
        refine Z36 Try.func109 rfl Try.ntmps109 (by simp) (by dsimp only [Try.f109]) ?_
        repeat' (first
          | ((with_reducible refine eq_go ?_); simp only [stp, ev, Zb, Z2e, Z1z, Zk, Zl, reduceIte, Nat.reduceEqDiff, Zj, Zz, Zu, Z16, Z1a, Zm, Zp, Zo, Zd, Zx, Z2b, Z2x, Z1g, Z17, Zq, Zn, Zv, Z2p, Z2f, Z2o, Z2d, Z2g, Z1c, Z1b, Z2i, Z2n, Z2h, Z2j, Z2k, Z2l, Z2m, Z31, Z8, Z5, Z13, Zy, bld, fillL, vcs, splice, Ze, Z1, Z0, Z35, Ze, Z1, Z0, ldv, stv, vcs, fldA, idxA, blt, lenV, Z10, Z3, Z2, Zf, Zg, Ze, Z1, Z0, Z14, Zw, Zh, Zr, Z33, Z15, Z7, Zc, Z6, Z3, Z2, Zf, Zi, Nat.reduceAdd, Nat.reduceMul, Nat.reduceLeDiff, Z11, Z12, Z1y, Z1h, Z2c, Z23, Z28, Z27, Z26, Z25, Z24, Z1m, Z1l, Z1k, Z1j, Z1i, Z1w, Z1v, Z1u, Z1t, Z1s, Z32, Z2y, Z2q, Z2r, Z2s, Z20, Z1q, Z1r, Z2z, Z2t, Z21, Z22, splice, Za, Z9, Z1, Z0, Z19, Zt, Zs, Z18, newB, vcs, Z30, Z2v, Z1x, Z29, Z1n, Z2u, Z1o, Z1f, Z1p, Z1d, Z1e, Ty.ld3, Ty.sz3, Ty.zc3, Ty.by3, Ty.ld24, Ty.sz24, Ty.sl24, Ty.zc24, Ty.by24, Ty.ld56, Ty.sz56, Ty.sl56, Ty.zc56, Ty.by56, Ty.ld58, Ty.sz58, Ty.zc58, Ty.by58, Ty.pl58, Ty.fl58_0, Ty.fl58_1, Ty.fl58_2, Ty.ld77, Ty.sz77, Ty.zc77, Ty.by77, Ty.pl77, Ty.fl77_0, Ty.fl77_1, Ty.fl77_2, Ty.fl77_3, Ty.fl77_4, Ty.fl77_5, Ty.ld80, Ty.sz80, Ty.zc80, Ty.by80, Ty.pl80, Ty.fl80_0, Ty.fl80_1, Ty.fl80_2, Ty.fl80_3, Ty.fl80_4, Ty.fl80_5, Ty.fl80_6, Ty.fl80_7, Ty.ld139, Ty.sz139, Ty.zc139, Ty.by139, DAct.cells_length, DAct.cells_flat, DAct.cells_take, DAct.get0, DAct.get1, DAct.get4, DAct.get5, DAct.get6, DAct.get7, *]; rfl)
          | (with_reducible refine aw_then ?_) | (with_reducible refine aw_skip ?_) | (with_reducible refine aw_ret ?_) | (with_reducible refine aw_exit ?_) | (with_reducible refine aw_block ?_) | (with_reducible refine xr_reg (by decide +kernel) ?_)
          | (with_reducible refine xr_nil ?_) | (with_reducible refine k_norm ?_) | (with_reducible refine k_ret ?_) | (with_reducible refine k_exit ?_) | (with_reducible refine b_norm ?_) | (with_reducible refine b_ret ?_) | (with_reducible refine b_exit ?_) | (with_reducible refine b_past (by decide) ?_)
          | (with_reducible refine xd_nil ?_)
          | (refine xr_cl (f := ?_) (fs := ?_) (cs := ?_) (args := ?_) (K := ?_) ?_ ?_ ?_ ?_ ?_
             rotate_left 5
             · simp only [ev]; rfl
             first
             | (· with_reducible exact Ty.ok98
                rotate_left 2
                refine Z2a 98 ?_
                rotate_right 2)
             | (· with_reducible exact Ty.ok125
                rotate_left 2
                refine Z2a 125 ?_
                rotate_right 2)
             | (· with_reducible exact Ty.ok126
                rotate_left 2
                refine Z2a 126 ?_
                rotate_right 2)
             )
          | (refine xd_cl (f := ?_) (fs := ?_) (cs := ?_) (args := ?_) (v := ?_) ?_ ?_ ?_ ?_ ?_ ?_
             rotate_left 5
             · simp only [ev]; rfl
             · first | with_reducible exact Ty.ok98 | with_reducible exact Ty.ok125 | with_reducible exact Ty.ok126
             rotate_left 1
             · decide +kernel
             rotate_right 1)
          | (refine xr_do (v := ?_) (h' := ?_) (by exact rfl) ?_ ?_; rotate_left 2)
          | (refine xr_st (v := ?_) (h' := ?_) (by exact rfl) ?_ ?_; rotate_left 2)
          | (refine xd_reg (ms := [0, 0, 0, 4, 0, 16, 60, 0, 254, 511, 1023]) Ty.mx (by decide +kernel) (by decide +kernel) ?_)
          | (refine xd_bs (v := ?_) (h' := ?_) (L := ?_) (by decide +kernel) ?_ ?_ ?_
             rotate_left 3
             · simp only [stp, ev, Zb, Z2e, Z1z, Zk, Zl, reduceIte, Nat.reduceEqDiff, Zj, Zz, Zu, Z16, Z1a, Zm, Zp, Zo, Zd, Zx, Z2b, Z2x, Z1g, Z17, Zq, Zn, Zv, Z2p, Z2f, Z2o, Z2d, Z2g, Z1c, Z1b, Z2i, Z2n, Z2h, Z2j, Z2k, Z2l, Z2m, Z31, Z8, Z5, Z13, Zy, bld, fillL, vcs, splice, Ze, Z1, Z0, Z35, Ze, Z1, Z0, ldv, stv, vcs, fldA, idxA, blt, lenV, Z10, Z3, Z2, Zf, Zg, Ze, Z1, Z0, Z14, Zw, Zh, Zr, Z33, Z15, Z7, Zc, Z6, Z3, Z2, Zf, Zi, Nat.reduceAdd, Nat.reduceMul, Nat.reduceLeDiff, Z11, Z12, Z1y, Z1h, Z2c, Z23, Z28, Z27, Z26, Z25, Z24, Z1m, Z1l, Z1k, Z1j, Z1i, Z1w, Z1v, Z1u, Z1t, Z1s, Z32, Z2y, Z2q, Z2r, Z2s, Z20, Z1q, Z1r, Z2z, Z2t, Z21, Z22, splice, Za, Z9, Z1, Z0, Z19, Zt, Zs, Z18, newB, vcs, Z30, Z2v, Z1x, Z29, Z1n, Z2u, Z1o, Z1f, Z1p, Z1d, Z1e, Ty.ld3, Ty.sz3, Ty.zc3, Ty.by3, Ty.ld24, Ty.sz24, Ty.sl24, Ty.zc24, Ty.by24, Ty.ld56, Ty.sz56, Ty.sl56, Ty.zc56, Ty.by56, Ty.ld58, Ty.sz58, Ty.zc58, Ty.by58, Ty.pl58, Ty.fl58_0, Ty.fl58_1, Ty.fl58_2, Ty.ld77, Ty.sz77, Ty.zc77, Ty.by77, Ty.pl77, Ty.fl77_0, Ty.fl77_1, Ty.fl77_2, Ty.fl77_3, Ty.fl77_4, Ty.fl77_5, Ty.ld80, Ty.sz80, Ty.zc80, Ty.by80, Ty.pl80, Ty.fl80_0, Ty.fl80_1, Ty.fl80_2, Ty.fl80_3, Ty.fl80_4, Ty.fl80_5, Ty.fl80_6, Ty.fl80_7, Ty.ld139, Ty.sz139, Ty.zc139, Ty.by139, DAct.cells_length, DAct.cells_flat, DAct.cells_take, DAct.get0, DAct.get1, DAct.get4, DAct.get5, DAct.get6, DAct.get7, *]; rfl
             · exact rfl
             skip)
          | (refine xd_do (v := ?_) (by exact rfl) (by decide +kernel) ?_ ?_; rotate_left 1)
          | (refine aw_ift (by decide) ?_ ?_
             · simp only [ev, Zb, reduceIte, Nat.reduceEqDiff, *])
          | (refine aw_iff (by decide) ?_ ?_
             · simp only [ev, Zb, reduceIte, Nat.reduceEqDiff, *])
          | (refine aw_if (b := ?_) (by decide) ?_ (fun hb => ?_) (fun hb => ?_)
             rotate_left 1
             · simp only [ev, Zb, reduceIte, Nat.reduceEqDiff, *]; rfl)
          | (refine r_ret (vs := ?_) ?_ ?_
             rotate_left 1
             · simp only [resV, oneOf, stp, ev, Zb, Z2e, Z1z, Zk, Zl, reduceIte, Nat.reduceEqDiff, Zj, Zz, Zu, Z16, Z1a, Zm, Zp, Zo, Zd, Zx, Z2b, Z2x, Z1g, Z17, Zq, Zn, Zv, Z2p, Z2f, Z2o, Z2d, Z2g, Z1c, Z1b, Z2i, Z2n, Z2h, Z2j, Z2k, Z2l, Z2m, Z31, Z8, Z5, Z13, Zy, bld, fillL, vcs, splice, Ze, Z1, Z0, Z35, Ze, Z1, Z0, ldv, stv, vcs, fldA, idxA, blt, lenV, Z10, Z3, Z2, Zf, Zg, Ze, Z1, Z0, Z14, Zw, Zh, Zr, Z33, Z15, Z7, Zc, Z6, Z3, Z2, Zf, Zi, Nat.reduceAdd, Nat.reduceMul, Nat.reduceLeDiff, Z11, Z12, Z1y, Z1h, Z2c, Z23, Z28, Z27, Z26, Z25, Z24, Z1m, Z1l, Z1k, Z1j, Z1i, Z1w, Z1v, Z1u, Z1t, Z1s, Z32, Z2y, Z2q, Z2r, Z2s, Z20, Z1q, Z1r, Z2z, Z2t, Z21, Z22, splice, Za, Z9, Z1, Z0, Z19, Zt, Zs, Z18, newB, vcs, Z30, Z2v, Z1x, Z29, Z1n, Z2u, Z1o, Z1f, Z1p, Z1d, Z1e, Ty.ld3, Ty.sz3, Ty.zc3, Ty.by3, Ty.ld24, Ty.sz24, Ty.sl24, Ty.zc24, Ty.by24, Ty.ld56, Ty.sz56, Ty.sl56, Ty.zc56, Ty.by56, Ty.ld58, Ty.sz58, Ty.zc58, Ty.by58, Ty.pl58, Ty.fl58_0, Ty.fl58_1, Ty.fl58_2, Ty.ld77, Ty.sz77, Ty.zc77, Ty.by77, Ty.pl77, Ty.fl77_0, Ty.fl77_1, Ty.fl77_2, Ty.fl77_3, Ty.fl77_4, Ty.fl77_5, Ty.ld80, Ty.sz80, Ty.zc80, Ty.by80, Ty.pl80, Ty.fl80_0, Ty.fl80_1, Ty.fl80_2, Ty.fl80_3, Ty.fl80_4, Ty.fl80_5, Ty.fl80_6, Ty.fl80_7, Ty.ld139, Ty.sz139, Ty.zc139, Ty.by139, DAct.cells_length, DAct.cells_flat, DAct.cells_take, DAct.get0, DAct.get1, DAct.get4, DAct.get5, DAct.get6, DAct.get7, *]; rfl)
          | (with_reducible exact within_ok _ _ _ _)
          | (with_reducible exact isDeskAct_ok _ _)
          | (with_reducible refine tickDesk_at _ _ items _ _ _ _ _ ?_ ?_ ?_ ?_
             · assumption
             · assumption
             · assumption
             · assumption
             )
          | ((with_reducible refine Z2w (n := 98) ?_); rintro _ _ ⟨rfl, hh⟩; replace hh := hh.symm; subst hh)
          | ((with_reducible refine Z2w (n := 125) ?_); rintro _ _ ⟨rfl, hh⟩; replace hh := hh.symm; subst hh)
          | ((with_reducible refine Z2w (n := 126) ?_); rintro _ _ ⟨X, rfl, rfl⟩)
          )
        refine desk_keep (.inl rfl) ?_ hsp hids; simp
      · have h40' : decide ((items.length : Int) = 40) = false := decide_eq_false (by omega)
        simp only [if_neg h40]
        have hbs : bsl Try.prog 56 (h ++ ⟨2, 6, cellsL items⟩ :: (L ++ [⟨2, 1, [.int .i64 now, vp, .slice (some ⟨h.length, 0, sp⟩) items.length items.length]⟩, ⟨2, 1, a.cells⟩, ⟨2, 1, [.int .i64 0, .slice none 0 0, .slice none 0 0]⟩])) 1 [(0, .agg (freeI a).cells.toArray)] = _ :=
          bsl_agg Ty.sl56 Ty.zc77 rfl rfl (by decide) rfl
        have hlen : (items ++ [freeI a]).length = items.length + 1 := by simp
        have hcl : cellsL (items ++ [freeI a]) = cellsL items ++ (freeI a).cells := by rw [cellsL_append]; simp [cellsL]
        rw [hlen]
        have hap1 := apS_full (P := Try.prog) (H := h ++ ⟨2, 6, cellsL items⟩ :: (L ++ [⟨2, 1, [.int .i64 now, vp, .slice (some ⟨h.length, 0, some 0⟩) items.length items.length]⟩, ⟨2, 1, a.cells⟩, ⟨2, 1, [.int .i64 0, .slice none 0 0, .slice none 0 0]⟩, ⟨2, 6, (freeI a).cells⟩]))
          (id1 := h.length) (id2 := h.length + (L.length + 4)) (sp := none) (n := items.length) (m := 1) Ty.sl56 Ty.zc77 Ty.by77 (cs := cellsL items) (xs := (freeI a).cells) (by simp) (by rw [get_at, Z0, get_at]; rfl) (cellsL_len _) rfl (by decide) (by omega) (by omega)
        have hap2 := apS_full_none (P := Try.prog) (H := h ++ ⟨2, 6, cellsL items⟩ :: (L ++ [⟨2, 1, [.int .i64 now, vp, .slice (some ⟨h.length, 0, none⟩) items.length items.length]⟩, ⟨2, 1, a.cells⟩, ⟨2, 1, [.int .i64 0, .slice none 0 0, .slice none 0 0]⟩, ⟨2, 6, (freeI a).cells⟩]))
          (id1 := h.length) (id2 := h.length + (L.length + 4)) (sp := none) (n := items.length) (m := 1) Ty.sl56 Ty.zc77 Ty.by77 (cs := cellsL items) (xs := (freeI a).cells) (by simp) (by rw [get_at, Z0, get_at]; rfl) (cellsL_len _) rfl (by decide) (by omega) (by omega)
        simp only [freeI, Item.cells, Z7, Zc, Zd, Z6, Z3, Z2, Zf, Zh, Nat.reduceAdd, Z1h, Z9] at hbs hap1 hap2
        clear h40 hk1
        rcases hsp with rfl | rfl
        · refine Z36 Try.func109 rfl Try.ntmps109 (by simp) (by dsimp only [Try.f109]) ?_
          repeat' (first
            | ((with_reducible refine eq_go ?_); simp only [stp, ev, Zb, Z2e, Z1z, Zk, Zl, reduceIte, Nat.reduceEqDiff, Zj, Zz, Zu, Z16, Z1a, Zm, Zp, Zo, Zd, Zx, Z2b, Z2x, Z1g, Z17, Zq, Zn, Zv, Z2p, Z2f, Z2o, Z2d, Z2g, Z1c, Z1b, Z2i, Z2n, Z2h, Z2j, Z2k, Z2l, Z2m, Z31, Z8, Z5, Z13, Zy, bld, fillL, vcs, splice, Ze, Z1, Z0, Z35, Ze, Z1, Z0, ldv, stv, vcs, fldA, idxA, blt, lenV, Z10, Z3, Z2, Zf, Zg, Ze, Z1, Z0, Z14, Zw, Zh, Zr, Z33, Z15, Z7, Zc, Z6, Z3, Z2, Zf, Zi, Nat.reduceAdd, Nat.reduceMul, Nat.reduceLeDiff, Z11, Z12, Z1y, Z1h, Z2c, Z23, Z28, Z27, Z26, Z25, Z24, Z1m, Z1l, Z1k, Z1j, Z1i, Z1w, Z1v, Z1u, Z1t, Z1s, Z32, Z2y, Z2q, Z2r, Z2s, Z20, Z1q, Z1r, Z2z, Z2t, Z21, Z22, splice, Za, Z9, Z1, Z0, Z19, Zt, Zs, Z18, newB, vcs, Z30, Z2v, Z1x, Z29, Z1n, Z2u, Z1o, Z1f, Z1p, Z1d, Z1e, Ty.ld3, Ty.sz3, Ty.zc3, Ty.by3, Ty.ld24, Ty.sz24, Ty.sl24, Ty.zc24, Ty.by24, Ty.ld56, Ty.sz56, Ty.sl56, Ty.zc56, Ty.by56, Ty.ld58, Ty.sz58, Ty.zc58, Ty.by58, Ty.pl58, Ty.fl58_0, Ty.fl58_1, Ty.fl58_2, Ty.ld77, Ty.sz77, Ty.zc77, Ty.by77, Ty.pl77, Ty.fl77_0, Ty.fl77_1, Ty.fl77_2, Ty.fl77_3, Ty.fl77_4, Ty.fl77_5, Ty.ld80, Ty.sz80, Ty.zc80, Ty.by80, Ty.pl80, Ty.fl80_0, Ty.fl80_1, Ty.fl80_2, Ty.fl80_3, Ty.fl80_4, Ty.fl80_5, Ty.fl80_6, Ty.fl80_7, Ty.ld139, Ty.sz139, Ty.zc139, Ty.by139, DAct.cells_length, DAct.cells_flat, DAct.cells_take, DAct.get0, DAct.get1, DAct.get4, DAct.get5, DAct.get6, DAct.get7, *]; rfl)
            | (with_reducible refine aw_then ?_) | (with_reducible refine aw_skip ?_) | (with_reducible refine aw_ret ?_) | (with_reducible refine aw_exit ?_) | (with_reducible refine aw_block ?_) | (with_reducible refine xr_reg (by decide +kernel) ?_)
            | (with_reducible refine xr_nil ?_) | (with_reducible refine k_norm ?_) | (with_reducible refine k_ret ?_) | (with_reducible refine k_exit ?_) | (with_reducible refine b_norm ?_) | (with_reducible refine b_ret ?_) | (with_reducible refine b_exit ?_) | (with_reducible refine b_past (by decide) ?_)
            | (with_reducible refine xd_nil ?_)
            | (refine xr_cl (f := ?_) (fs := ?_) (cs := ?_) (args := ?_) (K := ?_) ?_ ?_ ?_ ?_ ?_
               rotate_left 5
               · simp only [ev]; rfl
               first
               | (· with_reducible exact Ty.ok98
                  rotate_left 2
                  refine Z2a 98 ?_
                  rotate_right 2)
               | (· with_reducible exact Ty.ok125
                  rotate_left 2
                  refine Z2a 125 ?_
                  rotate_right 2)
               | (· with_reducible exact Ty.ok126
                  rotate_left 2
                  refine Z2a 126 ?_
                  rotate_right 2)
               )
            | (refine xd_cl (f := ?_) (fs := ?_) (cs := ?_) (args := ?_) (v := ?_) ?_ ?_ ?_ ?_ ?_ ?_
               rotate_left 5
               · simp only [ev]; rfl
               · first | with_reducible exact Ty.ok98 | with_reducible exact Ty.ok125 | with_reducible exact Ty.ok126
               rotate_left 1
               · decide +kernel
               rotate_right 1)
            | (refine xr_do (v := ?_) (h' := ?_) (by exact rfl) ?_ ?_; rotate_left 2)
            | (refine xr_st (v := ?_) (h' := ?_) (by exact rfl) ?_ ?_; rotate_left 2)
            | (refine xd_reg (ms := [0, 0, 0, 4, 0, 16, 60, 0, 254, 511, 1023]) Ty.mx (by decide +kernel) (by decide +kernel) ?_)
            | (refine xd_bs (v := ?_) (h' := ?_) (L := ?_) (by decide +kernel) ?_ ?_ ?_
               rotate_left 3
               · simp only [stp, ev, Zb, Z2e, Z1z, Zk, Zl, reduceIte, Nat.reduceEqDiff, Zj, Zz, Zu, Z16, Z1a, Zm, Zp, Zo, Zd, Zx, Z2b, Z2x, Z1g, Z17, Zq, Zn, Zv, Z2p, Z2f, Z2o, Z2d, Z2g, Z1c, Z1b, Z2i, Z2n, Z2h, Z2j, Z2k, Z2l, Z2m, Z31, Z8, Z5, Z13, Zy, bld, fillL, vcs, splice, Ze, Z1, Z0, Z35, Ze, Z1, Z0, ldv, stv, vcs, fldA, idxA, blt, lenV, Z10, Z3, Z2, Zf, Zg, Ze, Z1, Z0, Z14, Zw, Zh, Zr, Z33, Z15, Z7, Zc, Z6, Z3, Z2, Zf, Zi, Nat.reduceAdd, Nat.reduceMul, Nat.reduceLeDiff, Z11, Z12, Z1y, Z1h, Z2c, Z23, Z28, Z27, Z26, Z25, Z24, Z1m, Z1l, Z1k, Z1j, Z1i, Z1w, Z1v, Z1u, Z1t, Z1s, Z32, Z2y, Z2q, Z2r, Z2s, Z20, Z1q, Z1r, Z2z, Z2t, Z21, Z22, splice, Za, Z9, Z1, Z0, Z19, Zt, Zs, Z18, newB, vcs, Z30, Z2v, Z1x, Z29, Z1n, Z2u, Z1o, Z1f, Z1p, Z1d, Z1e, Ty.ld3, Ty.sz3, Ty.zc3, Ty.by3, Ty.ld24, Ty.sz24, Ty.sl24, Ty.zc24, Ty.by24, Ty.ld56, Ty.sz56, Ty.sl56, Ty.zc56, Ty.by56, Ty.ld58, Ty.sz58, Ty.zc58, Ty.by58, Ty.pl58, Ty.fl58_0, Ty.fl58_1, Ty.fl58_2, Ty.ld77, Ty.sz77, Ty.zc77, Ty.by77, Ty.pl77, Ty.fl77_0, Ty.fl77_1, Ty.fl77_2, Ty.fl77_3, Ty.fl77_4, Ty.fl77_5, Ty.ld80, Ty.sz80, Ty.zc80, Ty.by80, Ty.pl80, Ty.fl80_0, Ty.fl80_1, Ty.fl80_2, Ty.fl80_3, Ty.fl80_4, Ty.fl80_5, Ty.fl80_6, Ty.fl80_7, Ty.ld139, Ty.sz139, Ty.zc139, Ty.by139, DAct.cells_length, DAct.cells_flat, DAct.cells_take, DAct.get0, DAct.get1, DAct.get4, DAct.get5, DAct.get6, DAct.get7, *]; rfl
               · exact rfl
               skip)
            | (refine xd_do (v := ?_) (by exact rfl) (by decide +kernel) ?_ ?_; rotate_left 1)
            | (refine aw_ift (by decide) ?_ ?_
               · simp only [ev, Zb, reduceIte, Nat.reduceEqDiff, *])
            | (refine aw_iff (by decide) ?_ ?_
               · simp only [ev, Zb, reduceIte, Nat.reduceEqDiff, *])
            | (refine aw_if (b := ?_) (by decide) ?_ (fun hb => ?_) (fun hb => ?_)
               rotate_left 1
               · simp only [ev, Zb, reduceIte, Nat.reduceEqDiff, *]; rfl)
            | (refine r_ret (vs := ?_) ?_ ?_
               rotate_left 1
               · simp only [resV, oneOf, stp, ev, Zb, Z2e, Z1z, Zk, Zl, reduceIte, Nat.reduceEqDiff, Zj, Zz, Zu, Z16, Z1a, Zm, Zp, Zo, Zd, Zx, Z2b, Z2x, Z1g, Z17, Zq, Zn, Zv, Z2p, Z2f, Z2o, Z2d, Z2g, Z1c, Z1b, Z2i, Z2n, Z2h, Z2j, Z2k, Z2l, Z2m, Z31, Z8, Z5, Z13, Zy, bld, fillL, vcs, splice, Ze, Z1, Z0, Z35, Ze, Z1, Z0, ldv, stv, vcs, fldA, idxA, blt, lenV, Z10, Z3, Z2, Zf, Zg, Ze, Z1, Z0, Z14, Zw, Zh, Zr, Z33, Z15, Z7, Zc, Z6, Z3, Z2, Zf, Zi, Nat.reduceAdd, Nat.reduceMul, Nat.reduceLeDiff, Z11, Z12, Z1y, Z1h, Z2c, Z23, Z28, Z27, Z26, Z25, Z24, Z1m, Z1l, Z1k, Z1j, Z1i, Z1w, Z1v, Z1u, Z1t, Z1s, Z32, Z2y, Z2q, Z2r, Z2s, Z20, Z1q, Z1r, Z2z, Z2t, Z21, Z22, splice, Za, Z9, Z1, Z0, Z19, Zt, Zs, Z18, newB, vcs, Z30, Z2v, Z1x, Z29, Z1n, Z2u, Z1o, Z1f, Z1p, Z1d, Z1e, Ty.ld3, Ty.sz3, Ty.zc3, Ty.by3, Ty.ld24, Ty.sz24, Ty.sl24, Ty.zc24, Ty.by24, Ty.ld56, Ty.sz56, Ty.sl56, Ty.zc56, Ty.by56, Ty.ld58, Ty.sz58, Ty.zc58, Ty.by58, Ty.pl58, Ty.fl58_0, Ty.fl58_1, Ty.fl58_2, Ty.ld77, Ty.sz77, Ty.zc77, Ty.by77, Ty.pl77, Ty.fl77_0, Ty.fl77_1, Ty.fl77_2, Ty.fl77_3, Ty.fl77_4, Ty.fl77_5, Ty.ld80, Ty.sz80, Ty.zc80, Ty.by80, Ty.pl80, Ty.fl80_0, Ty.fl80_1, Ty.fl80_2, Ty.fl80_3, Ty.fl80_4, Ty.fl80_5, Ty.fl80_6, Ty.fl80_7, Ty.ld139, Ty.sz139, Ty.zc139, Ty.by139, DAct.cells_length, DAct.cells_flat, DAct.cells_take, DAct.get0, DAct.get1, DAct.get4, DAct.get5, DAct.get6, DAct.get7, *]; rfl)
            | (with_reducible exact within_ok _ _ _ _)
            | (with_reducible exact isDeskAct_ok _ _)
            | (with_reducible refine tickDesk_at _ _ items _ _ _ _ _ ?_ ?_ ?_ ?_
               · assumption
               · assumption
               · assumption
               · assumption
               )
            | ((with_reducible refine Z2w (n := 98) ?_); rintro _ _ ⟨rfl, hh⟩; replace hh := hh.symm; subst hh)
            | ((with_reducible refine Z2w (n := 125) ?_); rintro _ _ ⟨rfl, hh⟩; replace hh := hh.symm; subst hh)
            | ((with_reducible refine Z2w (n := 126) ?_); rintro _ _ ⟨X, rfl, rfl⟩)
            )
          rw [← hlen]
          refine desk_keep (k := h.length + (L.length + 5)) (.inr (by omega)) ?_ (.inr rfl) hids
          rw [get_at, Z0, get_at, hcl]; rfl
        · refine Z36 Try.func109 rfl Try.ntmps109 (by simp) (by dsimp only [Try.f109]) ?_
          repeat' (first
            | ((with_reducible refine eq_go ?_); simp only [stp, ev, Zb, Z2e, Z1z, Zk, Zl, reduceIte, Nat.reduceEqDiff, Zj, Zz, Zu, Z16, Z1a, Zm, Zp, Zo, Zd, Zx, Z2b, Z2x, Z1g, Z17, Zq, Zn, Zv, Z2p, Z2f, Z2o, Z2d, Z2g, Z1c, Z1b, Z2i, Z2n, Z2h, Z2j, Z2k, Z2l, Z2m, Z31, Z8, Z5, Z13, Zy, bld, fillL, vcs, splice, Ze, Z1, Z0, Z35, Ze, Z1, Z0, ldv, stv, vcs, fldA, idxA, blt, lenV, Z10, Z3, Z2, Zf, Zg, Ze, Z1, Z0, Z14, Zw, Zh, Zr, Z33, Z15, Z7, Zc, Z6, Z3, Z2, Zf, Zi, Nat.reduceAdd, Nat.reduceMul, Nat.reduceLeDiff, Z11, Z12, Z1y, Z1h, Z2c, Z23, Z28, Z27, Z26, Z25, Z24, Z1m, Z1l, Z1k, Z1j, Z1i, Z1w, Z1v, Z1u, Z1t, Z1s, Z32, Z2y, Z2q, Z2r, Z2s, Z20, Z1q, Z1r, Z2z, Z2t, Z21, Z22, splice, Za, Z9, Z1, Z0, Z19, Zt, Zs, Z18, newB, vcs, Z30, Z2v, Z1x, Z29, Z1n, Z2u, Z1o, Z1f, Z1p, Z1d, Z1e, Ty.ld3, Ty.sz3, Ty.zc3, Ty.by3, Ty.ld24, Ty.sz24, Ty.sl24, Ty.zc24, Ty.by24, Ty.ld56, Ty.sz56, Ty.sl56, Ty.zc56, Ty.by56, Ty.ld58, Ty.sz58, Ty.zc58, Ty.by58, Ty.pl58, Ty.fl58_0, Ty.fl58_1, Ty.fl58_2, Ty.ld77, Ty.sz77, Ty.zc77, Ty.by77, Ty.pl77, Ty.fl77_0, Ty.fl77_1, Ty.fl77_2, Ty.fl77_3, Ty.fl77_4, Ty.fl77_5, Ty.ld80, Ty.sz80, Ty.zc80, Ty.by80, Ty.pl80, Ty.fl80_0, Ty.fl80_1, Ty.fl80_2, Ty.fl80_3, Ty.fl80_4, Ty.fl80_5, Ty.fl80_6, Ty.fl80_7, Ty.ld139, Ty.sz139, Ty.zc139, Ty.by139, DAct.cells_length, DAct.cells_flat, DAct.cells_take, DAct.get0, DAct.get1, DAct.get4, DAct.get5, DAct.get6, DAct.get7, *]; rfl)
            | (with_reducible refine aw_then ?_) | (with_reducible refine aw_skip ?_) | (with_reducible refine aw_ret ?_) | (with_reducible refine aw_exit ?_) | (with_reducible refine aw_block ?_) | (with_reducible refine xr_reg (by decide +kernel) ?_)
            | (with_reducible refine xr_nil ?_) | (with_reducible refine k_norm ?_) | (with_reducible refine k_ret ?_) | (with_reducible refine k_exit ?_) | (with_reducible refine b_norm ?_) | (with_reducible refine b_ret ?_) | (with_reducible refine b_exit ?_) | (with_reducible refine b_past (by decide) ?_)
            | (with_reducible refine xd_nil ?_)
            | (refine xr_cl (f := ?_) (fs := ?_) (cs := ?_) (args := ?_) (K := ?_) ?_ ?_ ?_ ?_ ?_
               rotate_left 5
               · simp only [ev]; rfl
               first
               | (· with_reducible exact Ty.ok98
                  rotate_left 2
                  refine Z2a 98 ?_
                  rotate_right 2)
               | (· with_reducible exact Ty.ok125
                  rotate_left 2
                  refine Z2a 125 ?_
                  rotate_right 2)
               | (· with_reducible exact Ty.ok126
                  rotate_left 2
                  refine Z2a 126 ?_
                  rotate_right 2)
               )
            | (refine xd_cl (f := ?_) (fs := ?_) (cs := ?_) (args := ?_) (v := ?_) ?_ ?_ ?_ ?_ ?_ ?_
               rotate_left 5
               · simp only [ev]; rfl
               · first | with_reducible exact Ty.ok98 | with_reducible exact Ty.ok125 | with_reducible exact Ty.ok126
               rotate_left 1
               · decide +kernel
               rotate_right 1)
            | (refine xr_do (v := ?_) (h' := ?_) (by exact rfl) ?_ ?_; rotate_left 2)
            | (refine xr_st (v := ?_) (h' := ?_) (by exact rfl) ?_ ?_; rotate_left 2)
            | (refine xd_reg (ms := [0, 0, 0, 4, 0, 16, 60, 0, 254, 511, 1023]) Ty.mx (by decide +kernel) (by decide +kernel) ?_)
            | (refine xd_bs (v := ?_) (h' := ?_) (L := ?_) (by decide +kernel) ?_ ?_ ?_
               rotate_left 3
               · simp only [stp, ev, Zb, Z2e, Z1z, Zk, Zl, reduceIte, Nat.reduceEqDiff, Zj, Zz, Zu, Z16, Z1a, Zm, Zp, Zo, Zd, Zx, Z2b, Z2x, Z1g, Z17, Zq, Zn, Zv, Z2p, Z2f, Z2o, Z2d, Z2g, Z1c, Z1b, Z2i, Z2n, Z2h, Z2j, Z2k, Z2l, Z2m, Z31, Z8, Z5, Z13, Zy, bld, fillL, vcs, splice, Ze, Z1, Z0, Z35, Ze, Z1, Z0, ldv, stv, vcs, fldA, idxA, blt, lenV, Z10, Z3, Z2, Zf, Zg, Ze, Z1, Z0, Z14, Zw, Zh, Zr, Z33, Z15, Z7, Zc, Z6, Z3, Z2, Zf, Zi, Nat.reduceAdd, Nat.reduceMul, Nat.reduceLeDiff, Z11, Z12, Z1y, Z1h, Z2c, Z23, Z28, Z27, Z26, Z25, Z24, Z1m, Z1l, Z1k, Z1j, Z1i, Z1w, Z1v, Z1u, Z1t, Z1s, Z32, Z2y, Z2q, Z2r, Z2s, Z20, Z1q, Z1r, Z2z, Z2t, Z21, Z22, splice, Za, Z9, Z1, Z0, Z19, Zt, Zs, Z18, newB, vcs, Z30, Z2v, Z1x, Z29, Z1n, Z2u, Z1o, Z1f, Z1p, Z1d, Z1e, Ty.ld3, Ty.sz3, Ty.zc3, Ty.by3, Ty.ld24, Ty.sz24, Ty.sl24, Ty.zc24, Ty.by24, Ty.ld56, Ty.sz56, Ty.sl56, Ty.zc56, Ty.by56, Ty.ld58, Ty.sz58, Ty.zc58, Ty.by58, Ty.pl58, Ty.fl58_0, Ty.fl58_1, Ty.fl58_2, Ty.ld77, Ty.sz77, Ty.zc77, Ty.by77, Ty.pl77, Ty.fl77_0, Ty.fl77_1, Ty.fl77_2, Ty.fl77_3, Ty.fl77_4, Ty.fl77_5, Ty.ld80, Ty.sz80, Ty.zc80, Ty.by80, Ty.pl80, Ty.fl80_0, Ty.fl80_1, Ty.fl80_2, Ty.fl80_3, Ty.fl80_4, Ty.fl80_5, Ty.fl80_6, Ty.fl80_7, Ty.ld139, Ty.sz139, Ty.zc139, Ty.by139, DAct.cells_length, DAct.cells_flat, DAct.cells_take, DAct.get0, DAct.get1, DAct.get4, DAct.get5, DAct.get6, DAct.get7, *]; rfl
               · exact rfl
               skip)
            | (refine xd_do (v := ?_) (by exact rfl) (by decide +kernel) ?_ ?_; rotate_left 1)
            | (refine aw_ift (by decide) ?_ ?_
               · simp only [ev, Zb, reduceIte, Nat.reduceEqDiff, *])
            | (refine aw_iff (by decide) ?_ ?_
               · simp only [ev, Zb, reduceIte, Nat.reduceEqDiff, *])
            | (refine aw_if (b := ?_) (by decide) ?_ (fun hb => ?_) (fun hb => ?_)
               rotate_left 1
               · simp only [ev, Zb, reduceIte, Nat.reduceEqDiff, *]; rfl)
            | (refine r_ret (vs := ?_) ?_ ?_
               rotate_left 1
               · simp only [resV, oneOf, stp, ev, Zb, Z2e, Z1z, Zk, Zl, reduceIte, Nat.reduceEqDiff, Zj, Zz, Zu, Z16, Z1a, Zm, Zp, Zo, Zd, Zx, Z2b, Z2x, Z1g, Z17, Zq, Zn, Zv, Z2p, Z2f, Z2o, Z2d, Z2g, Z1c, Z1b, Z2i, Z2n, Z2h, Z2j, Z2k, Z2l, Z2m, Z31, Z8, Z5, Z13, Zy, bld, fillL, vcs, splice, Ze, Z1, Z0, Z35, Ze, Z1, Z0, ldv, stv, vcs, fldA, idxA, blt, lenV, Z10, Z3, Z2, Zf, Zg, Ze, Z1, Z0, Z14, Zw, Zh, Zr, Z33, Z15, Z7, Zc, Z6, Z3, Z2, Zf, Zi, Nat.reduceAdd, Nat.reduceMul, Nat.reduceLeDiff, Z11, Z12, Z1y, Z1h, Z2c, Z23, Z28, Z27, Z26, Z25, Z24, Z1m, Z1l, Z1k, Z1j, Z1i, Z1w, Z1v, Z1u, Z1t, Z1s, Z32, Z2y, Z2q, Z2r, Z2s, Z20, Z1q, Z1r, Z2z, Z2t, Z21, Z22, splice, Za, Z9, Z1, Z0, Z19, Zt, Zs, Z18, newB, vcs, Z30, Z2v, Z1x, Z29, Z1n, Z2u, Z1o, Z1f, Z1p, Z1d, Z1e, Ty.ld3, Ty.sz3, Ty.zc3, Ty.by3, Ty.ld24, Ty.sz24, Ty.sl24, Ty.zc24, Ty.by24, Ty.ld56, Ty.sz56, Ty.sl56, Ty.zc56, Ty.by56, Ty.ld58, Ty.sz58, Ty.zc58, Ty.by58, Ty.pl58, Ty.fl58_0, Ty.fl58_1, Ty.fl58_2, Ty.ld77, Ty.sz77, Ty.zc77, Ty.by77, Ty.pl77, Ty.fl77_0, Ty.fl77_1, Ty.fl77_2, Ty.fl77_3, Ty.fl77_4, Ty.fl77_5, Ty.ld80, Ty.sz80, Ty.zc80, Ty.by80, Ty.pl80, Ty.fl80_0, Ty.fl80_1, Ty.fl80_2, Ty.fl80_3, Ty.fl80_4, Ty.fl80_5, Ty.fl80_6, Ty.fl80_7, Ty.ld139, Ty.sz139, Ty.zc139, Ty.by139, DAct.cells_length, DAct.cells_flat, DAct.cells_take, DAct.get0, DAct.get1, DAct.get4, DAct.get5, DAct.get6, DAct.get7, *]; rfl)
            | (with_reducible exact within_ok _ _ _ _)
            | (with_reducible exact isDeskAct_ok _ _)
            | (with_reducible refine tickDesk_at _ _ items _ _ _ _ _ ?_ ?_ ?_ ?_
               · assumption
               · assumption
               · assumption
               · assumption
               )
            | ((with_reducible refine Z2w (n := 98) ?_); rintro _ _ ⟨rfl, hh⟩; replace hh := hh.symm; subst hh)
            | ((with_reducible refine Z2w (n := 125) ?_); rintro _ _ ⟨rfl, hh⟩; replace hh := hh.symm; subst hh)
            | ((with_reducible refine Z2w (n := 126) ?_); rintro _ _ ⟨X, rfl, rfl⟩)
            )
          rw [← hlen]
          refine desk_keep (k := h.length + (L.length + 5)) (.inr (by omega)) ?_ (.inr rfl) hids
          rw [get_at, Z0, get_at, hcl]; rfl
    · have hk1' : decide (a.kind = 1) = false := decide_eq_false hk1
      simp only [if_neg hk1]
      by_cases hk8 : a.kind = 8
      · have hk8' : decide (a.kind = 8) = true := decide_eq_true hk8
        simp only [if_pos hk8]
        have hm := form_many hfm hk8
        have hml : (if 10000 < now + a.many then items else items.map (tickI (now + a.many))).length = items.length := by split <;> simp
        clear hk1 hk8
        rw [hml]
        generalize hI : (if 10000 < now + a.many then items else items.map (tickI (now + a.many))) = I at *
        refine Z36 Try.func109 rfl Try.ntmps109 (by simp) (by dsimp only [Try.f109]) ?_
        repeat' (first
          | ((with_reducible refine eq_go ?_); simp only [stp, ev, Zb, Z2e, Z1z, Zk, Zl, reduceIte, Nat.reduceEqDiff, Zj, Zz, Zu, Z16, Z1a, Zm, Zp, Zo, Zd, Zx, Z2b, Z2x, Z1g, Z17, Zq, Zn, Zv, Z2p, Z2f, Z2o, Z2d, Z2g, Z1c, Z1b, Z2i, Z2n, Z2h, Z2j, Z2k, Z2l, Z2m, Z31, Z8, Z5, Z13, Zy, bld, fillL, vcs, splice, Ze, Z1, Z0, Z35, Ze, Z1, Z0, ldv, stv, vcs, fldA, idxA, blt, lenV, Z10, Z3, Z2, Zf, Zg, Ze, Z1, Z0, Z14, Zw, Zh, Zr, Z33, Z15, Z7, Zc, Z6, Z3, Z2, Zf, Zi, Nat.reduceAdd, Nat.reduceMul, Nat.reduceLeDiff, Z11, Z12, Z1y, Z1h, Z2c, Z23, Z28, Z27, Z26, Z25, Z24, Z1m, Z1l, Z1k, Z1j, Z1i, Z1w, Z1v, Z1u, Z1t, Z1s, Z32, Z2y, Z2q, Z2r, Z2s, Z20, Z1q, Z1r, Z2z, Z2t, Z21, Z22, splice, Za, Z9, Z1, Z0, Z19, Zt, Zs, Z18, newB, vcs, Z30, Z2v, Z1x, Z29, Z1n, Z2u, Z1o, Z1f, Z1p, Z1d, Z1e, Ty.ld3, Ty.sz3, Ty.zc3, Ty.by3, Ty.ld24, Ty.sz24, Ty.sl24, Ty.zc24, Ty.by24, Ty.ld56, Ty.sz56, Ty.sl56, Ty.zc56, Ty.by56, Ty.ld58, Ty.sz58, Ty.zc58, Ty.by58, Ty.pl58, Ty.fl58_0, Ty.fl58_1, Ty.fl58_2, Ty.ld77, Ty.sz77, Ty.zc77, Ty.by77, Ty.pl77, Ty.fl77_0, Ty.fl77_1, Ty.fl77_2, Ty.fl77_3, Ty.fl77_4, Ty.fl77_5, Ty.ld80, Ty.sz80, Ty.zc80, Ty.by80, Ty.pl80, Ty.fl80_0, Ty.fl80_1, Ty.fl80_2, Ty.fl80_3, Ty.fl80_4, Ty.fl80_5, Ty.fl80_6, Ty.fl80_7, Ty.ld139, Ty.sz139, Ty.zc139, Ty.by139, DAct.cells_length, DAct.cells_flat, DAct.cells_take, DAct.get0, DAct.get1, DAct.get4, DAct.get5, DAct.get6, DAct.get7, *]; rfl)
          | (with_reducible refine aw_then ?_) | (with_reducible refine aw_skip ?_) | (with_reducible refine aw_ret ?_) | (with_reducible refine aw_exit ?_) | (with_reducible refine aw_block ?_) | (with_reducible refine xr_reg (by decide +kernel) ?_)
          | (with_reducible refine xr_nil ?_) | (with_reducible refine k_norm ?_) | (with_reducible refine k_ret ?_) | (with_reducible refine k_exit ?_) | (with_reducible refine b_norm ?_) | (with_reducible refine b_ret ?_) | (with_reducible refine b_exit ?_) | (with_reducible refine b_past (by decide) ?_)
          | (with_reducible refine xd_nil ?_)
          | (refine xr_cl (f := ?_) (fs := ?_) (cs := ?_) (args := ?_) (K := ?_) ?_ ?_ ?_ ?_ ?_
             rotate_left 5
             · simp only [ev]; rfl
             first
             | (· with_reducible exact Ty.ok98
                rotate_left 2
                refine Z2a 98 ?_
                rotate_right 2)
             | (· with_reducible exact Ty.ok125
                rotate_left 2
                refine Z2a 125 ?_
                rotate_right 2)
             | (· with_reducible exact Ty.ok126
                rotate_left 2
                refine Z2a 126 ?_
                rotate_right 2)
             )
          | (refine xd_cl (f := ?_) (fs := ?_) (cs := ?_) (args := ?_) (v := ?_) ?_ ?_ ?_ ?_ ?_ ?_
             rotate_left 5
             · simp only [ev]; rfl
             · first | with_reducible exact Ty.ok98 | with_reducible exact Ty.ok125 | with_reducible exact Ty.ok126
             rotate_left 1
             · decide +kernel
             rotate_right 1)
          | (refine xr_do (v := ?_) (h' := ?_) (by exact rfl) ?_ ?_; rotate_left 2)
          | (refine xr_st (v := ?_) (h' := ?_) (by exact rfl) ?_ ?_; rotate_left 2)
          | (refine xd_reg (ms := [0, 0, 0, 4, 0, 16, 60, 0, 254, 511, 1023]) Ty.mx (by decide +kernel) (by decide +kernel) ?_)
          | (refine xd_bs (v := ?_) (h' := ?_) (L := ?_) (by decide +kernel) ?_ ?_ ?_
             rotate_left 3
             · simp only [stp, ev, Zb, Z2e, Z1z, Zk, Zl, reduceIte, Nat.reduceEqDiff, Zj, Zz, Zu, Z16, Z1a, Zm, Zp, Zo, Zd, Zx, Z2b, Z2x, Z1g, Z17, Zq, Zn, Zv, Z2p, Z2f, Z2o, Z2d, Z2g, Z1c, Z1b, Z2i, Z2n, Z2h, Z2j, Z2k, Z2l, Z2m, Z31, Z8, Z5, Z13, Zy, bld, fillL, vcs, splice, Ze, Z1, Z0, Z35, Ze, Z1, Z0, ldv, stv, vcs, fldA, idxA, blt, lenV, Z10, Z3, Z2, Zf, Zg, Ze, Z1, Z0, Z14, Zw, Zh, Zr, Z33, Z15, Z7, Zc, Z6, Z3, Z2, Zf, Zi, Nat.reduceAdd, Nat.reduceMul, Nat.reduceLeDiff, Z11, Z12, Z1y, Z1h, Z2c, Z23, Z28, Z27, Z26, Z25, Z24, Z1m, Z1l, Z1k, Z1j, Z1i, Z1w, Z1v, Z1u, Z1t, Z1s, Z32, Z2y, Z2q, Z2r, Z2s, Z20, Z1q, Z1r, Z2z, Z2t, Z21, Z22, splice, Za, Z9, Z1, Z0, Z19, Zt, Zs, Z18, newB, vcs, Z30, Z2v, Z1x, Z29, Z1n, Z2u, Z1o, Z1f, Z1p, Z1d, Z1e, Ty.ld3, Ty.sz3, Ty.zc3, Ty.by3, Ty.ld24, Ty.sz24, Ty.sl24, Ty.zc24, Ty.by24, Ty.ld56, Ty.sz56, Ty.sl56, Ty.zc56, Ty.by56, Ty.ld58, Ty.sz58, Ty.zc58, Ty.by58, Ty.pl58, Ty.fl58_0, Ty.fl58_1, Ty.fl58_2, Ty.ld77, Ty.sz77, Ty.zc77, Ty.by77, Ty.pl77, Ty.fl77_0, Ty.fl77_1, Ty.fl77_2, Ty.fl77_3, Ty.fl77_4, Ty.fl77_5, Ty.ld80, Ty.sz80, Ty.zc80, Ty.by80, Ty.pl80, Ty.fl80_0, Ty.fl80_1, Ty.fl80_2, Ty.fl80_3, Ty.fl80_4, Ty.fl80_5, Ty.fl80_6, Ty.fl80_7, Ty.ld139, Ty.sz139, Ty.zc139, Ty.by139, DAct.cells_length, DAct.cells_flat, DAct.cells_take, DAct.get0, DAct.get1, DAct.get4, DAct.get5, DAct.get6, DAct.get7, *]; rfl
             · exact rfl
             skip)
          | (refine xd_do (v := ?_) (by exact rfl) (by decide +kernel) ?_ ?_; rotate_left 1)
          | (refine aw_ift (by decide) ?_ ?_
             · simp only [ev, Zb, reduceIte, Nat.reduceEqDiff, *])
          | (refine aw_iff (by decide) ?_ ?_
             · simp only [ev, Zb, reduceIte, Nat.reduceEqDiff, *])
          | (refine aw_if (b := ?_) (by decide) ?_ (fun hb => ?_) (fun hb => ?_)
             rotate_left 1
             · simp only [ev, Zb, reduceIte, Nat.reduceEqDiff, *]; rfl)
          | (refine r_ret (vs := ?_) ?_ ?_
             rotate_left 1
             · simp only [resV, oneOf, stp, ev, Zb, Z2e, Z1z, Zk, Zl, reduceIte, Nat.reduceEqDiff, Zj, Zz, Zu, Z16, Z1a, Zm, Zp, Zo, Zd, Zx, Z2b, Z2x, Z1g, Z17, Zq, Zn, Zv, Z2p, Z2f, Z2o, Z2d, Z2g, Z1c, Z1b, Z2i, Z2n, Z2h, Z2j, Z2k, Z2l, Z2m, Z31, Z8, Z5, Z13, Zy, bld, fillL, vcs, splice, Ze, Z1, Z0, Z35, Ze, Z1, Z0, ldv, stv, vcs, fldA, idxA, blt, lenV, Z10, Z3, Z2, Zf, Zg, Ze, Z1, Z0, Z14, Zw, Zh, Zr, Z33, Z15, Z7, Zc, Z6, Z3, Z2, Zf, Zi, Nat.reduceAdd, Nat.reduceMul, Nat.reduceLeDiff, Z11, Z12, Z1y, Z1h, Z2c, Z23, Z28, Z27, Z26, Z25, Z24, Z1m, Z1l, Z1k, Z1j, Z1i, Z1w, Z1v, Z1u, Z1t, Z1s, Z32, Z2y, Z2q, Z2r, Z2s, Z20, Z1q, Z1r, Z2z, Z2t, Z21, Z22, splice, Za, Z9, Z1, Z0, Z19, Zt, Zs, Z18, newB, vcs, Z30, Z2v, Z1x, Z29, Z1n, Z2u, Z1o, Z1f, Z1p, Z1d, Z1e, Ty.ld3, Ty.sz3, Ty.zc3, Ty.by3, Ty.ld24, Ty.sz24, Ty.sl24, Ty.zc24, Ty.by24, Ty.ld56, Ty.sz56, Ty.sl56, Ty.zc56, Ty.by56, Ty.ld58, Ty.sz58, Ty.zc58, Ty.by58, Ty.pl58, Ty.fl58_0, Ty.fl58_1, Ty.fl58_2, Ty.ld77, Ty.sz77, Ty.zc77, Ty.by77, Ty.pl77, Ty.fl77_0, Ty.fl77_1, Ty.fl77_2, Ty.fl77_3, Ty.fl77_4, Ty.fl77_5, Ty.ld80, Ty.sz80, Ty.zc80, Ty.by80, Ty.pl80, Ty.fl80_0, Ty.fl80_1, Ty.fl80_2, Ty.fl80_3, Ty.fl80_4, Ty.fl80_5, Ty.fl80_6, Ty.fl80_7, Ty.ld139, Ty.sz139, Ty.zc139, Ty.by139, DAct.cells_length, DAct.cells_flat, DAct.cells_take, DAct.get0, DAct.get1, DAct.get4, DAct.get5, DAct.get6, DAct.get7, *]; rfl)
          | (with_reducible exact within_ok _ _ _ _)
          | (with_reducible exact isDeskAct_ok _ _)
          | (with_reducible refine tickDesk_at _ _ items _ _ _ _ _ ?_ ?_ ?_ ?_
             · assumption
             · assumption
             · assumption
             · assumption
             )
          | ((with_reducible refine Z2w (n := 98) ?_); rintro _ _ ⟨rfl, hh⟩; replace hh := hh.symm; subst hh)
          | ((with_reducible refine Z2w (n := 125) ?_); rintro _ _ ⟨rfl, hh⟩; replace hh := hh.symm; subst hh)
          | ((with_reducible refine Z2w (n := 126) ?_); rintro _ _ ⟨X, rfl, rfl⟩)
          )
        rw [← hml]
        refine desk_keep (.inl rfl) ?_ hsp hids; simp
      · have hk8' : decide (a.kind = 8) = false := decide_eq_false hk8
        simp only [if_neg hk8]
        by_cases hin : inRange items a
        · simp only [if_pos hin]
          have hin' : decide (0 ≤ a.item ∧ a.item ≤ (items.length : Int) - 1) = true := decide_eq_true hin
          obtain ⟨hi0, hi1⟩ := hin
          have hi2 : a.item < (items.length : Int) := by omega
          have hi3 : a.item.toNat < items.length := by omega
          have hin3 : decide (a.item ≤ (items.length : Int) - 1) = true := decide_eq_true (by omega)
          have hmid := cellsL_mid hi3
          have hset := cellsL_set hi3 (nextI now people items[a.item.toNat] a)
          have hpl : a.item.toNat * 6 = (cellsL (items.take a.item.toNat)).length := by rw [cellsL_len, List.length_take, Nat.min_eq_left (by omega)]
          have hgd : items.getD a.item.toNat Item.nil = items[a.item.toNat] := by rw [List.getD_eq_getElem?_getD, List.getElem?_eq_getElem hi3]; rfl
          have hxr := hr _ (List.getElem_mem hi3)
          have hil2 : (items.set a.item.toNat (nextI now people items[a.item.toNat] a)).length = items.length := by simp
          rw [hgd, hil2]
          generalize items[a.item.toNat] = x at *
          generalize hpre : cellsL (items.take a.item.toNat) = pre at *
          generalize cellsL (items.drop (a.item.toNat + 1)) = post at *
          generalize hI : items.set a.item.toNat (nextI now people x a) = I at *
          have hmm := hmid
          rw [hmid]
          clear hmid hgd hr hpre hI hi3 hk1 hk8 hi1
          refine Z36 Try.func109 rfl Try.ntmps109 (by simp) (by dsimp only [Try.f109]) ?_
          repeat' (first
            | ((with_reducible refine eq_go ?_); simp only [stp, ev, Zb, Z2e, Z1z, Zk, Zl, reduceIte, Nat.reduceEqDiff, Zj, Zz, Zu, Z16, Z1a, Zm, Zp, Zo, Zd, Zx, Z2b, Z2x, Z1g, Z17, Zq, Zn, Zv, Z2p, Z2f, Z2o, Z2d, Z2g, Z1c, Z1b, Z2i, Z2n, Z2h, Z2j, Z2k, Z2l, Z2m, Z31, Z8, Z5, Z13, Zy, bld, fillL, vcs, splice, Ze, Z1, Z0, Z35, Ze, Z1, Z0, ldv, stv, vcs, fldA, idxA, blt, lenV, Z10, Z3, Z2, Zf, Zg, Ze, Z1, Z0, Z14, Zw, Zh, Zr, Z33, Z15, Z7, Zc, Z6, Z3, Z2, Zf, Zi, Nat.reduceAdd, Nat.reduceMul, Nat.reduceLeDiff, Z11, Z12, Z1y, Z1h, Z2c, Z23, Z28, Z27, Z26, Z25, Z24, Z1m, Z1l, Z1k, Z1j, Z1i, Z1w, Z1v, Z1u, Z1t, Z1s, Z32, Z2y, Z2q, Z2r, Z2s, Z20, Z1q, Z1r, Z2z, Z2t, Z21, Z22, splice, Za, Z9, Z1, Z0, Z19, Zt, Zs, Z18, newB, vcs, Z30, Z2v, Z1x, Z29, Z1n, Z2u, Z1o, Z1f, Z1p, Z1d, Z1e, Ty.ld3, Ty.sz3, Ty.zc3, Ty.by3, Ty.ld24, Ty.sz24, Ty.sl24, Ty.zc24, Ty.by24, Ty.ld56, Ty.sz56, Ty.sl56, Ty.zc56, Ty.by56, Ty.ld58, Ty.sz58, Ty.zc58, Ty.by58, Ty.pl58, Ty.fl58_0, Ty.fl58_1, Ty.fl58_2, Ty.ld77, Ty.sz77, Ty.zc77, Ty.by77, Ty.pl77, Ty.fl77_0, Ty.fl77_1, Ty.fl77_2, Ty.fl77_3, Ty.fl77_4, Ty.fl77_5, Ty.ld80, Ty.sz80, Ty.zc80, Ty.by80, Ty.pl80, Ty.fl80_0, Ty.fl80_1, Ty.fl80_2, Ty.fl80_3, Ty.fl80_4, Ty.fl80_5, Ty.fl80_6, Ty.fl80_7, Ty.ld139, Ty.sz139, Ty.zc139, Ty.by139, DAct.cells_length, DAct.cells_flat, DAct.cells_take, DAct.get0, DAct.get1, DAct.get4, DAct.get5, DAct.get6, DAct.get7, Z35, *]; rfl)
            | (with_reducible refine aw_then ?_) | (with_reducible refine aw_skip ?_) | (with_reducible refine aw_ret ?_) | (with_reducible refine aw_exit ?_) | (with_reducible refine aw_block ?_) | (with_reducible refine xr_reg (by decide +kernel) ?_)
            | (with_reducible refine xr_nil ?_) | (with_reducible refine k_norm ?_) | (with_reducible refine k_ret ?_) | (with_reducible refine k_exit ?_) | (with_reducible refine b_norm ?_) | (with_reducible refine b_ret ?_) | (with_reducible refine b_exit ?_) | (with_reducible refine b_past (by decide) ?_)
            | (with_reducible refine xd_nil ?_)
            | (refine xr_cl (f := ?_) (fs := ?_) (cs := ?_) (args := ?_) (K := ?_) ?_ ?_ ?_ ?_ ?_
               rotate_left 5
               · simp only [ev]; rfl
               first
               | (· with_reducible exact Ty.ok98
                  rotate_left 2
                  refine Z2a 98 ?_
                  rotate_right 2)
               | (· with_reducible exact Ty.ok125
                  rotate_left 2
                  refine Z2a 125 ?_
                  rotate_right 2)
               | (· with_reducible exact Ty.ok126
                  rotate_left 2
                  refine Z2a 126 ?_
                  rotate_right 2)
               )
            | (refine xd_cl (f := ?_) (fs := ?_) (cs := ?_) (args := ?_) (v := ?_) ?_ ?_ ?_ ?_ ?_ ?_
               rotate_left 5
               · simp only [ev]; rfl
               · first | with_reducible exact Ty.ok98 | with_reducible exact Ty.ok125 | with_reducible exact Ty.ok126
               rotate_left 1
               · decide +kernel
               rotate_right 1)
            | (refine xr_do (v := ?_) (h' := ?_) (by exact rfl) ?_ ?_; rotate_left 2)
            | (refine xr_st (v := ?_) (h' := ?_) (by exact rfl) ?_ ?_; rotate_left 2)
            | (refine xe_reg (ms := [0, 0, 0, 4, 0, 16, 60, 0, 254, 511, 1023]) Ty.mx (by decide +kernel) (by decide +kernel) [[],[],[],[],[],[],[],[],[h.length],[h.length + (L.length + 3)],[]] ?_)
            | (with_reducible refine xe_nil ?_)
            | (refine xe_do (v := ?_) (ids := [h.length]) (by exact rfl) (by decide +kernel) (by exact rfl) (by exact rfl) ?_ ?_; rotate_left 1)
            | (refine xe_st (v := ?_) (a := ?_) (h' := ?_) (ids := [h.length]) (by decide +kernel) (by exact rfl) ?_ ?_ ?_ ?_ ?_
               rotate_left 3
               · simp only [stp, ev, Zb, Z2e, Z1z, Zk, Zl, reduceIte, Nat.reduceEqDiff, Zj, Zz, Zu, Z16, Z1a, Zm, Zp, Zo, Zd, Zx, Z2b, Z2x, Z1g, Z17, Zq, Zn, Zv, Z2p, Z2f, Z2o, Z2d, Z2g, Z1c, Z1b, Z2i, Z2n, Z2h, Z2j, Z2k, Z2l, Z2m, Z31, Z8, Z5, Z13, Zy, bld, fillL, vcs, splice, Ze, Z1, Z0, Z35, Ze, Z1, Z0, ldv, stv, vcs, fldA, idxA, blt, lenV, Z10, Z3, Z2, Zf, Zg, Ze, Z1, Z0, Z14, Zw, Zh, Zr, Z33, Z15, Z7, Zc, Z6, Z3, Z2, Zf, Zi, Nat.reduceAdd, Nat.reduceMul, Nat.reduceLeDiff, Z11, Z12, Z1y, Z1h, Z2c, Z23, Z28, Z27, Z26, Z25, Z24, Z1m, Z1l, Z1k, Z1j, Z1i, Z1w, Z1v, Z1u, Z1t, Z1s, Z32, Z2y, Z2q, Z2r, Z2s, Z20, Z1q, Z1r, Z2z, Z2t, Z21, Z22, splice, Za, Z9, Z1, Z0, Z19, Zt, Zs, Z18, newB, vcs, Z30, Z2v, Z1x, Z29, Z1n, Z2u, Z1o, Z1f, Z1p, Z1d, Z1e, Ty.ld3, Ty.sz3, Ty.zc3, Ty.by3, Ty.ld24, Ty.sz24, Ty.sl24, Ty.zc24, Ty.by24, Ty.ld56, Ty.sz56, Ty.sl56, Ty.zc56, Ty.by56, Ty.ld58, Ty.sz58, Ty.zc58, Ty.by58, Ty.pl58, Ty.fl58_0, Ty.fl58_1, Ty.fl58_2, Ty.ld77, Ty.sz77, Ty.zc77, Ty.by77, Ty.pl77, Ty.fl77_0, Ty.fl77_1, Ty.fl77_2, Ty.fl77_3, Ty.fl77_4, Ty.fl77_5, Ty.ld80, Ty.sz80, Ty.zc80, Ty.by80, Ty.pl80, Ty.fl80_0, Ty.fl80_1, Ty.fl80_2, Ty.fl80_3, Ty.fl80_4, Ty.fl80_5, Ty.fl80_6, Ty.fl80_7, Ty.ld139, Ty.sz139, Ty.zc139, Ty.by139, DAct.cells_length, DAct.cells_flat, DAct.cells_take, DAct.get0, DAct.get1, DAct.get4, DAct.get5, DAct.get6, DAct.get7, Z35, *]; rfl
               · exact rfl
               · simp
               skip)
            | (refine xe_do (v := ?_) (ids := []) (by exact rfl) (by decide +kernel) (by exact rfl) (by exact rfl) ?_ ?_; rotate_left 1)
            | (refine xe_st (v := ?_) (a := ?_) (h' := ?_) (ids := []) (by decide +kernel) (by exact rfl) ?_ ?_ ?_ ?_ ?_
               rotate_left 3
               · simp only [stp, ev, Zb, Z2e, Z1z, Zk, Zl, reduceIte, Nat.reduceEqDiff, Zj, Zz, Zu, Z16, Z1a, Zm, Zp, Zo, Zd, Zx, Z2b, Z2x, Z1g, Z17, Zq, Zn, Zv, Z2p, Z2f, Z2o, Z2d, Z2g, Z1c, Z1b, Z2i, Z2n, Z2h, Z2j, Z2k, Z2l, Z2m, Z31, Z8, Z5, Z13, Zy, bld, fillL, vcs, splice, Ze, Z1, Z0, Z35, Ze, Z1, Z0, ldv, stv, vcs, fldA, idxA, blt, lenV, Z10, Z3, Z2, Zf, Zg, Ze, Z1, Z0, Z14, Zw, Zh, Zr, Z33, Z15, Z7, Zc, Z6, Z3, Z2, Zf, Zi, Nat.reduceAdd, Nat.reduceMul, Nat.reduceLeDiff, Z11, Z12, Z1y, Z1h, Z2c, Z23, Z28, Z27, Z26, Z25, Z24, Z1m, Z1l, Z1k, Z1j, Z1i, Z1w, Z1v, Z1u, Z1t, Z1s, Z32, Z2y, Z2q, Z2r, Z2s, Z20, Z1q, Z1r, Z2z, Z2t, Z21, Z22, splice, Za, Z9, Z1, Z0, Z19, Zt, Zs, Z18, newB, vcs, Z30, Z2v, Z1x, Z29, Z1n, Z2u, Z1o, Z1f, Z1p, Z1d, Z1e, Ty.ld3, Ty.sz3, Ty.zc3, Ty.by3, Ty.ld24, Ty.sz24, Ty.sl24, Ty.zc24, Ty.by24, Ty.ld56, Ty.sz56, Ty.sl56, Ty.zc56, Ty.by56, Ty.ld58, Ty.sz58, Ty.zc58, Ty.by58, Ty.pl58, Ty.fl58_0, Ty.fl58_1, Ty.fl58_2, Ty.ld77, Ty.sz77, Ty.zc77, Ty.by77, Ty.pl77, Ty.fl77_0, Ty.fl77_1, Ty.fl77_2, Ty.fl77_3, Ty.fl77_4, Ty.fl77_5, Ty.ld80, Ty.sz80, Ty.zc80, Ty.by80, Ty.pl80, Ty.fl80_0, Ty.fl80_1, Ty.fl80_2, Ty.fl80_3, Ty.fl80_4, Ty.fl80_5, Ty.fl80_6, Ty.fl80_7, Ty.ld139, Ty.sz139, Ty.zc139, Ty.by139, DAct.cells_length, DAct.cells_flat, DAct.cells_take, DAct.get0, DAct.get1, DAct.get4, DAct.get5, DAct.get6, DAct.get7, Z35, *]; rfl
               · exact rfl
               · simp
               skip)
            | (refine xe_alloc (z := ?_) ?_ ?_ (by exact rfl) ?_
               rotate_left 1
               · first | exact Ty.zc3 | exact Ty.zc56 | exact Ty.zc58 | exact Ty.zc77 | exact Ty.zc80 | exact Ty.zc139
               · decide)
            | (refine xe_pure (ids := []) (f := ?_) (fs := ?_) (cs := ?_) (args := ?_) (v := ?_) ?_ ?_ ?_ (by decide +kernel) (by exact rfl) (by exact rfl) ?_ ?_
               rotate_left 5
               · simp only [ev]; rfl
               · first | with_reducible exact Ty.ok98 | with_reducible exact Ty.ok125 | with_reducible exact Ty.ok126
               · simp only [stp, ev, Zb, Z2e, Z1z, Zk, Zl, reduceIte, Nat.reduceEqDiff, Zj, Zz, Zu, Z16, Z1a, Zm, Zp, Zo, Zd, Zx, Z2b, Z2x, Z1g, Z17, Zq, Zn, Zv, Z2p, Z2f, Z2o, Z2d, Z2g, Z1c, Z1b, Z2i, Z2n, Z2h, Z2j, Z2k, Z2l, Z2m, Z31, Z8, Z5, Z13, Zy, bld, fillL, vcs, splice, Ze, Z1, Z0, Z35, Ze, Z1, Z0, ldv, stv, vcs, fldA, idxA, blt, lenV, Z10, Z3, Z2, Zf, Zg, Ze, Z1, Z0, Z14, Zw, Zh, Zr, Z33, Z15, Z7, Zc, Z6, Z3, Z2, Zf, Zi, Nat.reduceAdd, Nat.reduceMul, Nat.reduceLeDiff, Z11, Z12, Z1y, Z1h, Z2c, Z23, Z28, Z27, Z26, Z25, Z24, Z1m, Z1l, Z1k, Z1j, Z1i, Z1w, Z1v, Z1u, Z1t, Z1s, Z32, Z2y, Z2q, Z2r, Z2s, Z20, Z1q, Z1r, Z2z, Z2t, Z21, Z22, splice, Za, Z9, Z1, Z0, Z19, Zt, Zs, Z18, newB, vcs, Z30, Z2v, Z1x, Z29, Z1n, Z2u, Z1o, Z1f, Z1p, Z1d, Z1e, Ty.ld3, Ty.sz3, Ty.zc3, Ty.by3, Ty.ld24, Ty.sz24, Ty.sl24, Ty.zc24, Ty.by24, Ty.ld56, Ty.sz56, Ty.sl56, Ty.zc56, Ty.by56, Ty.ld58, Ty.sz58, Ty.zc58, Ty.by58, Ty.pl58, Ty.fl58_0, Ty.fl58_1, Ty.fl58_2, Ty.ld77, Ty.sz77, Ty.zc77, Ty.by77, Ty.pl77, Ty.fl77_0, Ty.fl77_1, Ty.fl77_2, Ty.fl77_3, Ty.fl77_4, Ty.fl77_5, Ty.ld80, Ty.sz80, Ty.zc80, Ty.by80, Ty.pl80, Ty.fl80_0, Ty.fl80_1, Ty.fl80_2, Ty.fl80_3, Ty.fl80_4, Ty.fl80_5, Ty.fl80_6, Ty.fl80_7, Ty.ld139, Ty.sz139, Ty.zc139, Ty.by139, DAct.cells_length, DAct.cells_flat, DAct.cells_take, DAct.get0, DAct.get1, DAct.get4, DAct.get5, DAct.get6, DAct.get7, Z35, *]; rfl
               · first
                 | (with_reducible refine within_ok _ _ _ _
                    )
                 | (with_reducible refine isDeskAct_ok _ _
                    )
                 | (with_reducible refine tickDesk_at _ _ items _ _ _ _ _ ?_ ?_ ?_ ?_
                    · assumption
                    · assumption
                    · assumption
                    · assumption
                    )
               skip)
            | (refine xd_do (v := ?_) (by exact rfl) (by decide +kernel) ?_ ?_; rotate_left 1)
            | (refine aw_ift (by decide) ?_ ?_
               · simp only [ev, Zb, reduceIte, Nat.reduceEqDiff, *])
            | (refine aw_iff (by decide) ?_ ?_
               · simp only [ev, Zb, reduceIte, Nat.reduceEqDiff, *])
            | (refine aw_if (b := ?_) (by decide) ?_ (fun hb => ?_) (fun hb => ?_)
               rotate_left 1
               · simp only [ev, Zb, reduceIte, Nat.reduceEqDiff, *]; rfl)
            | (refine r_ret (vs := ?_) ?_ ?_
               rotate_left 1
               · simp only [resV, oneOf, stp, ev, Zb, Z2e, Z1z, Zk, Zl, reduceIte, Nat.reduceEqDiff, Zj, Zz, Zu, Z16, Z1a, Zm, Zp, Zo, Zd, Zx, Z2b, Z2x, Z1g, Z17, Zq, Zn, Zv, Z2p, Z2f, Z2o, Z2d, Z2g, Z1c, Z1b, Z2i, Z2n, Z2h, Z2j, Z2k, Z2l, Z2m, Z31, Z8, Z5, Z13, Zy, bld, fillL, vcs, splice, Ze, Z1, Z0, Z35, Ze, Z1, Z0, ldv, stv, vcs, fldA, idxA, blt, lenV, Z10, Z3, Z2, Zf, Zg, Ze, Z1, Z0, Z14, Zw, Zh, Zr, Z33, Z15, Z7, Zc, Z6, Z3, Z2, Zf, Zi, Nat.reduceAdd, Nat.reduceMul, Nat.reduceLeDiff, Z11, Z12, Z1y, Z1h, Z2c, Z23, Z28, Z27, Z26, Z25, Z24, Z1m, Z1l, Z1k, Z1j, Z1i, Z1w, Z1v, Z1u, Z1t, Z1s, Z32, Z2y, Z2q, Z2r, Z2s, Z20, Z1q, Z1r, Z2z, Z2t, Z21, Z22, splice, Za, Z9, Z1, Z0, Z19, Zt, Zs, Z18, newB, vcs, Z30, Z2v, Z1x, Z29, Z1n, Z2u, Z1o, Z1f, Z1p, Z1d, Z1e, Ty.ld3, Ty.sz3, Ty.zc3, Ty.by3, Ty.ld24, Ty.sz24, Ty.sl24, Ty.zc24, Ty.by24, Ty.ld56, Ty.sz56, Ty.sl56, Ty.zc56, Ty.by56, Ty.ld58, Ty.sz58, Ty.zc58, Ty.by58, Ty.pl58, Ty.fl58_0, Ty.fl58_1, Ty.fl58_2, Ty.ld77, Ty.sz77, Ty.zc77, Ty.by77, Ty.pl77, Ty.fl77_0, Ty.fl77_1, Ty.fl77_2, Ty.fl77_3, Ty.fl77_4, Ty.fl77_5, Ty.ld80, Ty.sz80, Ty.zc80, Ty.by80, Ty.pl80, Ty.fl80_0, Ty.fl80_1, Ty.fl80_2, Ty.fl80_3, Ty.fl80_4, Ty.fl80_5, Ty.fl80_6, Ty.fl80_7, Ty.ld139, Ty.sz139, Ty.zc139, Ty.by139, DAct.cells_length, DAct.cells_flat, DAct.cells_take, DAct.get0, DAct.get1, DAct.get4, DAct.get5, DAct.get6, DAct.get7, Z35, *]; rfl)
            | (with_reducible exact within_ok _ _ _ _)
            | (with_reducible exact isDeskAct_ok _ _)
            | (with_reducible refine tickDesk_at _ _ items _ _ _ _ _ ?_ ?_ ?_ ?_
               · assumption
               · assumption
               · assumption
               · assumption
               )
            | ((with_reducible refine Z2w (n := 98) ?_); rintro _ _ ⟨rfl, hh⟩; replace hh := hh.symm; subst hh)
            | ((with_reducible refine Z2w (n := 125) ?_); rintro _ _ ⟨rfl, hh⟩; replace hh := hh.symm; subst hh)
            | ((with_reducible refine Z2w (n := 126) ?_); rintro _ _ ⟨X, rfl, rfl⟩)
            )
          refine xe_clw (f := 127) (fs := #[]) (cs := #[]) (args := ?_) (v := .int .i64 (codeI people x a)) (a := true) (E := [h.length])
            (h' := h ++ ⟨2, 6, pre ++ ((nextI now people x a).cells ++ post)⟩ :: (L ++ [⟨2, 1, [.int .i64 now, vp, .slice (some ⟨h.length, 0, sp⟩) items.length items.length]⟩, ⟨2, 1, a.cells⟩, ⟨2, 1, [.int .i64 0, .slice none 0 0, .slice none 0 0]⟩, ⟨2, 1, [.int .i64 now, vp, .slice (some ⟨h.length, 0, sp⟩) items.length items.length]⟩, ⟨2, 1, a.cells⟩])) ?_ Ty.ok127 ?_ (by decide +kernel) (by exact rfl) (by exact rfl) ?_ (by simp) (by simp) ?_ ?_ ?_
          rotate_left 1
          · simp only [ev]
          · simp only [stp, ev, Zb, Z2e, Z1z, Zk, Zl, reduceIte, Nat.reduceEqDiff, Zj, Zz, Zu, Z16, Z1a, Zm, Zp, Zo, Zd, Zx, Z2b, Z2x, Z1g, Z17, Zq, Zn, Zv, Z2p, Z2f, Z2o, Z2d, Z2g, Z1c, Z1b, Z2i, Z2n, Z2h, Z2j, Z2k, Z2l, Z2m, Z31, Z8, Z5, Z13, Zy, bld, fillL, vcs, splice, Ze, Z1, Z0, Z35, Ze, Z1, Z0, ldv, stv, vcs, fldA, idxA, blt, lenV, Z10, Z3, Z2, Zf, Zg, Ze, Z1, Z0, Z14, Zw, Zh, Zr, Z33, Z15, Z7, Zc, Z6, Z3, Z2, Zf, Zi, Nat.reduceAdd, Nat.reduceMul, Nat.reduceLeDiff, Z11, Z12, Z1y, Z1h, Z2c, Z23, Z28, Z27, Z26, Z25, Z24, Z1m, Z1l, Z1k, Z1j, Z1i, Z1w, Z1v, Z1u, Z1t, Z1s, Z32, Z2y, Z2q, Z2r, Z2s, Z20, Z1q, Z1r, Z2z, Z2t, Z21, Z22, splice, Za, Z9, Z1, Z0, Z19, Zt, Zs, Z18, newB, vcs, Z30, Z2v, Z1x, Z29, Z1n, Z2u, Z1o, Z1f, Z1p, Z1d, Z1e, Ty.ld3, Ty.sz3, Ty.zc3, Ty.by3, Ty.ld24, Ty.sz24, Ty.sl24, Ty.zc24, Ty.by24, Ty.ld56, Ty.sz56, Ty.sl56, Ty.zc56, Ty.by56, Ty.ld58, Ty.sz58, Ty.zc58, Ty.by58, Ty.pl58, Ty.fl58_0, Ty.fl58_1, Ty.fl58_2, Ty.ld77, Ty.sz77, Ty.zc77, Ty.by77, Ty.pl77, Ty.fl77_0, Ty.fl77_1, Ty.fl77_2, Ty.fl77_3, Ty.fl77_4, Ty.fl77_5, Ty.ld80, Ty.sz80, Ty.zc80, Ty.by80, Ty.pl80, Ty.fl80_0, Ty.fl80_1, Ty.fl80_2, Ty.fl80_3, Ty.fl80_4, Ty.fl80_5, Ty.fl80_6, Ty.fl80_7, Ty.ld139, Ty.sz139, Ty.zc139, Ty.by139, *]; rfl
          · have := stepItem_at now people x a pre post vp (.slice (some ⟨h.length, 0, sp⟩) items.length items.length) h (L ++ [⟨2, 1, [.int .i64 now, vp, .slice (some ⟨h.length, 0, sp⟩) items.length items.length]⟩, ⟨2, 1, a.cells⟩, ⟨2, 1, [.int .i64 0, .slice none 0 0, .slice none 0 0]⟩]) (fun b => hp b _) hl rfl hn hxr
            simpa only [Z7, Zc, Zd] using this
          · intro id hid hne
            have hne' : id ≠ h.length := fun q => hne (by rw [q]; simp)
            rcases Nat.lt_trichotomy id h.length with q | q | q
            · rw [List.getElem?_append_left q, List.getElem?_append_left q]
            · exact absurd q hne'
            · obtain ⟨j, rfl⟩ : ∃ j, id = h.length + (j + 1) := ⟨id - h.length - 1, by omega⟩
              simp only [Z6, Z3, Z2] at hid
              rw [get_at, get_at, Z0, Z0]
              rcases Nat.lt_or_ge j L.length with q2 | q2
              · rw [List.getElem?_append_left q2, List.getElem?_append_left q2]
              · obtain ⟨i, rfl⟩ : ∃ i, j = L.length + i := ⟨j - L.length, by omega⟩
                rw [get_at, get_at]
                match i, hid with
                | 0, _ => rfl
                | 1, _ => rfl
                | 2, _ => rfl
                | i + 3, hid => omega
          · intro id hid
            simp only [List.mem_cons, Z38, or_false] at hid
            subst hid
            exact ⟨_, by rw [get_at0]; rfl, by simp⟩
          repeat' (first
            | ((with_reducible refine eq_go ?_); simp only [stp, ev, Zb, Z2e, Z1z, Zk, Zl, reduceIte, Nat.reduceEqDiff, Zj, Zz, Zu, Z16, Z1a, Zm, Zp, Zo, Zd, Zx, Z2b, Z2x, Z1g, Z17, Zq, Zn, Zv, Z2p, Z2f, Z2o, Z2d, Z2g, Z1c, Z1b, Z2i, Z2n, Z2h, Z2j, Z2k, Z2l, Z2m, Z31, Z8, Z5, Z13, Zy, bld, fillL, vcs, splice, Ze, Z1, Z0, Z35, Ze, Z1, Z0, ldv, stv, vcs, fldA, idxA, blt, lenV, Z10, Z3, Z2, Zf, Zg, Ze, Z1, Z0, Z14, Zw, Zh, Zr, Z33, Z15, Z7, Zc, Z6, Z3, Z2, Zf, Zi, Nat.reduceAdd, Nat.reduceMul, Nat.reduceLeDiff, Z11, Z12, Z1y, Z1h, Z2c, Z23, Z28, Z27, Z26, Z25, Z24, Z1m, Z1l, Z1k, Z1j, Z1i, Z1w, Z1v, Z1u, Z1t, Z1s, Z32, Z2y, Z2q, Z2r, Z2s, Z20, Z1q, Z1r, Z2z, Z2t, Z21, Z22, splice, Za, Z9, Z1, Z0, Z19, Zt, Zs, Z18, newB, vcs, Z30, Z2v, Z1x, Z29, Z1n, Z2u, Z1o, Z1f, Z1p, Z1d, Z1e, Ty.ld3, Ty.sz3, Ty.zc3, Ty.by3, Ty.ld24, Ty.sz24, Ty.sl24, Ty.zc24, Ty.by24, Ty.ld56, Ty.sz56, Ty.sl56, Ty.zc56, Ty.by56, Ty.ld58, Ty.sz58, Ty.zc58, Ty.by58, Ty.pl58, Ty.fl58_0, Ty.fl58_1, Ty.fl58_2, Ty.ld77, Ty.sz77, Ty.zc77, Ty.by77, Ty.pl77, Ty.fl77_0, Ty.fl77_1, Ty.fl77_2, Ty.fl77_3, Ty.fl77_4, Ty.fl77_5, Ty.ld80, Ty.sz80, Ty.zc80, Ty.by80, Ty.pl80, Ty.fl80_0, Ty.fl80_1, Ty.fl80_2, Ty.fl80_3, Ty.fl80_4, Ty.fl80_5, Ty.fl80_6, Ty.fl80_7, Ty.ld139, Ty.sz139, Ty.zc139, Ty.by139, DAct.cells_length, DAct.cells_flat, DAct.cells_take, DAct.get0, DAct.get1, DAct.get4, DAct.get5, DAct.get6, DAct.get7, Z35, *]; rfl)
            | (with_reducible refine aw_then ?_) | (with_reducible refine aw_skip ?_) | (with_reducible refine aw_ret ?_) | (with_reducible refine aw_exit ?_) | (with_reducible refine aw_block ?_) | (with_reducible refine xr_reg (by decide +kernel) ?_)
            | (with_reducible refine xr_nil ?_) | (with_reducible refine k_norm ?_) | (with_reducible refine k_ret ?_) | (with_reducible refine k_exit ?_) | (with_reducible refine b_norm ?_) | (with_reducible refine b_ret ?_) | (with_reducible refine b_exit ?_) | (with_reducible refine b_past (by decide) ?_)
            | (with_reducible refine xd_nil ?_)
            | (refine xr_cl (f := ?_) (fs := ?_) (cs := ?_) (args := ?_) (K := ?_) ?_ ?_ ?_ ?_ ?_
               rotate_left 5
               · simp only [ev]; rfl
               first
               | (· with_reducible exact Ty.ok98
                  rotate_left 2
                  refine Z2a 98 ?_
                  rotate_right 2)
               | (· with_reducible exact Ty.ok125
                  rotate_left 2
                  refine Z2a 125 ?_
                  rotate_right 2)
               | (· with_reducible exact Ty.ok126
                  rotate_left 2
                  refine Z2a 126 ?_
                  rotate_right 2)
               )
            | (refine xd_cl (f := ?_) (fs := ?_) (cs := ?_) (args := ?_) (v := ?_) ?_ ?_ ?_ ?_ ?_ ?_
               rotate_left 5
               · simp only [ev]; rfl
               · first | with_reducible exact Ty.ok98 | with_reducible exact Ty.ok125 | with_reducible exact Ty.ok126
               rotate_left 1
               · decide +kernel
               rotate_right 1)
            | (refine xr_do (v := ?_) (h' := ?_) (by exact rfl) ?_ ?_; rotate_left 2)
            | (refine xr_st (v := ?_) (h' := ?_) (by exact rfl) ?_ ?_; rotate_left 2)
            | (refine xe_reg (ms := [0, 0, 0, 4, 0, 16, 60, 0, 254, 511, 1023]) Ty.mx (by decide +kernel) (by decide +kernel) [[],[],[],[],[],[],[],[],[h.length],[h.length + (L.length + 3)],[]] ?_)
            | (with_reducible refine xe_nil ?_)
            | (refine xe_do (v := ?_) (ids := [h.length]) (by exact rfl) (by decide +kernel) (by exact rfl) (by exact rfl) ?_ ?_; rotate_left 1)
            | (refine xe_st (v := ?_) (a := ?_) (h' := ?_) (ids := [h.length]) (by decide +kernel) (by exact rfl) ?_ ?_ ?_ ?_ ?_
               rotate_left 3
               · simp only [stp, ev, Zb, Z2e, Z1z, Zk, Zl, reduceIte, Nat.reduceEqDiff, Zj, Zz, Zu, Z16, Z1a, Zm, Zp, Zo, Zd, Zx, Z2b, Z2x, Z1g, Z17, Zq, Zn, Zv, Z2p, Z2f, Z2o, Z2d, Z2g, Z1c, Z1b, Z2i, Z2n, Z2h, Z2j, Z2k, Z2l, Z2m, Z31, Z8, Z5, Z13, Zy, bld, fillL, vcs, splice, Ze, Z1, Z0, Z35, Ze, Z1, Z0, ldv, stv, vcs, fldA, idxA, blt, lenV, Z10, Z3, Z2, Zf, Zg, Ze, Z1, Z0, Z14, Zw, Zh, Zr, Z33, Z15, Z7, Zc, Z6, Z3, Z2, Zf, Zi, Nat.reduceAdd, Nat.reduceMul, Nat.reduceLeDiff, Z11, Z12, Z1y, Z1h, Z2c, Z23, Z28, Z27, Z26, Z25, Z24, Z1m, Z1l, Z1k, Z1j, Z1i, Z1w, Z1v, Z1u, Z1t, Z1s, Z32, Z2y, Z2q, Z2r, Z2s, Z20, Z1q, Z1r, Z2z, Z2t, Z21, Z22, splice, Za, Z9, Z1, Z0, Z19, Zt, Zs, Z18, newB, vcs, Z30, Z2v, Z1x, Z29, Z1n, Z2u, Z1o, Z1f, Z1p, Z1d, Z1e, Ty.ld3, Ty.sz3, Ty.zc3, Ty.by3, Ty.ld24, Ty.sz24, Ty.sl24, Ty.zc24, Ty.by24, Ty.ld56, Ty.sz56, Ty.sl56, Ty.zc56, Ty.by56, Ty.ld58, Ty.sz58, Ty.zc58, Ty.by58, Ty.pl58, Ty.fl58_0, Ty.fl58_1, Ty.fl58_2, Ty.ld77, Ty.sz77, Ty.zc77, Ty.by77, Ty.pl77, Ty.fl77_0, Ty.fl77_1, Ty.fl77_2, Ty.fl77_3, Ty.fl77_4, Ty.fl77_5, Ty.ld80, Ty.sz80, Ty.zc80, Ty.by80, Ty.pl80, Ty.fl80_0, Ty.fl80_1, Ty.fl80_2, Ty.fl80_3, Ty.fl80_4, Ty.fl80_5, Ty.fl80_6, Ty.fl80_7, Ty.ld139, Ty.sz139, Ty.zc139, Ty.by139, DAct.cells_length, DAct.cells_flat, DAct.cells_take, DAct.get0, DAct.get1, DAct.get4, DAct.get5, DAct.get6, DAct.get7, Z35, *]; rfl
               · exact rfl
               · simp
               skip)
            | (refine xe_do (v := ?_) (ids := []) (by exact rfl) (by decide +kernel) (by exact rfl) (by exact rfl) ?_ ?_; rotate_left 1)
            | (refine xe_st (v := ?_) (a := ?_) (h' := ?_) (ids := []) (by decide +kernel) (by exact rfl) ?_ ?_ ?_ ?_ ?_
               rotate_left 3
               · simp only [stp, ev, Zb, Z2e, Z1z, Zk, Zl, reduceIte, Nat.reduceEqDiff, Zj, Zz, Zu, Z16, Z1a, Zm, Zp, Zo, Zd, Zx, Z2b, Z2x, Z1g, Z17, Zq, Zn, Zv, Z2p, Z2f, Z2o, Z2d, Z2g, Z1c, Z1b, Z2i, Z2n, Z2h, Z2j, Z2k, Z2l, Z2m, Z31, Z8, Z5, Z13, Zy, bld, fillL, vcs, splice, Ze, Z1, Z0, Z35, Ze, Z1, Z0, ldv, stv, vcs, fldA, idxA, blt, lenV, Z10, Z3, Z2, Zf, Zg, Ze, Z1, Z0, Z14, Zw, Zh, Zr, Z33, Z15, Z7, Zc, Z6, Z3, Z2, Zf, Zi, Nat.reduceAdd, Nat.reduceMul, Nat.reduceLeDiff, Z11, Z12, Z1y, Z1h, Z2c, Z23, Z28, Z27, Z26, Z25, Z24, Z1m, Z1l, Z1k, Z1j, Z1i, Z1w, Z1v, Z1u, Z1t, Z1s, Z32, Z2y, Z2q, Z2r, Z2s, Z20, Z1q, Z1r, Z2z, Z2t, Z21, Z22, splice, Za, Z9, Z1, Z0, Z19, Zt, Zs, Z18, newB, vcs, Z30, Z2v, Z1x, Z29, Z1n, Z2u, Z1o, Z1f, Z1p, Z1d, Z1e, Ty.ld3, Ty.sz3, Ty.zc3, Ty.by3, Ty.ld24, Ty.sz24, Ty.sl24, Ty.zc24, Ty.by24, Ty.ld56, Ty.sz56, Ty.sl56, Ty.zc56, Ty.by56, Ty.ld58, Ty.sz58, Ty.zc58, Ty.by58, Ty.pl58, Ty.fl58_0, Ty.fl58_1, Ty.fl58_2, Ty.ld77, Ty.sz77, Ty.zc77, Ty.by77, Ty.pl77, Ty.fl77_0, Ty.fl77_1, Ty.fl77_2, Ty.fl77_3, Ty.fl77_4, Ty.fl77_5, Ty.ld80, Ty.sz80, Ty.zc80, Ty.by80, Ty.pl80, Ty.fl80_0, Ty.fl80_1, Ty.fl80_2, Ty.fl80_3, Ty.fl80_4, Ty.fl80_5, Ty.fl80_6, Ty.fl80_7, Ty.ld139, Ty.sz139, Ty.zc139, Ty.by139, DAct.cells_length, DAct.cells_flat, DAct.cells_take, DAct.get0, DAct.get1, DAct.get4, DAct.get5, DAct.get6, DAct.get7, Z35, *]; rfl
               · exact rfl
               · simp
               skip)
            | (refine xe_alloc (z := ?_) ?_ ?_ (by exact rfl) ?_
               rotate_left 1
               · first | exact Ty.zc3 | exact Ty.zc56 | exact Ty.zc58 | exact Ty.zc77 | exact Ty.zc80 | exact Ty.zc139
               · decide)
            | (refine xe_pure (ids := []) (f := ?_) (fs := ?_) (cs := ?_) (args := ?_) (v := ?_) ?_ ?_ ?_ (by decide +kernel) (by exact rfl) (by exact rfl) ?_ ?_
               rotate_left 5
               · simp only [ev]; rfl
               · first | with_reducible exact Ty.ok98 | with_reducible exact Ty.ok125 | with_reducible exact Ty.ok126
               · simp only [stp, ev, Zb, Z2e, Z1z, Zk, Zl, reduceIte, Nat.reduceEqDiff, Zj, Zz, Zu, Z16, Z1a, Zm, Zp, Zo, Zd, Zx, Z2b, Z2x, Z1g, Z17, Zq, Zn, Zv, Z2p, Z2f, Z2o, Z2d, Z2g, Z1c, Z1b, Z2i, Z2n, Z2h, Z2j, Z2k, Z2l, Z2m, Z31, Z8, Z5, Z13, Zy, bld, fillL, vcs, splice, Ze, Z1, Z0, Z35, Ze, Z1, Z0, ldv, stv, vcs, fldA, idxA, blt, lenV, Z10, Z3, Z2, Zf, Zg, Ze, Z1, Z0, Z14, Zw, Zh, Zr, Z33, Z15, Z7, Zc, Z6, Z3, Z2, Zf, Zi, Nat.reduceAdd, Nat.reduceMul, Nat.reduceLeDiff, Z11, Z12, Z1y, Z1h, Z2c, Z23, Z28, Z27, Z26, Z25, Z24, Z1m, Z1l, Z1k, Z1j, Z1i, Z1w, Z1v, Z1u, Z1t, Z1s, Z32, Z2y, Z2q, Z2r, Z2s, Z20, Z1q, Z1r, Z2z, Z2t, Z21, Z22, splice, Za, Z9, Z1, Z0, Z19, Zt, Zs, Z18, newB, vcs, Z30, Z2v, Z1x, Z29, Z1n, Z2u, Z1o, Z1f, Z1p, Z1d, Z1e, Ty.ld3, Ty.sz3, Ty.zc3, Ty.by3, Ty.ld24, Ty.sz24, Ty.sl24, Ty.zc24, Ty.by24, Ty.ld56, Ty.sz56, Ty.sl56, Ty.zc56, Ty.by56, Ty.ld58, Ty.sz58, Ty.zc58, Ty.by58, Ty.pl58, Ty.fl58_0, Ty.fl58_1, Ty.fl58_2, Ty.ld77, Ty.sz77, Ty.zc77, Ty.by77, Ty.pl77, Ty.fl77_0, Ty.fl77_1, Ty.fl77_2, Ty.fl77_3, Ty.fl77_4, Ty.fl77_5, Ty.ld80, Ty.sz80, Ty.zc80, Ty.by80, Ty.pl80, Ty.fl80_0, Ty.fl80_1, Ty.fl80_2, Ty.fl80_3, Ty.fl80_4, Ty.fl80_5, Ty.fl80_6, Ty.fl80_7, Ty.ld139, Ty.sz139, Ty.zc139, Ty.by139, DAct.cells_length, DAct.cells_flat, DAct.cells_take, DAct.get0, DAct.get1, DAct.get4, DAct.get5, DAct.get6, DAct.get7, Z35, *]; rfl
               · first
                 | (with_reducible refine within_ok _ _ _ _
                    )
                 | (with_reducible refine isDeskAct_ok _ _
                    )
                 | (with_reducible refine tickDesk_at _ _ items _ _ _ _ _ ?_ ?_ ?_ ?_
                    · assumption
                    · assumption
                    · assumption
                    · assumption
                    )
               skip)
            | (refine xd_do (v := ?_) (by exact rfl) (by decide +kernel) ?_ ?_; rotate_left 1)
            | (refine aw_ift (by decide) ?_ ?_
               · simp only [ev, Zb, reduceIte, Nat.reduceEqDiff, *])
            | (refine aw_iff (by decide) ?_ ?_
               · simp only [ev, Zb, reduceIte, Nat.reduceEqDiff, *])
            | (refine aw_if (b := ?_) (by decide) ?_ (fun hb => ?_) (fun hb => ?_)
               rotate_left 1
               · simp only [ev, Zb, reduceIte, Nat.reduceEqDiff, *]; rfl)
            | (refine r_ret (vs := ?_) ?_ ?_
               rotate_left 1
               · simp only [resV, oneOf, stp, ev, Zb, Z2e, Z1z, Zk, Zl, reduceIte, Nat.reduceEqDiff, Zj, Zz, Zu, Z16, Z1a, Zm, Zp, Zo, Zd, Zx, Z2b, Z2x, Z1g, Z17, Zq, Zn, Zv, Z2p, Z2f, Z2o, Z2d, Z2g, Z1c, Z1b, Z2i, Z2n, Z2h, Z2j, Z2k, Z2l, Z2m, Z31, Z8, Z5, Z13, Zy, bld, fillL, vcs, splice, Ze, Z1, Z0, Z35, Ze, Z1, Z0, ldv, stv, vcs, fldA, idxA, blt, lenV, Z10, Z3, Z2, Zf, Zg, Ze, Z1, Z0, Z14, Zw, Zh, Zr, Z33, Z15, Z7, Zc, Z6, Z3, Z2, Zf, Zi, Nat.reduceAdd, Nat.reduceMul, Nat.reduceLeDiff, Z11, Z12, Z1y, Z1h, Z2c, Z23, Z28, Z27, Z26, Z25, Z24, Z1m, Z1l, Z1k, Z1j, Z1i, Z1w, Z1v, Z1u, Z1t, Z1s, Z32, Z2y, Z2q, Z2r, Z2s, Z20, Z1q, Z1r, Z2z, Z2t, Z21, Z22, splice, Za, Z9, Z1, Z0, Z19, Zt, Zs, Z18, newB, vcs, Z30, Z2v, Z1x, Z29, Z1n, Z2u, Z1o, Z1f, Z1p, Z1d, Z1e, Ty.ld3, Ty.sz3, Ty.zc3, Ty.by3, Ty.ld24, Ty.sz24, Ty.sl24, Ty.zc24, Ty.by24, Ty.ld56, Ty.sz56, Ty.sl56, Ty.zc56, Ty.by56, Ty.ld58, Ty.sz58, Ty.zc58, Ty.by58, Ty.pl58, Ty.fl58_0, Ty.fl58_1, Ty.fl58_2, Ty.ld77, Ty.sz77, Ty.zc77, Ty.by77, Ty.pl77, Ty.fl77_0, Ty.fl77_1, Ty.fl77_2, Ty.fl77_3, Ty.fl77_4, Ty.fl77_5, Ty.ld80, Ty.sz80, Ty.zc80, Ty.by80, Ty.pl80, Ty.fl80_0, Ty.fl80_1, Ty.fl80_2, Ty.fl80_3, Ty.fl80_4, Ty.fl80_5, Ty.fl80_6, Ty.fl80_7, Ty.ld139, Ty.sz139, Ty.zc139, Ty.by139, DAct.cells_length, DAct.cells_flat, DAct.cells_take, DAct.get0, DAct.get1, DAct.get4, DAct.get5, DAct.get6, DAct.get7, Z35, *]; rfl)
            | (with_reducible exact within_ok _ _ _ _)
            | (with_reducible exact isDeskAct_ok _ _)
            | (with_reducible refine tickDesk_at _ _ items _ _ _ _ _ ?_ ?_ ?_ ?_
               · assumption
               · assumption
               · assumption
               · assumption
               )
            | ((with_reducible refine Z2w (n := 98) ?_); rintro _ _ ⟨rfl, hh⟩; replace hh := hh.symm; subst hh)
            | ((with_reducible refine Z2w (n := 125) ?_); rintro _ _ ⟨rfl, hh⟩; replace hh := hh.symm; subst hh)
            | ((with_reducible refine Z2w (n := 126) ?_); rintro _ _ ⟨X, rfl, rfl⟩)
            )
          rw [← hil2]
          refine desk_keep (.inl rfl) ?_ hsp hids
          rw [get_at0, hset]; rfl
        · simp only [if_neg hin]
          have hin' : decide (0 ≤ a.item ∧ a.item ≤ (items.length : Int) - 1) = false := decide_eq_false hin
          clear hin hk1 hk8
          refine Z36 Try.func109 rfl Try.ntmps109 (by simp) (by dsimp only [Try.f109]) ?_
          repeat' (first
            | ((with_reducible refine eq_go ?_); simp only [stp, ev, Zb, Z2e, Z1z, Zk, Zl, reduceIte, Nat.reduceEqDiff, Zj, Zz, Zu, Z16, Z1a, Zm, Zp, Zo, Zd, Zx, Z2b, Z2x, Z1g, Z17, Zq, Zn, Zv, Z2p, Z2f, Z2o, Z2d, Z2g, Z1c, Z1b, Z2i, Z2n, Z2h, Z2j, Z2k, Z2l, Z2m, Z31, Z8, Z5, Z13, Zy, bld, fillL, vcs, splice, Ze, Z1, Z0, Z35, Ze, Z1, Z0, ldv, stv, vcs, fldA, idxA, blt, lenV, Z10, Z3, Z2, Zf, Zg, Ze, Z1, Z0, Z14, Zw, Zh, Zr, Z33, Z15, Z7, Zc, Z6, Z3, Z2, Zf, Zi, Nat.reduceAdd, Nat.reduceMul, Nat.reduceLeDiff, Z11, Z12, Z1y, Z1h, Z2c, Z23, Z28, Z27, Z26, Z25, Z24, Z1m, Z1l, Z1k, Z1j, Z1i, Z1w, Z1v, Z1u, Z1t, Z1s, Z32, Z2y, Z2q, Z2r, Z2s, Z20, Z1q, Z1r, Z2z, Z2t, Z21, Z22, splice, Za, Z9, Z1, Z0, Z19, Zt, Zs, Z18, newB, vcs, Z30, Z2v, Z1x, Z29, Z1n, Z2u, Z1o, Z1f, Z1p, Z1d, Z1e, Ty.ld3, Ty.sz3, Ty.zc3, Ty.by3, Ty.ld24, Ty.sz24, Ty.sl24, Ty.zc24, Ty.by24, Ty.ld56, Ty.sz56, Ty.sl56, Ty.zc56, Ty.by56, Ty.ld58, Ty.sz58, Ty.zc58, Ty.by58, Ty.pl58, Ty.fl58_0, Ty.fl58_1, Ty.fl58_2, Ty.ld77, Ty.sz77, Ty.zc77, Ty.by77, Ty.pl77, Ty.fl77_0, Ty.fl77_1, Ty.fl77_2, Ty.fl77_3, Ty.fl77_4, Ty.fl77_5, Ty.ld80, Ty.sz80, Ty.zc80, Ty.by80, Ty.pl80, Ty.fl80_0, Ty.fl80_1, Ty.fl80_2, Ty.fl80_3, Ty.fl80_4, Ty.fl80_5, Ty.fl80_6, Ty.fl80_7, Ty.ld139, Ty.sz139, Ty.zc139, Ty.by139, DAct.cells_length, DAct.cells_flat, DAct.cells_take, DAct.get0, DAct.get1, DAct.get4, DAct.get5, DAct.get6, DAct.get7, *]; rfl)
            | (with_reducible refine aw_then ?_) | (with_reducible refine aw_skip ?_) | (with_reducible refine aw_ret ?_) | (with_reducible refine aw_exit ?_) | (with_reducible refine aw_block ?_) | (with_reducible refine xr_reg (by decide +kernel) ?_)
            | (with_reducible refine xr_nil ?_) | (with_reducible refine k_norm ?_) | (with_reducible refine k_ret ?_) | (with_reducible refine k_exit ?_) | (with_reducible refine b_norm ?_) | (with_reducible refine b_ret ?_) | (with_reducible refine b_exit ?_) | (with_reducible refine b_past (by decide) ?_)
            | (with_reducible refine xd_nil ?_)
            | (refine xr_cl (f := ?_) (fs := ?_) (cs := ?_) (args := ?_) (K := ?_) ?_ ?_ ?_ ?_ ?_
               rotate_left 5
               · simp only [ev]; rfl
               first
               | (· with_reducible exact Ty.ok98
                  rotate_left 2
                  refine Z2a 98 ?_
                  rotate_right 2)
               | (· with_reducible exact Ty.ok125
                  rotate_left 2
                  refine Z2a 125 ?_
                  rotate_right 2)
               | (· with_reducible exact Ty.ok126
                  rotate_left 2
                  refine Z2a 126 ?_
                  rotate_right 2)
               )
            | (refine xd_cl (f := ?_) (fs := ?_) (cs := ?_) (args := ?_) (v := ?_) ?_ ?_ ?_ ?_ ?_ ?_
               rotate_left 5
               · simp only [ev]; rfl
               · first | with_reducible exact Ty.ok98 | with_reducible exact Ty.ok125 | with_reducible exact Ty.ok126
               rotate_left 1
               · decide +kernel
               rotate_right 1)
            | (refine xr_do (v := ?_) (h' := ?_) (by exact rfl) ?_ ?_; rotate_left 2)
            | (refine xr_st (v := ?_) (h' := ?_) (by exact rfl) ?_ ?_; rotate_left 2)
            | (refine xd_reg (ms := [0, 0, 0, 4, 0, 16, 60, 0, 254, 511, 1023]) Ty.mx (by decide +kernel) (by decide +kernel) ?_)
            | (refine xd_bs (v := ?_) (h' := ?_) (L := ?_) (by decide +kernel) ?_ ?_ ?_
               rotate_left 3
               · simp only [stp, ev, Zb, Z2e, Z1z, Zk, Zl, reduceIte, Nat.reduceEqDiff, Zj, Zz, Zu, Z16, Z1a, Zm, Zp, Zo, Zd, Zx, Z2b, Z2x, Z1g, Z17, Zq, Zn, Zv, Z2p, Z2f, Z2o, Z2d, Z2g, Z1c, Z1b, Z2i, Z2n, Z2h, Z2j, Z2k, Z2l, Z2m, Z31, Z8, Z5, Z13, Zy, bld, fillL, vcs, splice, Ze, Z1, Z0, Z35, Ze, Z1, Z0, ldv, stv, vcs, fldA, idxA, blt, lenV, Z10, Z3, Z2, Zf, Zg, Ze, Z1, Z0, Z14, Zw, Zh, Zr, Z33, Z15, Z7, Zc, Z6, Z3, Z2, Zf, Zi, Nat.reduceAdd, Nat.reduceMul, Nat.reduceLeDiff, Z11, Z12, Z1y, Z1h, Z2c, Z23, Z28, Z27, Z26, Z25, Z24, Z1m, Z1l, Z1k, Z1j, Z1i, Z1w, Z1v, Z1u, Z1t, Z1s, Z32, Z2y, Z2q, Z2r, Z2s, Z20, Z1q, Z1r, Z2z, Z2t, Z21, Z22, splice, Za, Z9, Z1, Z0, Z19, Zt, Zs, Z18, newB, vcs, Z30, Z2v, Z1x, Z29, Z1n, Z2u, Z1o, Z1f, Z1p, Z1d, Z1e, Ty.ld3, Ty.sz3, Ty.zc3, Ty.by3, Ty.ld24, Ty.sz24, Ty.sl24, Ty.zc24, Ty.by24, Ty.ld56, Ty.sz56, Ty.sl56, Ty.zc56, Ty.by56, Ty.ld58, Ty.sz58, Ty.zc58, Ty.by58, Ty.pl58, Ty.fl58_0, Ty.fl58_1, Ty.fl58_2, Ty.ld77, Ty.sz77, Ty.zc77, Ty.by77, Ty.pl77, Ty.fl77_0, Ty.fl77_1, Ty.fl77_2, Ty.fl77_3, Ty.fl77_4, Ty.fl77_5, Ty.ld80, Ty.sz80, Ty.zc80, Ty.by80, Ty.pl80, Ty.fl80_0, Ty.fl80_1, Ty.fl80_2, Ty.fl80_3, Ty.fl80_4, Ty.fl80_5, Ty.fl80_6, Ty.fl80_7, Ty.ld139, Ty.sz139, Ty.zc139, Ty.by139, DAct.cells_length, DAct.cells_flat, DAct.cells_take, DAct.get0, DAct.get1, DAct.get4, DAct.get5, DAct.get6, DAct.get7, *]; rfl
               · exact rfl
               skip)
            | (refine xd_do (v := ?_) (by exact rfl) (by decide +kernel) ?_ ?_; rotate_left 1)
            | (refine aw_ift (by decide) ?_ ?_
               · simp only [ev, Zb, reduceIte, Nat.reduceEqDiff, *])
            | (refine aw_iff (by decide) ?_ ?_
               · simp only [ev, Zb, reduceIte, Nat.reduceEqDiff, *])
            | (refine aw_if (b := ?_) (by decide) ?_ (fun hb => ?_) (fun hb => ?_)
               rotate_left 1
               · simp only [ev, Zb, reduceIte, Nat.reduceEqDiff, *]; rfl)
            | (refine r_ret (vs := ?_) ?_ ?_
               rotate_left 1
               · simp only [resV, oneOf, stp, ev, Zb, Z2e, Z1z, Zk, Zl, reduceIte, Nat.reduceEqDiff, Zj, Zz, Zu, Z16, Z1a, Zm, Zp, Zo, Zd, Zx, Z2b, Z2x, Z1g, Z17, Zq, Zn, Zv, Z2p, Z2f, Z2o, Z2d, Z2g, Z1c, Z1b, Z2i, Z2n, Z2h, Z2j, Z2k, Z2l, Z2m, Z31, Z8, Z5, Z13, Zy, bld, fillL, vcs, splice, Ze, Z1, Z0, Z35, Ze, Z1, Z0, ldv, stv, vcs, fldA, idxA, blt, lenV, Z10, Z3, Z2, Zf, Zg, Ze, Z1, Z0, Z14, Zw, Zh, Zr, Z33, Z15, Z7, Zc, Z6, Z3, Z2, Zf, Zi, Nat.reduceAdd, Nat.reduceMul, Nat.reduceLeDiff, Z11, Z12, Z1y, Z1h, Z2c, Z23, Z28, Z27, Z26, Z25, Z24, Z1m, Z1l, Z1k, Z1j, Z1i, Z1w, Z1v, Z1u, Z1t, Z1s, Z32, Z2y, Z2q, Z2r, Z2s, Z20, Z1q, Z1r, Z2z, Z2t, Z21, Z22, splice, Za, Z9, Z1, Z0, Z19, Zt, Zs, Z18, newB, vcs, Z30, Z2v, Z1x, Z29, Z1n, Z2u, Z1o, Z1f, Z1p, Z1d, Z1e, Ty.ld3, Ty.sz3, Ty.zc3, Ty.by3, Ty.ld24, Ty.sz24, Ty.sl24, Ty.zc24, Ty.by24, Ty.ld56, Ty.sz56, Ty.sl56, Ty.zc56, Ty.by56, Ty.ld58, Ty.sz58, Ty.zc58, Ty.by58, Ty.pl58, Ty.fl58_0, Ty.fl58_1, Ty.fl58_2, Ty.ld77, Ty.sz77, Ty.zc77, Ty.by77, Ty.pl77, Ty.fl77_0, Ty.fl77_1, Ty.fl77_2, Ty.fl77_3, Ty.fl77_4, Ty.fl77_5, Ty.ld80, Ty.sz80, Ty.zc80, Ty.by80, Ty.pl80, Ty.fl80_0, Ty.fl80_1, Ty.fl80_2, Ty.fl80_3, Ty.fl80_4, Ty.fl80_5, Ty.fl80_6, Ty.fl80_7, Ty.ld139, Ty.sz139, Ty.zc139, Ty.by139, DAct.cells_length, DAct.cells_flat, DAct.cells_take, DAct.get0, DAct.get1, DAct.get4, DAct.get5, DAct.get6, DAct.get7, *]; rfl)
            | (with_reducible exact within_ok _ _ _ _)
            | (with_reducible exact isDeskAct_ok _ _)
            | (with_reducible refine tickDesk_at _ _ items _ _ _ _ _ ?_ ?_ ?_ ?_
               · assumption
               · assumption
               · assumption
               · assumption
               )
            | ((with_reducible refine Z2w (n := 98) ?_); rintro _ _ ⟨rfl, hh⟩; replace hh := hh.symm; subst hh)
            | ((with_reducible refine Z2w (n := 125) ?_); rintro _ _ ⟨rfl, hh⟩; replace hh := hh.symm; subst hh)
            | ((with_reducible refine Z2w (n := 126) ?_); rintro _ _ ⟨X, rfl, rfl⟩)
            )
          refine desk_keep (.inl rfl) ?_ hsp hids; simp
  · simp only [stepNow, stepItems, stepCode, hfm, Z2x]
    refine Z36 Try.func109 rfl Try.ntmps109 (by simp) (by dsimp only [Try.f109]) ?_
    repeat' (first
      | ((with_reducible refine eq_go ?_); simp only [stp, ev, Zb, Z2e, Z1z, Zk, Zl, reduceIte, Nat.reduceEqDiff, Zj, Zz, Zu, Z16, Z1a, Zm, Zp, Zo, Zd, Zx, Z2b, Z2x, Z1g, Z17, Zq, Zn, Zv, Z2p, Z2f, Z2o, Z2d, Z2g, Z1c, Z1b, Z2i, Z2n, Z2h, Z2j, Z2k, Z2l, Z2m, Z31, Z8, Z5, Z13, Zy, bld, fillL, vcs, splice, Ze, Z1, Z0, Z35, Ze, Z1, Z0, ldv, stv, vcs, fldA, idxA, blt, lenV, Z10, Z3, Z2, Zf, Zg, Ze, Z1, Z0, Z14, Zw, Zh, Zr, Z33, Z15, Z7, Zc, Z6, Z3, Z2, Zf, Zi, Nat.reduceAdd, Nat.reduceMul, Nat.reduceLeDiff, Z11, Z12, Z1y, Z1h, Z2c, Z23, Z28, Z27, Z26, Z25, Z24, Z1m, Z1l, Z1k, Z1j, Z1i, Z1w, Z1v, Z1u, Z1t, Z1s, Z32, Z2y, Z2q, Z2r, Z2s, Z20, Z1q, Z1r, Z2z, Z2t, Z21, Z22, splice, Za, Z9, Z1, Z0, Z19, Zt, Zs, Z18, newB, vcs, Z30, Z2v, Z1x, Z29, Z1n, Z2u, Z1o, Z1f, Z1p, Z1d, Z1e, Ty.ld3, Ty.sz3, Ty.zc3, Ty.by3, Ty.ld24, Ty.sz24, Ty.sl24, Ty.zc24, Ty.by24, Ty.ld56, Ty.sz56, Ty.sl56, Ty.zc56, Ty.by56, Ty.ld58, Ty.sz58, Ty.zc58, Ty.by58, Ty.pl58, Ty.fl58_0, Ty.fl58_1, Ty.fl58_2, Ty.ld77, Ty.sz77, Ty.zc77, Ty.by77, Ty.pl77, Ty.fl77_0, Ty.fl77_1, Ty.fl77_2, Ty.fl77_3, Ty.fl77_4, Ty.fl77_5, Ty.ld80, Ty.sz80, Ty.zc80, Ty.by80, Ty.pl80, Ty.fl80_0, Ty.fl80_1, Ty.fl80_2, Ty.fl80_3, Ty.fl80_4, Ty.fl80_5, Ty.fl80_6, Ty.fl80_7, Ty.ld139, Ty.sz139, Ty.zc139, Ty.by139, DAct.cells_length, DAct.cells_flat, DAct.cells_take, DAct.get0, DAct.get1, DAct.get4, DAct.get5, DAct.get6, DAct.get7, *]; rfl)
      | (with_reducible refine aw_then ?_) | (with_reducible refine aw_skip ?_) | (with_reducible refine aw_ret ?_) | (with_reducible refine aw_exit ?_) | (with_reducible refine aw_block ?_) | (with_reducible refine xr_reg (by decide +kernel) ?_)
      | (with_reducible refine xr_nil ?_) | (with_reducible refine k_norm ?_) | (with_reducible refine k_ret ?_) | (with_reducible refine k_exit ?_) | (with_reducible refine b_norm ?_) | (with_reducible refine b_ret ?_) | (with_reducible refine b_exit ?_) | (with_reducible refine b_past (by decide) ?_)
      | (with_reducible refine xd_nil ?_)
      | (refine xr_cl (f := ?_) (fs := ?_) (cs := ?_) (args := ?_) (K := ?_) ?_ ?_ ?_ ?_ ?_
         rotate_left 5
         · simp only [ev]; rfl
         first
         | (· with_reducible exact Ty.ok98
            rotate_left 2
            refine Z2a 98 ?_
            rotate_right 2)
         | (· with_reducible exact Ty.ok125
            rotate_left 2
            refine Z2a 125 ?_
            rotate_right 2)
         | (· with_reducible exact Ty.ok126
            rotate_left 2
            refine Z2a 126 ?_
            rotate_right 2)
         )
      | (refine xd_cl (f := ?_) (fs := ?_) (cs := ?_) (args := ?_) (v := ?_) ?_ ?_ ?_ ?_ ?_ ?_
         rotate_left 5
         · simp only [ev]; rfl
         · first | with_reducible exact Ty.ok98 | with_reducible exact Ty.ok125 | with_reducible exact Ty.ok126
         rotate_left 1
         · decide +kernel
         rotate_right 1)
      | (refine xr_do (v := ?_) (h' := ?_) (by exact rfl) ?_ ?_; rotate_left 2)
      | (refine xr_st (v := ?_) (h' := ?_) (by exact rfl) ?_ ?_; rotate_left 2)
      | (refine xd_reg (ms := [0, 0, 0, 4, 0, 16, 60, 0, 254, 511, 1023]) Ty.mx (by decide +kernel) (by decide +kernel) ?_)
      | (refine xd_bs (v := ?_) (h' := ?_) (L := ?_) (by decide +kernel) ?_ ?_ ?_
         rotate_left 3
         · simp only [stp, ev, Zb, Z2e, Z1z, Zk, Zl, reduceIte, Nat.reduceEqDiff, Zj, Zz, Zu, Z16, Z1a, Zm, Zp, Zo, Zd, Zx, Z2b, Z2x, Z1g, Z17, Zq, Zn, Zv, Z2p, Z2f, Z2o, Z2d, Z2g, Z1c, Z1b, Z2i, Z2n, Z2h, Z2j, Z2k, Z2l, Z2m, Z31, Z8, Z5, Z13, Zy, bld, fillL, vcs, splice, Ze, Z1, Z0, Z35, Ze, Z1, Z0, ldv, stv, vcs, fldA, idxA, blt, lenV, Z10, Z3, Z2, Zf, Zg, Ze, Z1, Z0, Z14, Zw, Zh, Zr, Z33, Z15, Z7, Zc, Z6, Z3, Z2, Zf, Zi, Nat.reduceAdd, Nat.reduceMul, Nat.reduceLeDiff, Z11, Z12, Z1y, Z1h, Z2c, Z23, Z28, Z27, Z26, Z25, Z24, Z1m, Z1l, Z1k, Z1j, Z1i, Z1w, Z1v, Z1u, Z1t, Z1s, Z32, Z2y, Z2q, Z2r, Z2s, Z20, Z1q, Z1r, Z2z, Z2t, Z21, Z22, splice, Za, Z9, Z1, Z0, Z19, Zt, Zs, Z18, newB, vcs, Z30, Z2v, Z1x, Z29, Z1n, Z2u, Z1o, Z1f, Z1p, Z1d, Z1e, Ty.ld3, Ty.sz3, Ty.zc3, Ty.by3, Ty.ld24, Ty.sz24, Ty.sl24, Ty.zc24, Ty.by24, Ty.ld56, Ty.sz56, Ty.sl56, Ty.zc56, Ty.by56, Ty.ld58, Ty.sz58, Ty.zc58, Ty.by58, Ty.pl58, Ty.fl58_0, Ty.fl58_1, Ty.fl58_2, Ty.ld77, Ty.sz77, Ty.zc77, Ty.by77, Ty.pl77, Ty.fl77_0, Ty.fl77_1, Ty.fl77_2, Ty.fl77_3, Ty.fl77_4, Ty.fl77_5, Ty.ld80, Ty.sz80, Ty.zc80, Ty.by80, Ty.pl80, Ty.fl80_0, Ty.fl80_1, Ty.fl80_2, Ty.fl80_3, Ty.fl80_4, Ty.fl80_5, Ty.fl80_6, Ty.fl80_7, Ty.ld139, Ty.sz139, Ty.zc139, Ty.by139, DAct.cells_length, DAct.cells_flat, DAct.cells_take, DAct.get0, DAct.get1, DAct.get4, DAct.get5, DAct.get6, DAct.get7, *]; rfl
         · exact rfl
         skip)
      | (refine xd_do (v := ?_) (by exact rfl) (by decide +kernel) ?_ ?_; rotate_left 1)
      | (refine aw_ift (by decide) ?_ ?_
         · simp only [ev, Zb, reduceIte, Nat.reduceEqDiff, *])
      | (refine aw_iff (by decide) ?_ ?_
         · simp only [ev, Zb, reduceIte, Nat.reduceEqDiff, *])
      | (refine aw_if (b := ?_) (by decide) ?_ (fun hb => ?_) (fun hb => ?_)
         rotate_left 1
         · simp only [ev, Zb, reduceIte, Nat.reduceEqDiff, *]; rfl)
      | (refine r_ret (vs := ?_) ?_ ?_
         rotate_left 1
         · simp only [resV, oneOf, stp, ev, Zb, Z2e, Z1z, Zk, Zl, reduceIte, Nat.reduceEqDiff, Zj, Zz, Zu, Z16, Z1a, Zm, Zp, Zo, Zd, Zx, Z2b, Z2x, Z1g, Z17, Zq, Zn, Zv, Z2p, Z2f, Z2o, Z2d, Z2g, Z1c, Z1b, Z2i, Z2n, Z2h, Z2j, Z2k, Z2l, Z2m, Z31, Z8, Z5, Z13, Zy, bld, fillL, vcs, splice, Ze, Z1, Z0, Z35, Ze, Z1, Z0, ldv, stv, vcs, fldA, idxA, blt, lenV, Z10, Z3, Z2, Zf, Zg, Ze, Z1, Z0, Z14, Zw, Zh, Zr, Z33, Z15, Z7, Zc, Z6, Z3, Z2, Zf, Zi, Nat.reduceAdd, Nat.reduceMul, Nat.reduceLeDiff, Z11, Z12, Z1y, Z1h, Z2c, Z23, Z28, Z27, Z26, Z25, Z24, Z1m, Z1l, Z1k, Z1j, Z1i, Z1w, Z1v, Z1u, Z1t, Z1s, Z32, Z2y, Z2q, Z2r, Z2s, Z20, Z1q, Z1r, Z2z, Z2t, Z21, Z22, splice, Za, Z9, Z1, Z0, Z19, Zt, Zs, Z18, newB, vcs, Z30, Z2v, Z1x, Z29, Z1n, Z2u, Z1o, Z1f, Z1p, Z1d, Z1e, Ty.ld3, Ty.sz3, Ty.zc3, Ty.by3, Ty.ld24, Ty.sz24, Ty.sl24, Ty.zc24, Ty.by24, Ty.ld56, Ty.sz56, Ty.sl56, Ty.zc56, Ty.by56, Ty.ld58, Ty.sz58, Ty.zc58, Ty.by58, Ty.pl58, Ty.fl58_0, Ty.fl58_1, Ty.fl58_2, Ty.ld77, Ty.sz77, Ty.zc77, Ty.by77, Ty.pl77, Ty.fl77_0, Ty.fl77_1, Ty.fl77_2, Ty.fl77_3, Ty.fl77_4, Ty.fl77_5, Ty.ld80, Ty.sz80, Ty.zc80, Ty.by80, Ty.pl80, Ty.fl80_0, Ty.fl80_1, Ty.fl80_2, Ty.fl80_3, Ty.fl80_4, Ty.fl80_5, Ty.fl80_6, Ty.fl80_7, Ty.ld139, Ty.sz139, Ty.zc139, Ty.by139, DAct.cells_length, DAct.cells_flat, DAct.cells_take, DAct.get0, DAct.get1, DAct.get4, DAct.get5, DAct.get6, DAct.get7, *]; rfl)
      | (with_reducible exact within_ok _ _ _ _)
      | (with_reducible exact isDeskAct_ok _ _)
      | (with_reducible refine tickDesk_at _ _ items _ _ _ _ _ ?_ ?_ ?_ ?_
         · assumption
         · assumption
         · assumption
         · assumption
         )
      | ((with_reducible refine Z2w (n := 98) ?_); rintro _ _ ⟨rfl, hh⟩; replace hh := hh.symm; subst hh)
      | ((with_reducible refine Z2w (n := 125) ?_); rintro _ _ ⟨rfl, hh⟩; replace hh := hh.symm; subst hh)
      | ((with_reducible refine Z2w (n := 126) ?_); rintro _ _ ⟨X, rfl, rfl⟩)
      )
    refine desk_keep (.inl rfl) ?_ hsp hids; simp
end Go.Proofs.Ytiddnhhjlipebaa.Am
