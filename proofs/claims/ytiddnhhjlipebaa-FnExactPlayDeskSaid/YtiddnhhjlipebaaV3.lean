/- Walk of an act on one item of a desk, in the program. Conditions: none. -/
import Derived.Test.YtiddnhhjlipebaaK3
import Derived.Test.YtiddnhhjlipebaaV2
namespace Go.Proofs.Ytiddnhhjlipebaa.Am
open Go Go.Proofs
set_option linter.unusedVariables false
set_option linter.unusedSimpArgs false
set_option maxRecDepth 100000
set_option maxHeartbeats 8000000

def isP (people : List Int) (who : Int) : Bool := decide (0 ≤ who ∧ who ≤ (people.length : Int) - 1)
def toM (a : DAct) : Int := if a.kind = 6 then a.dst else a.who
/-- The code of an act on an item. -/
def codeI (people : List Int) (x : Item) (a : DAct) : Int :=
  if stateM a.kind x.state = false then 2 else if a.kind = 7 then 0
  else if isP people a.who = false ∨ isP people (toM a) = false then 3
  else if roleM (people.getD a.who.toNat 0) x.role = false ∨ roleM (people.getD (toM a).toNat 0) x.role = false ∨ (a.kind ≠ 2 ∧ x.who ≠ a.who) then 4 else 0
/-- The item behind an act that may be done. -/
def doI (now : Int) (x : Item) (a : DAct) : Item :=
  if a.kind = 7 then { x with state := 5, who := -1, till := 0 }
  else if a.kind = 2 ∨ a.kind = 6 then { x with state := 2, who := toM a, till := now + 10 }
  else if a.kind = 3 then { x with state := 3, till := 0 }
  else if a.kind = 4 then { x with state := 4 }
  else if a.kind = 5 then { x with state := 1, who := -1, till := 0 }
  else x
def nextI (now : Int) (people : List Int) (x : Item) (a : DAct) : Item := if codeI people x a = 0 then doI now x a else x

theorem get_mid (p l : List Value) (j : Nat) : (p ++ l)[p.length + j]? = l[j]? := by rw [List.getElem?_append_right (by omega)]; congr 1; omega
theorem splice_pre (p : List Value) : ∀ (vs l : List Value) (j : Nat), splice (p ++ l) (p.length + j) vs = p ++ splice l j vs
  | [], _, _ => rfl
  | v :: vs, l, j => by
      simp only [splice]
      rw [List.set_append_right _ _ (by omega), show p.length + j - p.length = j by omega]
      exact splice_pre p vs _ (j + 1)
theorem get_mid0 (p l : List Value) : (p ++ l)[p.length]? = l[0]? := get_mid p l 0
theorem splice_pre0 (p vs l : List Value) : splice (p ++ l) p.length vs = p ++ splice l 0 vs := splice_pre p vs l 0
theorem set_mid (p l : List Value) (j : Nat) (v : Value) : (p ++ l).set (p.length + j) v = p ++ l.set j v := by rw [List.set_append_right _ _ (by omega), show p.length + j - p.length = j by omega]
theorem drop_mid (p l : List Value) : (p ++ l).drop p.length = l := by simp

theorem stepItem_at (now : Int) (people : List Int) (x : Item) (a : DAct) (pre post : List Value) (vp vi : Value) (h L : Heap) (hp : ∀ b, Sl (h ++ b :: L) vp 1 (people.map fun n => [.int .i64 n])) (hl : people.length ≤ 6) (hi : flat vi = true)
    (hn : 0 ≤ now ∧ now ≤ 10000) (hr : 0 ≤ x.role) :
    ACalls Try.prog 0 127 #[.agg #[.int .i64 now, vp, vi], .pointer (some ⟨h.length, pre.length, none⟩), .agg a.cells.toArray] (h ++ ⟨2, 6, pre ++ (x.cells ++ post)⟩ :: L)
    fun v h' => v = .int .i64 (codeI people x a) ∧ h' = h ++ ⟨2, 6, pre ++ ((nextI now people x a).cells ++ post)⟩ :: (L ++ [⟨2, 1, [.int .i64 now, vp, vi]⟩, ⟨2, 1, a.cells⟩]) := by
  have hf := (hp ⟨0, 0, []⟩).flat
  have hp2 : ∀ (b : Blk) (X : Heap), Sl (h ++ b :: (L ++ X)) vp 1 (people.map fun n => [.int .i64 n]) := fun b X => by have := (hp b).old X; simpa using this
  clear hp
  have hP : ∀ z : Int, (!decide (0 ≤ z ∧ z ≤ (people.length : Int) - 1)) = false → 0 ≤ z ∧ z ≤ (people.length : Int) - 1 := fun z q => by
    simp only [Bool.not_eq_false', decide_eq_true_eq] at q; exact q
  have hw : IntKind.i64.wrap (now + 10) = now + 10 := wrap_id (by omega)
  obtain ⟨kind, item, who, dst, cas, task, role, many⟩ := a
  obtain ⟨xc, xt, xr, xs, xw, xl⟩ := x
  simp only [DAct.cells, Item.cells, Zc, Zd] at hr ⊢
  refine Z36 Try.func127 rfl Try.ntmps127 (by simp) (by dsimp only [Try.f127]) ?_
  repeat' (first
    | ((with_reducible refine eq_go ?_); simp only [stp, ev, Zb, Z2e, Z1z, Zk, Zl, reduceIte, Nat.reduceEqDiff, Zj, Zz, Zu, Z16, Z1a, Zm, Zp, Zo, Zd, Zx, Z2b, Z2x, Z1g, Z17, Zq, Zn, Zv, Z2p, Z2f, Z2o, Z2d, Z2g, Z1c, Z1b, Z2i, Z2n, Z2h, Z2j, Z2k, Z2l, Z2m, Z31, Z8, Z5, Z13, Zy, ldv, stv, vcs, fldA, blt, lenV, Z10, Z3, Z2, Zf, Zg, Ze, Z1, Z0, Z14, Zw, Zh, Zr, Z33, Z15, Z7, Zc, Z6, Z3, Z2, Zf, Zi, Nat.reduceAdd, Nat.reduceMul, Nat.reduceLeDiff, Z11, Z12, Z1y, Z1h, Z2c, Z23, Z28, Z27, Z26, Z25, Z24, Z1m, Z1l, Z1k, Z1j, Z1i, Z1w, Z1v, Z1u, Z1t, Z1s, Z32, Z2y, Z2q, Z2r, Z2s, Z20, Z1q, Z1r, Z2z, Z2t, Z21, Z22, splice, Za, Z9, Z1, Z0, Z19, Zt, Zs, Z18, newB, vcs, Z30, Z2v, Z1x, Z29, Z1n, Z2u, Z1o, Z1f, Z1p, Z1d, Z1e, Ty.ld3, Ty.sz3, Ty.zc3, Ty.by3, Ty.ld24, Ty.sz24, Ty.sl24, Ty.zc24, Ty.by24, Ty.ld56, Ty.sz56, Ty.sl56, Ty.zc56, Ty.by56, Ty.ld58, Ty.sz58, Ty.zc58, Ty.by58, Ty.fl58_0, Ty.fl58_1, Ty.fl58_2, Ty.ld77, Ty.sz77, Ty.zc77, Ty.by77, Ty.fl77_0, Ty.fl77_1, Ty.fl77_2, Ty.fl77_3, Ty.fl77_4, Ty.fl77_5, Ty.ld80, Ty.sz80, Ty.zc80, Ty.by80, Ty.fl80_0, Ty.fl80_1, Ty.fl80_2, Ty.fl80_3, Ty.fl80_4, Ty.fl80_5, Ty.fl80_6, Ty.fl80_7, get_mid, get_mid0, splice_pre, splice_pre0, set_mid, drop_mid, Nat.add_le_add_iff_left, Nat.le_add_left, *]; rfl)
    | (with_reducible refine aw_then ?_) | (with_reducible refine aw_skip ?_) | (with_reducible refine aw_ret ?_) | (with_reducible refine aw_exit ?_) | (with_reducible refine aw_block ?_) | (with_reducible refine xr_reg (by decide +kernel) ?_)
    | (with_reducible refine xr_nil ?_) | (with_reducible refine k_norm ?_) | (with_reducible refine k_ret ?_) | (with_reducible refine k_exit ?_) | (with_reducible refine b_norm ?_) | (with_reducible refine b_ret ?_) | (with_reducible refine b_exit ?_) | (with_reducible refine b_past (by decide) ?_)
    | (with_reducible refine xd_nil ?_)
    | (refine xr_cl (f := ?_) (fs := ?_) (cs := ?_) (args := ?_) (K := ?_) ?_ ?_ ?_ ?_ ?_
       rotate_left 5
       · simp only [ev]; rfl
       first
       | (· with_reducible exact Ty.ok97
          rotate_left 2
          refine Z2a 97 ?_
          rotate_right 2)
       | (· with_reducible exact Ty.ok99
          rotate_left 2
          refine Z2a 99 ?_
          rotate_right 2)
       | (· with_reducible exact Ty.ok136
          rotate_left 2
          refine Z2a 136 ?_
          rotate_right 2)
       )
    | (refine xr_gcl (f := ?_) (fs := ?_) (cs := ?_) (args := ?_) (K := ?_) (by exact rfl) ?_ ?_ ?_ ?_ ?_ ?_
       rotate_left 5
       · simp only [ev, Zb, reduceIte, Nat.reduceEqDiff, Z8, Z5, *]
       · simp only [ev]; rfl
       first
       | (· with_reducible exact Ty.ok97
          rotate_left 2
          refine Z2a 97 ?_
          rotate_right 2)
       | (· with_reducible exact Ty.ok99
          rotate_left 2
          refine Z2a 99 ?_
          rotate_right 2)
       | (· with_reducible exact Ty.ok136
          rotate_left 2
          refine Z2a 136 ?_
          rotate_right 2)
       )
    | (refine xd_cl (f := ?_) (fs := ?_) (cs := ?_) (args := ?_) (v := ?_) ?_ ?_ ?_ ?_ ?_ ?_
       rotate_left 5
       · simp only [ev]; rfl
       · first | with_reducible exact Ty.ok97 | with_reducible exact Ty.ok99 | with_reducible exact Ty.ok136
       rotate_left 1
       · decide +kernel
       rotate_right 1)
    | (refine xd_gcl (f := ?_) (fs := ?_) (cs := ?_) (args := ?_) (v := ?_) (by exact rfl) ?_ ?_ ?_ ?_ ?_ ?_ ?_
       rotate_left 5
       · simp only [ev, Zb, reduceIte, Nat.reduceEqDiff, Z8, Z5, *]
       · simp only [ev]; rfl
       · first | with_reducible exact Ty.ok97 | with_reducible exact Ty.ok99 | with_reducible exact Ty.ok136
       rotate_left 1
       · decide +kernel
       rotate_right 1)
    | (refine xr_do (v := ?_) (h' := ?_) (by exact rfl) ?_ ?_; rotate_left 2)
    | (refine xr_st (v := ?_) (h' := ?_) (by exact rfl) ?_ ?_; rotate_left 2)
    | (refine xd_reg (ms := [0, 1, 3, 0, 8, 31, 63]) Ty.mx (by decide +kernel) (by decide +kernel) ?_)
    | (refine xd_reg (ms := [0, 0, 2, 0, 8, 24, 56, 127, 255, 511, 1023, 1023, 1023, 5119, 13311, 29695, 65535, 131071, 262143, 524287, 1048575, 2097151, 4194303, 8388607, 16777215, 33554431, 67108863, 134217727, 16777215, 285212671, 1073741823, 2147483647, 4294967295, 8589934591]) Ty.mx (by decide +kernel) (by decide +kernel) ?_)
    | (refine xe_reg (ms := [0, 0, 0, 0, 0, 16, 48, 1, 129, 385, 907, 1931, 3979, 8191, 16383, 32767]) Ty.mx (by decide +kernel) (by decide +kernel) [[],[],[],[],[],[],[],[],[],[h.length],[],[],[h.length],[],[],[h.length]] ?_)
    | (with_reducible refine xe_nil ?_)
    | (refine xe_do (v := ?_) (ids := []) (by exact rfl) (by decide +kernel) (by exact rfl) (by exact rfl) ?_ ?_; rotate_left 1)
    | (refine xe_st (v := ?_) (a := ?_) (h' := ?_) (ids := []) (by decide +kernel) (by exact rfl) ?_ ?_ ?_ ?_ ?_
       rotate_left 3
       · simp only [stp, ev, Zb, Z2e, Z1z, Zk, Zl, reduceIte, Nat.reduceEqDiff, Zj, Zz, Zu, Z16, Z1a, Zm, Zp, Zo, Zd, Zx, Z2b, Z2x, Z1g, Z17, Zq, Zn, Zv, Z2p, Z2f, Z2o, Z2d, Z2g, Z1c, Z1b, Z2i, Z2n, Z2h, Z2j, Z2k, Z2l, Z2m, Z31, Z8, Z5, Z13, Zy, ldv, stv, vcs, fldA, blt, lenV, Z10, Z3, Z2, Zf, Zg, Ze, Z1, Z0, Z14, Zw, Zh, Zr, Z33, Z15, Z7, Zc, Z6, Z3, Z2, Zf, Zi, Nat.reduceAdd, Nat.reduceMul, Nat.reduceLeDiff, Z11, Z12, Z1y, Z1h, Z2c, Z23, Z28, Z27, Z26, Z25, Z24, Z1m, Z1l, Z1k, Z1j, Z1i, Z1w, Z1v, Z1u, Z1t, Z1s, Z32, Z2y, Z2q, Z2r, Z2s, Z20, Z1q, Z1r, Z2z, Z2t, Z21, Z22, splice, Za, Z9, Z1, Z0, Z19, Zt, Zs, Z18, newB, vcs, Z30, Z2v, Z1x, Z29, Z1n, Z2u, Z1o, Z1f, Z1p, Z1d, Z1e, Ty.ld3, Ty.sz3, Ty.zc3, Ty.by3, Ty.ld24, Ty.sz24, Ty.sl24, Ty.zc24, Ty.by24, Ty.ld56, Ty.sz56, Ty.sl56, Ty.zc56, Ty.by56, Ty.ld58, Ty.sz58, Ty.zc58, Ty.by58, Ty.fl58_0, Ty.fl58_1, Ty.fl58_2, Ty.ld77, Ty.sz77, Ty.zc77, Ty.by77, Ty.fl77_0, Ty.fl77_1, Ty.fl77_2, Ty.fl77_3, Ty.fl77_4, Ty.fl77_5, Ty.ld80, Ty.sz80, Ty.zc80, Ty.by80, Ty.fl80_0, Ty.fl80_1, Ty.fl80_2, Ty.fl80_3, Ty.fl80_4, Ty.fl80_5, Ty.fl80_6, Ty.fl80_7, get_mid, get_mid0, splice_pre, splice_pre0, set_mid, drop_mid, Nat.add_le_add_iff_left, Nat.le_add_left, *]; rfl
       · exact rfl
       · simp
       skip)
    | (refine xe_do (v := ?_) (ids := [h.length]) (by exact rfl) (by decide +kernel) (by exact rfl) (by exact rfl) ?_ ?_; rotate_left 1)
    | (refine xe_st (v := ?_) (a := ?_) (h' := ?_) (ids := [h.length]) (by decide +kernel) (by exact rfl) ?_ ?_ ?_ ?_ ?_
       rotate_left 3
       · simp only [stp, ev, Zb, Z2e, Z1z, Zk, Zl, reduceIte, Nat.reduceEqDiff, Zj, Zz, Zu, Z16, Z1a, Zm, Zp, Zo, Zd, Zx, Z2b, Z2x, Z1g, Z17, Zq, Zn, Zv, Z2p, Z2f, Z2o, Z2d, Z2g, Z1c, Z1b, Z2i, Z2n, Z2h, Z2j, Z2k, Z2l, Z2m, Z31, Z8, Z5, Z13, Zy, ldv, stv, vcs, fldA, blt, lenV, Z10, Z3, Z2, Zf, Zg, Ze, Z1, Z0, Z14, Zw, Zh, Zr, Z33, Z15, Z7, Zc, Z6, Z3, Z2, Zf, Zi, Nat.reduceAdd, Nat.reduceMul, Nat.reduceLeDiff, Z11, Z12, Z1y, Z1h, Z2c, Z23, Z28, Z27, Z26, Z25, Z24, Z1m, Z1l, Z1k, Z1j, Z1i, Z1w, Z1v, Z1u, Z1t, Z1s, Z32, Z2y, Z2q, Z2r, Z2s, Z20, Z1q, Z1r, Z2z, Z2t, Z21, Z22, splice, Za, Z9, Z1, Z0, Z19, Zt, Zs, Z18, newB, vcs, Z30, Z2v, Z1x, Z29, Z1n, Z2u, Z1o, Z1f, Z1p, Z1d, Z1e, Ty.ld3, Ty.sz3, Ty.zc3, Ty.by3, Ty.ld24, Ty.sz24, Ty.sl24, Ty.zc24, Ty.by24, Ty.ld56, Ty.sz56, Ty.sl56, Ty.zc56, Ty.by56, Ty.ld58, Ty.sz58, Ty.zc58, Ty.by58, Ty.fl58_0, Ty.fl58_1, Ty.fl58_2, Ty.ld77, Ty.sz77, Ty.zc77, Ty.by77, Ty.fl77_0, Ty.fl77_1, Ty.fl77_2, Ty.fl77_3, Ty.fl77_4, Ty.fl77_5, Ty.ld80, Ty.sz80, Ty.zc80, Ty.by80, Ty.fl80_0, Ty.fl80_1, Ty.fl80_2, Ty.fl80_3, Ty.fl80_4, Ty.fl80_5, Ty.fl80_6, Ty.fl80_7, get_mid, get_mid0, splice_pre, splice_pre0, set_mid, drop_mid, Nat.add_le_add_iff_left, Nat.le_add_left, *]; rfl
       · exact rfl
       · simp
       skip)
    | (refine xe_do (v := ?_) (ids := [h.length, h.length]) (by exact rfl) (by decide +kernel) (by exact rfl) (by exact rfl) ?_ ?_; rotate_left 1)
    | (refine xe_st (v := ?_) (a := ?_) (h' := ?_) (ids := [h.length, h.length]) (by decide +kernel) (by exact rfl) ?_ ?_ ?_ ?_ ?_
       rotate_left 3
       · simp only [stp, ev, Zb, Z2e, Z1z, Zk, Zl, reduceIte, Nat.reduceEqDiff, Zj, Zz, Zu, Z16, Z1a, Zm, Zp, Zo, Zd, Zx, Z2b, Z2x, Z1g, Z17, Zq, Zn, Zv, Z2p, Z2f, Z2o, Z2d, Z2g, Z1c, Z1b, Z2i, Z2n, Z2h, Z2j, Z2k, Z2l, Z2m, Z31, Z8, Z5, Z13, Zy, ldv, stv, vcs, fldA, blt, lenV, Z10, Z3, Z2, Zf, Zg, Ze, Z1, Z0, Z14, Zw, Zh, Zr, Z33, Z15, Z7, Zc, Z6, Z3, Z2, Zf, Zi, Nat.reduceAdd, Nat.reduceMul, Nat.reduceLeDiff, Z11, Z12, Z1y, Z1h, Z2c, Z23, Z28, Z27, Z26, Z25, Z24, Z1m, Z1l, Z1k, Z1j, Z1i, Z1w, Z1v, Z1u, Z1t, Z1s, Z32, Z2y, Z2q, Z2r, Z2s, Z20, Z1q, Z1r, Z2z, Z2t, Z21, Z22, splice, Za, Z9, Z1, Z0, Z19, Zt, Zs, Z18, newB, vcs, Z30, Z2v, Z1x, Z29, Z1n, Z2u, Z1o, Z1f, Z1p, Z1d, Z1e, Ty.ld3, Ty.sz3, Ty.zc3, Ty.by3, Ty.ld24, Ty.sz24, Ty.sl24, Ty.zc24, Ty.by24, Ty.ld56, Ty.sz56, Ty.sl56, Ty.zc56, Ty.by56, Ty.ld58, Ty.sz58, Ty.zc58, Ty.by58, Ty.fl58_0, Ty.fl58_1, Ty.fl58_2, Ty.ld77, Ty.sz77, Ty.zc77, Ty.by77, Ty.fl77_0, Ty.fl77_1, Ty.fl77_2, Ty.fl77_3, Ty.fl77_4, Ty.fl77_5, Ty.ld80, Ty.sz80, Ty.zc80, Ty.by80, Ty.fl80_0, Ty.fl80_1, Ty.fl80_2, Ty.fl80_3, Ty.fl80_4, Ty.fl80_5, Ty.fl80_6, Ty.fl80_7, get_mid, get_mid0, splice_pre, splice_pre0, set_mid, drop_mid, Nat.add_le_add_iff_left, Nat.le_add_left, *]; rfl
       · exact rfl
       · simp
       skip)
    | (refine xe_alloc (z := ?_) ?_ ?_ (by exact rfl) ?_
       rotate_left 1
       · first | exact Ty.zc3 | exact Ty.zc58 | exact Ty.zc77 | exact Ty.zc80
       · decide)
    | (refine xe_pure (ids := []) (f := ?_) (fs := ?_) (cs := ?_) (args := ?_) (v := ?_) ?_ ?_ ?_ (by decide +kernel) (by exact rfl) (by exact rfl) ?_ ?_
       rotate_left 5
       · simp only [ev]; rfl
       · first | with_reducible exact Ty.ok97 | with_reducible exact Ty.ok99 | with_reducible exact Ty.ok136
       · simp only [stp, ev, Zb, Z2e, Z1z, Zk, Zl, reduceIte, Nat.reduceEqDiff, Zj, Zz, Zu, Z16, Z1a, Zm, Zp, Zo, Zd, Zx, Z2b, Z2x, Z1g, Z17, Zq, Zn, Zv, Z2p, Z2f, Z2o, Z2d, Z2g, Z1c, Z1b, Z2i, Z2n, Z2h, Z2j, Z2k, Z2l, Z2m, Z31, Z8, Z5, Z13, Zy, ldv, stv, vcs, fldA, blt, lenV, Z10, Z3, Z2, Zf, Zg, Ze, Z1, Z0, Z14, Zw, Zh, Zr, Z33, Z15, Z7, Zc, Z6, Z3, Z2, Zf, Zi, Nat.reduceAdd, Nat.reduceMul, Nat.reduceLeDiff, Z11, Z12, Z1y, Z1h, Z2c, Z23, Z28, Z27, Z26, Z25, Z24, Z1m, Z1l, Z1k, Z1j, Z1i, Z1w, Z1v, Z1u, Z1t, Z1s, Z32, Z2y, Z2q, Z2r, Z2s, Z20, Z1q, Z1r, Z2z, Z2t, Z21, Z22, splice, Za, Z9, Z1, Z0, Z19, Zt, Zs, Z18, newB, vcs, Z30, Z2v, Z1x, Z29, Z1n, Z2u, Z1o, Z1f, Z1p, Z1d, Z1e, Ty.ld3, Ty.sz3, Ty.zc3, Ty.by3, Ty.ld24, Ty.sz24, Ty.sl24, Ty.zc24, Ty.by24, Ty.ld56, Ty.sz56, Ty.sl56, Ty.zc56, Ty.by56, Ty.ld58, Ty.sz58, Ty.zc58, Ty.by58, Ty.fl58_0, Ty.fl58_1, Ty.fl58_2, Ty.ld77, Ty.sz77, Ty.zc77, Ty.by77, Ty.fl77_0, Ty.fl77_1, Ty.fl77_2, Ty.fl77_3, Ty.fl77_4, Ty.fl77_5, Ty.ld80, Ty.sz80, Ty.zc80, Ty.by80, Ty.fl80_0, Ty.fl80_1, Ty.fl80_2, Ty.fl80_3, Ty.fl80_4, Ty.fl80_5, Ty.fl80_6, Ty.fl80_7, get_mid, get_mid0, splice_pre, splice_pre0, set_mid, drop_mid, Nat.add_le_add_iff_left, Nat.le_add_left, *]; rfl
       · first
         | (with_reducible refine isPerson_ok _ _ ?_ _ _ _ ?_ ?_ ?_
            rotate_left 1
            · exact hp2 _ _
            · assumption
            · assumption
            )
         | (with_reducible refine hasRole_ok _ _ _ ?_ _ _ _ ?_ ?_ ?_ ?_
            rotate_left 1
            · exact hp2 _ _
            · assumption
            · exact hP _ (by assumption)
            · exact hr
            )
         | (with_reducible refine requiredState_x _ _ _ _ _ _ _ _
            )
       skip)
    | (refine xd_do (v := ?_) (by exact rfl) (by decide +kernel) ?_ ?_; rotate_left 1)
    | (refine xd_gdo (v := ?_) (by exact rfl) (by decide +kernel) (by exact rfl) ?_ ?_ ?_
       rotate_left 1
       · simp only [ev, Zb, reduceIte, Nat.reduceEqDiff, Z8, Z5, *])
    | (refine xd_goff (by exact rfl) ?_ ?_
       · simp only [ev, Zb, reduceIte, Nat.reduceEqDiff, Z8, Z5, *])
    | (refine xd_gund (by exact rfl) ?_ ?_
       · simp only [ev, Zb, reduceIte, Nat.reduceEqDiff, Z8, Z5, *])
    | (refine xd_gif (b := ?_) (by exact rfl) ?_ (fun hb => ?_) (fun hb => ?_)
       rotate_left 1
       · simp only [ev, Zb, reduceIte, Nat.reduceEqDiff, Z8, Z5, *]; rfl)
    | (refine xr_gdo (v := ?_) (h' := ?_) (by exact rfl) (by exact rfl) ?_ ?_ ?_
       rotate_left 2
       · simp only [ev, Zb, reduceIte, Nat.reduceEqDiff, Z8, Z5, *])
    | (refine xr_gst (v := ?_) (h' := ?_) (by exact rfl) (by exact rfl) ?_ ?_ ?_
       rotate_left 2
       · simp only [ev, Zb, reduceIte, Nat.reduceEqDiff, Z8, Z5, *])
    | (refine xr_goff (by exact rfl) ?_ ?_
       · simp only [ev, Zb, reduceIte, Nat.reduceEqDiff, Z8, Z5, *])
    | (refine xr_gsoff (by exact rfl) ?_ ?_
       · simp only [ev, Zb, reduceIte, Nat.reduceEqDiff, Z8, Z5, *])
    | (refine xr_gund (by exact rfl) ?_ ?_
       · simp only [ev, Zb, reduceIte, Nat.reduceEqDiff, Z8, Z5, *])
    | (refine xr_gsund (by exact rfl) ?_ ?_
       · simp only [ev, Zb, reduceIte, Nat.reduceEqDiff, Z8, Z5, *])
    | (refine xr_gif (b := ?_) (by exact rfl) ?_ (fun hb => ?_) (fun hb => ?_)
       rotate_left 1
       · simp only [ev, Zb, reduceIte, Nat.reduceEqDiff, Z8, Z5, *]; rfl)
    | (refine aw_ift (by decide) ?_ ?_
       · simp only [ev, Zb, reduceIte, Nat.reduceEqDiff, *])
    | (refine aw_iff (by decide) ?_ ?_
       · simp only [ev, Zb, reduceIte, Nat.reduceEqDiff, *])
    | (refine aw_if (b := ?_) (by decide) ?_ (fun hb => ?_) (fun hb => ?_)
       rotate_left 1
       · simp only [ev, Zb, reduceIte, Nat.reduceEqDiff, *]; rfl)
    | (refine r_ret (vs := ?_) ?_ ?_
       rotate_left 1
       · simp only [resV, ev, Zb, reduceIte, Nat.reduceEqDiff, Zj, *]; rfl)
    | (with_reducible refine isPerson_ok _ _ ?_ _ _ _ ?_ ?_ ?_
       rotate_left 1
       · exact hp2 _ _
       · assumption
       · assumption
       )
    | (with_reducible refine hasRole_ok _ _ _ ?_ _ _ _ ?_ ?_ ?_ ?_
       rotate_left 1
       · exact hp2 _ _
       · assumption
       · exact hP _ (by assumption)
       · exact hr
       )
    | (with_reducible exact requiredState_x _ _ _ _ _ _ _ _)
    | ((with_reducible refine Z2w (n := 97) ?_); rintro _ _ ⟨rfl, hh⟩; replace hh := hh.symm; subst hh)
    | ((with_reducible refine Z2w (n := 99) ?_); rintro _ _ ⟨rfl, hh⟩; replace hh := hh.symm; subst hh)
    | ((with_reducible refine Z2w (n := 136) ?_); rintro _ _ ⟨rfl, hh⟩; replace hh := hh.symm; subst hh)
    )
  all_goals clear hp2 hP hw hf hi hn hl
  all_goals simp only [Bool.not_eq_true', Bool.not_eq_false', decide_eq_true_eq, decide_eq_false_iff_not] at *
  all_goals first | (exfalso; omega) | skip
  all_goals simp_all [oneOf, codeI, nextI, doI, toM, isP]
end Go.Proofs.Ytiddnhhjlipebaa.Am
