/- Walks of the making of a desk. Conditions: none. -/
import Derived.Test.YtiddnhhjlipebaaK3
import Derived.Test.YtiddnhhjlipebaaV4
import Derived.Test.YtiddnhhjlipebaaV1
import Derived.Test.YtiddnhhjlipebaaV5
import Derived.Test.YtiddnhhjlipebaaV7
import Derived.Test.YtiddnhhjlipebaaV2
import Derived.Test.YtiddnhhjlipebaaTy2
namespace Go.Proofs.Ytiddnhhjlipebaa.Am
open Go Go.Proofs
set_option linter.unusedVariables false
set_option linter.unusedSimpArgs false
set_option maxRecDepth 100000
set_option maxHeartbeats 8000000

def peopleOk (people : List Int) : Bool := decide (1 ≤ (people.length : Int) ∧ (people.length : Int) ≤ 6) && people.all (fun n => decide (0 ≤ n ∧ n ≤ 15))

/-- A new desk: its value and the blocks it leaves. -/
def newDeskV (n : Nat) (people : List Int) : Value := .tuple #[.agg #[.int .i64 0, if peopleOk people then .slice (some ⟨n, 0, some 0⟩) people.length people.length else .slice none 0 0, .slice none 0 0], .bool (peopleOk people)]
def newDeskL (people : List Int) : Heap := if peopleOk people then [⟨2, 1, (ints people).flatten⟩] else []

theorem specNewDesk_ok (people : List Int) (a : Addr) (c : Nat) (h : Heap) (hs : Sl h (.slice (some a) people.length c) 1 (ints people)) (hl : people.length ≤ 1048576) :
    ACalls Try.prog 0 46 #[.slice (some a) people.length c] h fun v h' => v = newDeskV h.length people ∧ h' = h ++ newDeskL people := by
  have hdk : (decide (1 ≤ (people.length : Int) ∧ (people.length : Int) ≤ 6) && people.all (fun n => decide (0 ≤ n ∧ n ≤ 15))) = peopleOk people := rfl
  rcases Bool.eq_false_or_eq_true (peopleOk people) with hk | hk
  · rw [newDeskV, newDeskL, hk, if_pos rfl, if_pos rfl]
    refine acalls_canon _ _ ?_
    refine Z36 Try.func46 rfl Try.ntmps46 (by simp) (by dsimp only [Try.f46]) ?_
    repeat' (first
      | ((with_reducible refine eq_go ?_); simp only [stp, ev, Zb, Z2e, Z1z, Zk, Zl, reduceIte, Nat.reduceEqDiff, Zj, Zz, Zu, Z16, Z1a, Zm, Zp, Zo, Zd, Zx, Z2b, Z2x, Z1g, Z17, Zq, Zn, Zv, Z2p, Z2f, Z2o, Z2d, Z2g, Z1c, Z1b, Z2i, Z2n, Z2h, Z2j, Z2k, Z2l, Z2m, Z31, Z8, Z5, Z13, Zy, bld, fillL, vcs, splice, Ze, Z1, Z0, Z35, ldv, stv, vcs, blt, lenV, Z10, Z3, Z2, Zf, Zg, Ze, Z1, Z0, Z14, Zw, Zh, Zr, Z33, Z15, Z7, Zc, Z6, Z3, Z2, Zf, Zi, Nat.reduceAdd, Nat.reduceMul, Nat.reduceLeDiff, Z11, Z12, Z1y, Z1h, Z2c, Z23, Z28, Z27, Z26, Z25, Z24, Z1m, Z1l, Z1k, Z1j, Z1i, Z1w, Z1v, Z1u, Z1t, Z1s, Z32, Z2y, Z2q, Z2r, Z2s, Z20, Z1q, Z1r, Z2z, Z2t, Z21, Z22, splice, Za, Z9, Z1, Z0, Z19, Zt, Zs, Z18, newB, vcs, Z30, Z2v, Z1x, Z29, Z1n, Z2u, Z1o, Z1f, Z1p, Z1d, Z1e, Ty.ld3, Ty.sz3, Ty.zc3, Ty.by3, Ty.ld24, Ty.sz24, Ty.sl24, Ty.zc24, Ty.by24, Ty.ld56, Ty.sz56, Ty.sl56, Ty.zc56, Ty.by56, Ty.ld58, Ty.sz58, Ty.zc58, Ty.by58, Ty.pl58, Ty.ld77, Ty.sz77, Ty.zc77, Ty.by77, Ty.pl77, *]; rfl)
      | (with_reducible refine aw_then ?_) | (with_reducible refine aw_skip ?_) | (with_reducible refine aw_ret ?_) | (with_reducible refine aw_exit ?_) | (with_reducible refine aw_block ?_) | (with_reducible refine xr_reg (by decide +kernel) ?_)
      | (with_reducible refine xr_nil ?_) | (with_reducible refine k_norm ?_) | (with_reducible refine k_ret ?_) | (with_reducible refine k_exit ?_) | (with_reducible refine b_norm ?_) | (with_reducible refine b_ret ?_) | (with_reducible refine b_exit ?_) | (with_reducible refine b_past (by decide) ?_)
      | (refine xr_cl (f := ?_) (fs := ?_) (cs := ?_) (args := ?_) (K := ?_) ?_ ?_ ?_ ?_ ?_
         rotate_left 5
         · simp only [ev]; rfl
         first
         | (· with_reducible exact Ty.ok91
            rotate_left 2
            refine Z2a 91 ?_
            rotate_right 2)
         | (· with_reducible exact Ty.ok100
            rotate_left 2
            refine Z2a 100 ?_
            rotate_right 2)
         )
      | (refine xr_do (v := ?_) (h' := ?_) (by exact rfl) ?_ ?_; rotate_left 2)
      | (refine xr_st (v := ?_) (h' := ?_) (by exact rfl) ?_ ?_; rotate_left 2)
      | (refine aw_ift (by decide) ?_ ?_
         · simp only [ev, Zb, reduceIte, Nat.reduceEqDiff, *])
      | (refine aw_iff (by decide) ?_ ?_
         · simp only [ev, Zb, reduceIte, Nat.reduceEqDiff, *])
      | (refine aw_if (b := ?_) (by decide) ?_ (fun hb => ?_) (fun hb => ?_)
         rotate_left 1
         · simp only [ev, Zb, reduceIte, Nat.reduceEqDiff, *]; rfl)
      | (refine r_ret (vs := ?_) ?_ ?_
         rotate_left 1
         · simp only [resV, oneOf, stp, ev, Zb, Z2e, Z1z, Zk, Zl, reduceIte, Nat.reduceEqDiff, Zj, Zz, Zu, Z16, Z1a, Zm, Zp, Zo, Zd, Zx, Z2b, Z2x, Z1g, Z17, Zq, Zn, Zv, Z2p, Z2f, Z2o, Z2d, Z2g, Z1c, Z1b, Z2i, Z2n, Z2h, Z2j, Z2k, Z2l, Z2m, Z31, Z8, Z5, Z13, Zy, bld, fillL, vcs, splice, Ze, Z1, Z0, Z35, ldv, stv, vcs, blt, lenV, Z10, Z3, Z2, Zf, Zg, Ze, Z1, Z0, Z14, Zw, Zh, Zr, Z33, Z15, Z7, Zc, Z6, Z3, Z2, Zf, Zi, Nat.reduceAdd, Nat.reduceMul, Nat.reduceLeDiff, Z11, Z12, Z1y, Z1h, Z2c, Z23, Z28, Z27, Z26, Z25, Z24, Z1m, Z1l, Z1k, Z1j, Z1i, Z1w, Z1v, Z1u, Z1t, Z1s, Z32, Z2y, Z2q, Z2r, Z2s, Z20, Z1q, Z1r, Z2z, Z2t, Z21, Z22, splice, Za, Z9, Z1, Z0, Z19, Zt, Zs, Z18, newB, vcs, Z30, Z2v, Z1x, Z29, Z1n, Z2u, Z1o, Z1f, Z1p, Z1d, Z1e, Ty.ld3, Ty.sz3, Ty.zc3, Ty.by3, Ty.ld24, Ty.sz24, Ty.sl24, Ty.zc24, Ty.by24, Ty.ld56, Ty.sz56, Ty.sl56, Ty.zc56, Ty.by56, Ty.ld58, Ty.sz58, Ty.zc58, Ty.by58, Ty.pl58, Ty.ld77, Ty.sz77, Ty.zc77, Ty.by77, Ty.pl77, *]; rfl)
      | (with_reducible refine l16People_ok ?_ _ _ ?_ ?_
         rotate_left 1
         · first | assumption | exact Sl.old (by assumption) _
         · first | omega | (simp only [Z2]; omega)
         )
      | (with_reducible refine l1Own_ok _ _ _ _ ?_ ?_
         · first | assumption | exact Sl.old (by assumption) _ | ((try (simp only [deskV, deskL, Z11, Z12, Z1y, Z1h, Za, Z9, Z7, Zc, Zd, Z6, Z3, Z2, Zf, Zi, Nat.reduceAdd, Zh])); first | exact Sl.old (by assumption) _ | exact sl_nilints | exact sl_nilitems | (refine sl_ints (Z4 _) ?_; exact rfl) | (refine sl_items (Z4 _) ?_; exact rfl) | (refine sl_ints0 (Z4 _) ?_; exact rfl) | (refine sl_items0 (Z4 _) ?_; exact rfl))
         · first | omega | (simp only [Z2]; omega)
         )
      | ((with_reducible refine Z2w (n := 91) ?_); rintro _ _ ⟨rfl, hh⟩; replace hh := hh.symm; subst hh)
      | ((with_reducible refine Z2w (n := 100) ?_); rintro _ _ ⟨rfl, hh⟩; replace hh := hh.symm; subst hh)
      )
    refine ⟨_, [1], rfl, Inj.one 1, rfl, BsOk.cons rfl (ints_af _) rfl (BsOk.nil _ _), ?_⟩
    exact RVl.tuple (l := [_, _]) (l' := [_, _]) ⟨RVl.agg (l := [_, _, _]) (l' := [_, _, _]) ⟨.plain _ rfl, .sl 0 1 _ _ 1 _ _ rfl rfl (ints_flen _) (Z4 _) (.inr rfl), .plain _ rfl, trivial⟩, .plain _ rfl, trivial⟩
  · rw [newDeskV, newDeskL, hk, if_neg (by simp), if_neg (by simp)]
    refine acalls_canon _ _ ?_
    refine Z36 Try.func46 rfl Try.ntmps46 (by simp) (by dsimp only [Try.f46]) ?_
    repeat' (first
      | ((with_reducible refine eq_go ?_); simp only [stp, ev, Zb, Z2e, Z1z, Zk, Zl, reduceIte, Nat.reduceEqDiff, Zj, Zz, Zu, Z16, Z1a, Zm, Zp, Zo, Zd, Zx, Z2b, Z2x, Z1g, Z17, Zq, Zn, Zv, Z2p, Z2f, Z2o, Z2d, Z2g, Z1c, Z1b, Z2i, Z2n, Z2h, Z2j, Z2k, Z2l, Z2m, Z31, Z8, Z5, Z13, Zy, bld, fillL, vcs, splice, Ze, Z1, Z0, Z35, ldv, stv, vcs, blt, lenV, Z10, Z3, Z2, Zf, Zg, Ze, Z1, Z0, Z14, Zw, Zh, Zr, Z33, Z15, Z7, Zc, Z6, Z3, Z2, Zf, Zi, Nat.reduceAdd, Nat.reduceMul, Nat.reduceLeDiff, Z11, Z12, Z1y, Z1h, Z2c, Z23, Z28, Z27, Z26, Z25, Z24, Z1m, Z1l, Z1k, Z1j, Z1i, Z1w, Z1v, Z1u, Z1t, Z1s, Z32, Z2y, Z2q, Z2r, Z2s, Z20, Z1q, Z1r, Z2z, Z2t, Z21, Z22, splice, Za, Z9, Z1, Z0, Z19, Zt, Zs, Z18, newB, vcs, Z30, Z2v, Z1x, Z29, Z1n, Z2u, Z1o, Z1f, Z1p, Z1d, Z1e, Ty.ld3, Ty.sz3, Ty.zc3, Ty.by3, Ty.ld24, Ty.sz24, Ty.sl24, Ty.zc24, Ty.by24, Ty.ld56, Ty.sz56, Ty.sl56, Ty.zc56, Ty.by56, Ty.ld58, Ty.sz58, Ty.zc58, Ty.by58, Ty.pl58, Ty.ld77, Ty.sz77, Ty.zc77, Ty.by77, Ty.pl77, *]; rfl)
      | (with_reducible refine aw_then ?_) | (with_reducible refine aw_skip ?_) | (with_reducible refine aw_ret ?_) | (with_reducible refine aw_exit ?_) | (with_reducible refine aw_block ?_) | (with_reducible refine xr_reg (by decide +kernel) ?_)
      | (with_reducible refine xr_nil ?_) | (with_reducible refine k_norm ?_) | (with_reducible refine k_ret ?_) | (with_reducible refine k_exit ?_) | (with_reducible refine b_norm ?_) | (with_reducible refine b_ret ?_) | (with_reducible refine b_exit ?_) | (with_reducible refine b_past (by decide) ?_)
      | (refine xr_cl (f := ?_) (fs := ?_) (cs := ?_) (args := ?_) (K := ?_) ?_ ?_ ?_ ?_ ?_
         rotate_left 5
         · simp only [ev]; rfl
         first
         | (· with_reducible exact Ty.ok91
            rotate_left 2
            refine Z2a 91 ?_
            rotate_right 2)
         | (· with_reducible exact Ty.ok100
            rotate_left 2
            refine Z2a 100 ?_
            rotate_right 2)
         )
      | (refine xr_do (v := ?_) (h' := ?_) (by exact rfl) ?_ ?_; rotate_left 2)
      | (refine xr_st (v := ?_) (h' := ?_) (by exact rfl) ?_ ?_; rotate_left 2)
      | (refine aw_ift (by decide) ?_ ?_
         · simp only [ev, Zb, reduceIte, Nat.reduceEqDiff, *])
      | (refine aw_iff (by decide) ?_ ?_
         · simp only [ev, Zb, reduceIte, Nat.reduceEqDiff, *])
      | (refine aw_if (b := ?_) (by decide) ?_ (fun hb => ?_) (fun hb => ?_)
         rotate_left 1
         · simp only [ev, Zb, reduceIte, Nat.reduceEqDiff, *]; rfl)
      | (refine r_ret (vs := ?_) ?_ ?_
         rotate_left 1
         · simp only [resV, oneOf, stp, ev, Zb, Z2e, Z1z, Zk, Zl, reduceIte, Nat.reduceEqDiff, Zj, Zz, Zu, Z16, Z1a, Zm, Zp, Zo, Zd, Zx, Z2b, Z2x, Z1g, Z17, Zq, Zn, Zv, Z2p, Z2f, Z2o, Z2d, Z2g, Z1c, Z1b, Z2i, Z2n, Z2h, Z2j, Z2k, Z2l, Z2m, Z31, Z8, Z5, Z13, Zy, bld, fillL, vcs, splice, Ze, Z1, Z0, Z35, ldv, stv, vcs, blt, lenV, Z10, Z3, Z2, Zf, Zg, Ze, Z1, Z0, Z14, Zw, Zh, Zr, Z33, Z15, Z7, Zc, Z6, Z3, Z2, Zf, Zi, Nat.reduceAdd, Nat.reduceMul, Nat.reduceLeDiff, Z11, Z12, Z1y, Z1h, Z2c, Z23, Z28, Z27, Z26, Z25, Z24, Z1m, Z1l, Z1k, Z1j, Z1i, Z1w, Z1v, Z1u, Z1t, Z1s, Z32, Z2y, Z2q, Z2r, Z2s, Z20, Z1q, Z1r, Z2z, Z2t, Z21, Z22, splice, Za, Z9, Z1, Z0, Z19, Zt, Zs, Z18, newB, vcs, Z30, Z2v, Z1x, Z29, Z1n, Z2u, Z1o, Z1f, Z1p, Z1d, Z1e, Ty.ld3, Ty.sz3, Ty.zc3, Ty.by3, Ty.ld24, Ty.sz24, Ty.sl24, Ty.zc24, Ty.by24, Ty.ld56, Ty.sz56, Ty.sl56, Ty.zc56, Ty.by56, Ty.ld58, Ty.sz58, Ty.zc58, Ty.by58, Ty.pl58, Ty.ld77, Ty.sz77, Ty.zc77, Ty.by77, Ty.pl77, *]; rfl)
      | (with_reducible refine l16People_ok ?_ _ _ ?_ ?_
         rotate_left 1
         · first | assumption | exact Sl.old (by assumption) _
         · first | omega | (simp only [Z2]; omega)
         )
      | (with_reducible refine l1Own_ok _ _ _ _ ?_ ?_
         · first | assumption | exact Sl.old (by assumption) _ | ((try (simp only [deskV, deskL, Z11, Z12, Z1y, Z1h, Za, Z9, Z7, Zc, Zd, Z6, Z3, Z2, Zf, Zi, Nat.reduceAdd, Zh])); first | exact Sl.old (by assumption) _ | exact sl_nilints | exact sl_nilitems | (refine sl_ints (Z4 _) ?_; exact rfl) | (refine sl_items (Z4 _) ?_; exact rfl) | (refine sl_ints0 (Z4 _) ?_; exact rfl) | (refine sl_items0 (Z4 _) ?_; exact rfl))
         · first | omega | (simp only [Z2]; omega)
         )
      | ((with_reducible refine Z2w (n := 91) ?_); rintro _ _ ⟨rfl, hh⟩; replace hh := hh.symm; subst hh)
      | ((with_reducible refine Z2w (n := 100) ?_); rintro _ _ ⟨rfl, hh⟩; replace hh := hh.symm; subst hh)
      )
    refine ⟨_, [], rfl, Inj.nil, rfl, BsOk.nil _ _, ?_⟩
    exact RVl.tuple (l := [_, _]) (l' := [_, _]) ⟨RVl.agg (l := [_, _, _]) (l' := [_, _, _]) ⟨.plain _ rfl, .plain _ rfl, .plain _ rfl, trivial⟩, .plain _ rfl, trivial⟩

end Go.Proofs.Ytiddnhhjlipebaa.Am
namespace Go.Proofs.Ytiddnhhjlipebaa.Am
open Go Go.Proofs
set_option linter.unusedVariables false
set_option linter.unusedSimpArgs false
set_option maxRecDepth 100000
set_option maxHeartbeats 8000000

/-- A slice appended to nil. -/
theorem apS_nil {P : Program} {H : Heap} {t e : TypeId} {z : List Value} {b' id2 m : Nat} {sp : Option Nat} {xs : List Value} (hs : slT P t = some e) (hz : zcT P e = some z) (hb : byT P e = some b')
    (h2 : H[id2]? = some ⟨2, z.length, xs⟩) (hx : xs.length = m * z.length) (hm : m ≠ 0) (hle : m * b' ≤ 70368744177664) (hl2 : m ≤ 4611686018427387904) :
    apS P H t t (.slice none 0 0) (.slice (some ⟨id2, 0, sp⟩) m m) = some (.slice (some ⟨H.length, 0, some 0⟩) m m, H ++ [⟨2, z.length, xs⟩]) := by
  have hnews : Am.cellsOf H z.length m (.slice (some ⟨id2, 0, sp⟩) m m) = some xs := by
    simp only [Am.cellsOf]
    exact load_whole h2 hx.symm
  unfold apS
  simp only [hs, hz, hb, hnews]
  rw [if_pos ⟨Z4 _, Z4 _⟩, if_neg hm, if_neg (by omega), if_pos ⟨by simpa using hle, by simpa using hl2⟩]
  simp [Am.cellsOf, newS]
/-- Items that are nil, or a block. -/
def itV (n : Nat) (items : List Item) : Value := if items = [] then .slice none 0 0 else .slice (some ⟨n, 0, some 0⟩) items.length items.length
def itL (items : List Item) : Heap := if items = [] then [] else [⟨2, 6, cellsL items⟩]

theorem tickDesk_nil (now many : Int) (vp : Value) (h : Heap) (hf : flat vp = true) (hn : 0 ≤ now ∧ now ≤ 10000) (hm : 0 ≤ many ∧ many ≤ 100) :
    ACalls Try.prog 0 126 #[.agg #[.int .i64 now, vp, .slice none 0 0], .int .i64 many] h
    fun v h' => ∃ X, v = .tuple #[.agg #[.int .i64 (if 10000 < now + many then now else now + many), vp, .slice none 0 0], .int .i64 (if 10000 < now + many then 5 else 0)] ∧ h' = h ++ X := by
  have hw : IntKind.i64.wrap (now + many) = now + many := wrap_id (by omega)
  by_cases hq : 10000 < now + many
  · simp only [if_pos hq]
    refine Z36 Try.func126 rfl Try.ntmps126 (by simp) (by dsimp only [Try.f126]) ?_
    repeat' (first
      | ((with_reducible refine eq_go ?_); simp only [stp, ev, Zb, Z2e, Z1z, Zk, Zl, reduceIte, Nat.reduceEqDiff, Zj, Zz, Zu, Z16, Z1a, Zm, Zp, Zo, Zd, Zx, Z2b, Z2x, Z1g, Z17, Zq, Zn, Zv, Z2p, Z2f, Z2o, Z2d, Z2g, Z1c, Z1b, Z2i, Z2n, Z2h, Z2j, Z2k, Z2l, Z2m, Z31, Z8, Z5, Z13, Zy, ldv, stv, vcs, fldA, idxA, blt, lenV, Z10, Z3, Z2, Zf, Zg, Ze, Z1, Z0, Z14, Zw, Zh, Zr, Z33, Z15, Z7, Zc, Z6, Z3, Z2, Zf, Zi, Nat.reduceAdd, Nat.reduceMul, Nat.reduceLeDiff, Z11, Z12, Z1y, Z1h, Z2c, Z23, Z28, Z27, Z26, Z25, Z24, Z1m, Z1l, Z1k, Z1j, Z1i, Z1w, Z1v, Z1u, Z1t, Z1s, Z32, Z2y, Z2q, Z2r, Z2s, Z20, Z1q, Z1r, Z2z, Z2t, Z21, Z22, splice, Za, Z9, Z1, Z0, Z19, Zt, Zs, Z18, newB, vcs, Z30, Z2v, Z1x, Z29, Z1n, Z2u, Z1o, Z1f, Z1p, Z1d, Z1e, Ty.ld3, Ty.sz3, Ty.zc3, Ty.by3, Ty.ld24, Ty.sz24, Ty.sl24, Ty.zc24, Ty.by24, Ty.ld56, Ty.sz56, Ty.sl56, Ty.zc56, Ty.by56, Ty.ld58, Ty.sz58, Ty.zc58, Ty.by58, Ty.fl58_0, Ty.fl58_1, Ty.fl58_2, Ty.ld77, Ty.sz77, Ty.zc77, Ty.by77, Ty.fl77_0, Ty.fl77_1, Ty.fl77_2, Ty.fl77_3, Ty.fl77_4, Ty.fl77_5, *]; rfl)
      | (with_reducible refine aw_then ?_) | (with_reducible refine aw_skip ?_) | (with_reducible refine aw_ret ?_) | (with_reducible refine aw_exit ?_) | (with_reducible refine aw_block ?_) | (with_reducible refine xr_reg (by decide +kernel) ?_)
      | (with_reducible refine xr_nil ?_) | (with_reducible refine k_norm ?_) | (with_reducible refine k_ret ?_) | (with_reducible refine k_exit ?_) | (with_reducible refine b_norm ?_) | (with_reducible refine b_ret ?_) | (with_reducible refine b_exit ?_) | (with_reducible refine b_past (by decide) ?_)
      | (with_reducible refine xd_nil ?_)
      | (refine xr_do (v := ?_) (h' := ?_) (by exact rfl) ?_ ?_; rotate_left 2)
      | (refine xr_st (v := ?_) (h' := ?_) (by exact rfl) ?_ ?_; rotate_left 2)
      | (refine xd_reg (ms := [0, 1, 0, 0, 8, 0, 0, 64, 0, 7, 519, 1543, 3647, 7743, 15935, 32767, 65535, 131071]) Ty.mx (by decide +kernel) (by decide +kernel) ?_)
      | (refine xd_do (v := ?_) (by exact rfl) (by decide +kernel) ?_ ?_; rotate_left 1)
      | (refine xd_gdo (v := ?_) (by exact rfl) (by decide +kernel) (by exact rfl) ?_ ?_ ?_
         rotate_left 1
         · simp only [ev, Zb, reduceIte, Nat.reduceEqDiff, Z8, Z5, *])
      | (refine xd_goff (by exact rfl) ?_ ?_
         · simp only [ev, Zb, reduceIte, Nat.reduceEqDiff, Z8, Z5, *])
      | (refine xd_gund (by exact rfl) ?_ ?_
         · simp only [ev, Zb, reduceIte, Nat.reduceEqDiff, Z8, Z5, *])
      | (refine xd_gif (b := ?_) (by exact rfl) ?_ (fun hb => ?_) (fun hb => ?_)
         rotate_left 1
         · simp only [ev, Zb, reduceIte, Nat.reduceEqDiff, Z8, Z5, *]; rfl)
      | (refine xr_gdo (v := ?_) (h' := ?_) (by exact rfl) (by exact rfl) ?_ ?_ ?_
         rotate_left 2
         · simp only [ev, Zb, reduceIte, Nat.reduceEqDiff, Z8, Z5, *])
      | (refine xr_gst (v := ?_) (h' := ?_) (by exact rfl) (by exact rfl) ?_ ?_ ?_
         rotate_left 2
         · simp only [ev, Zb, reduceIte, Nat.reduceEqDiff, Z8, Z5, *])
      | (refine xr_goff (by exact rfl) ?_ ?_
         · simp only [ev, Zb, reduceIte, Nat.reduceEqDiff, Z8, Z5, *])
      | (refine xr_gsoff (by exact rfl) ?_ ?_
         · simp only [ev, Zb, reduceIte, Nat.reduceEqDiff, Z8, Z5, *])
      | (refine xr_gund (by exact rfl) ?_ ?_
         · simp only [ev, Zb, reduceIte, Nat.reduceEqDiff, Z8, Z5, *])
      | (refine xr_gsund (by exact rfl) ?_ ?_
         · simp only [ev, Zb, reduceIte, Nat.reduceEqDiff, Z8, Z5, *])
      | (refine xr_gif (b := ?_) (by exact rfl) ?_ (fun hb => ?_) (fun hb => ?_)
         rotate_left 1
         · simp only [ev, Zb, reduceIte, Nat.reduceEqDiff, Z8, Z5, *]; rfl)
      | (refine aw_ift (by decide) ?_ ?_
         · simp only [ev, Zb, reduceIte, Nat.reduceEqDiff, *])
      | (refine aw_iff (by decide) ?_ ?_
         · simp only [ev, Zb, reduceIte, Nat.reduceEqDiff, *])
      | (refine aw_if (b := ?_) (by decide) ?_ (fun hb => ?_) (fun hb => ?_)
         rotate_left 1
         · simp only [ev, Zb, reduceIte, Nat.reduceEqDiff, *]; rfl)
      | (refine r_ret (vs := ?_) ?_ ?_
         rotate_left 1
         · simp only [resV, oneOf, stp, ev, Zb, Z2e, Z1z, Zk, Zl, reduceIte, Nat.reduceEqDiff, Zj, Zz, Zu, Z16, Z1a, Zm, Zp, Zo, Zd, Zx, Z2b, Z2x, Z1g, Z17, Zq, Zn, Zv, Z2p, Z2f, Z2o, Z2d, Z2g, Z1c, Z1b, Z2i, Z2n, Z2h, Z2j, Z2k, Z2l, Z2m, Z31, Z8, Z5, Z13, Zy, ldv, stv, vcs, fldA, idxA, blt, lenV, Z10, Z3, Z2, Zf, Zg, Ze, Z1, Z0, Z14, Zw, Zh, Zr, Z33, Z15, Z7, Zc, Z6, Z3, Z2, Zf, Zi, Nat.reduceAdd, Nat.reduceMul, Nat.reduceLeDiff, Z11, Z12, Z1y, Z1h, Z2c, Z23, Z28, Z27, Z26, Z25, Z24, Z1m, Z1l, Z1k, Z1j, Z1i, Z1w, Z1v, Z1u, Z1t, Z1s, Z32, Z2y, Z2q, Z2r, Z2s, Z20, Z1q, Z1r, Z2z, Z2t, Z21, Z22, splice, Za, Z9, Z1, Z0, Z19, Zt, Zs, Z18, newB, vcs, Z30, Z2v, Z1x, Z29, Z1n, Z2u, Z1o, Z1f, Z1p, Z1d, Z1e, Ty.ld3, Ty.sz3, Ty.zc3, Ty.by3, Ty.ld24, Ty.sz24, Ty.sl24, Ty.zc24, Ty.by24, Ty.ld56, Ty.sz56, Ty.sl56, Ty.zc56, Ty.by56, Ty.ld58, Ty.sz58, Ty.zc58, Ty.by58, Ty.fl58_0, Ty.fl58_1, Ty.fl58_2, Ty.ld77, Ty.sz77, Ty.zc77, Ty.by77, Ty.fl77_0, Ty.fl77_1, Ty.fl77_2, Ty.fl77_3, Ty.fl77_4, Ty.fl77_5, *]; rfl)
      )
    exact ⟨_, rfl, rfl⟩
  · simp only [if_neg hq]
    refine Z36 Try.func126 rfl Try.ntmps126 (by simp) (by dsimp only [Try.f126]) ?_
    repeat' (first
      | ((with_reducible refine eq_go ?_); simp only [stp, ev, Zb, Z2e, Z1z, Zk, Zl, reduceIte, Nat.reduceEqDiff, Zj, Zz, Zu, Z16, Z1a, Zm, Zp, Zo, Zd, Zx, Z2b, Z2x, Z1g, Z17, Zq, Zn, Zv, Z2p, Z2f, Z2o, Z2d, Z2g, Z1c, Z1b, Z2i, Z2n, Z2h, Z2j, Z2k, Z2l, Z2m, Z31, Z8, Z5, Z13, Zy, ldv, stv, vcs, fldA, idxA, blt, lenV, Z10, Z3, Z2, Zf, Zg, Ze, Z1, Z0, Z14, Zw, Zh, Zr, Z33, Z15, Z7, Zc, Z6, Z3, Z2, Zf, Zi, Nat.reduceAdd, Nat.reduceMul, Nat.reduceLeDiff, Z11, Z12, Z1y, Z1h, Z2c, Z23, Z28, Z27, Z26, Z25, Z24, Z1m, Z1l, Z1k, Z1j, Z1i, Z1w, Z1v, Z1u, Z1t, Z1s, Z32, Z2y, Z2q, Z2r, Z2s, Z20, Z1q, Z1r, Z2z, Z2t, Z21, Z22, splice, Za, Z9, Z1, Z0, Z19, Zt, Zs, Z18, newB, vcs, Z30, Z2v, Z1x, Z29, Z1n, Z2u, Z1o, Z1f, Z1p, Z1d, Z1e, Ty.ld3, Ty.sz3, Ty.zc3, Ty.by3, Ty.ld24, Ty.sz24, Ty.sl24, Ty.zc24, Ty.by24, Ty.ld56, Ty.sz56, Ty.sl56, Ty.zc56, Ty.by56, Ty.ld58, Ty.sz58, Ty.zc58, Ty.by58, Ty.fl58_0, Ty.fl58_1, Ty.fl58_2, Ty.ld77, Ty.sz77, Ty.zc77, Ty.by77, Ty.fl77_0, Ty.fl77_1, Ty.fl77_2, Ty.fl77_3, Ty.fl77_4, Ty.fl77_5, *]; rfl)
      | (with_reducible refine aw_then ?_) | (with_reducible refine aw_skip ?_) | (with_reducible refine aw_ret ?_) | (with_reducible refine aw_exit ?_) | (with_reducible refine aw_block ?_) | (with_reducible refine xr_reg (by decide +kernel) ?_)
      | (with_reducible refine xr_nil ?_) | (with_reducible refine k_norm ?_) | (with_reducible refine k_ret ?_) | (with_reducible refine k_exit ?_) | (with_reducible refine b_norm ?_) | (with_reducible refine b_ret ?_) | (with_reducible refine b_exit ?_) | (with_reducible refine b_past (by decide) ?_)
      | (with_reducible refine xd_nil ?_)
      | (refine xr_do (v := ?_) (h' := ?_) (by exact rfl) ?_ ?_; rotate_left 2)
      | (refine xr_st (v := ?_) (h' := ?_) (by exact rfl) ?_ ?_; rotate_left 2)
      | (refine xd_reg (ms := [0, 1, 0, 0, 8, 0, 0, 64, 0, 7, 519, 1543, 3647, 7743, 15935, 32767, 65535, 131071]) Ty.mx (by decide +kernel) (by decide +kernel) ?_)
      | (refine xd_do (v := ?_) (by exact rfl) (by decide +kernel) ?_ ?_; rotate_left 1)
      | (refine xd_gdo (v := ?_) (by exact rfl) (by decide +kernel) (by exact rfl) ?_ ?_ ?_
         rotate_left 1
         · simp only [ev, Zb, reduceIte, Nat.reduceEqDiff, Z8, Z5, *])
      | (refine xd_goff (by exact rfl) ?_ ?_
         · simp only [ev, Zb, reduceIte, Nat.reduceEqDiff, Z8, Z5, *])
      | (refine xd_gund (by exact rfl) ?_ ?_
         · simp only [ev, Zb, reduceIte, Nat.reduceEqDiff, Z8, Z5, *])
      | (refine xd_gif (b := ?_) (by exact rfl) ?_ (fun hb => ?_) (fun hb => ?_)
         rotate_left 1
         · simp only [ev, Zb, reduceIte, Nat.reduceEqDiff, Z8, Z5, *]; rfl)
      | (refine xr_gdo (v := ?_) (h' := ?_) (by exact rfl) (by exact rfl) ?_ ?_ ?_
         rotate_left 2
         · simp only [ev, Zb, reduceIte, Nat.reduceEqDiff, Z8, Z5, *])
      | (refine xr_gst (v := ?_) (h' := ?_) (by exact rfl) (by exact rfl) ?_ ?_ ?_
         rotate_left 2
         · simp only [ev, Zb, reduceIte, Nat.reduceEqDiff, Z8, Z5, *])
      | (refine xr_goff (by exact rfl) ?_ ?_
         · simp only [ev, Zb, reduceIte, Nat.reduceEqDiff, Z8, Z5, *])
      | (refine xr_gsoff (by exact rfl) ?_ ?_
         · simp only [ev, Zb, reduceIte, Nat.reduceEqDiff, Z8, Z5, *])
      | (refine xr_gund (by exact rfl) ?_ ?_
         · simp only [ev, Zb, reduceIte, Nat.reduceEqDiff, Z8, Z5, *])
      | (refine xr_gsund (by exact rfl) ?_ ?_
         · simp only [ev, Zb, reduceIte, Nat.reduceEqDiff, Z8, Z5, *])
      | (refine xr_gif (b := ?_) (by exact rfl) ?_ (fun hb => ?_) (fun hb => ?_)
         rotate_left 1
         · simp only [ev, Zb, reduceIte, Nat.reduceEqDiff, Z8, Z5, *]; rfl)
      | (refine aw_ift (by decide) ?_ ?_
         · simp only [ev, Zb, reduceIte, Nat.reduceEqDiff, *])
      | (refine aw_iff (by decide) ?_ ?_
         · simp only [ev, Zb, reduceIte, Nat.reduceEqDiff, *])
      | (refine aw_if (b := ?_) (by decide) ?_ (fun hb => ?_) (fun hb => ?_)
         rotate_left 1
         · simp only [ev, Zb, reduceIte, Nat.reduceEqDiff, *]; rfl)
      | (refine r_ret (vs := ?_) ?_ ?_
         rotate_left 1
         · simp only [resV, oneOf, stp, ev, Zb, Z2e, Z1z, Zk, Zl, reduceIte, Nat.reduceEqDiff, Zj, Zz, Zu, Z16, Z1a, Zm, Zp, Zo, Zd, Zx, Z2b, Z2x, Z1g, Z17, Zq, Zn, Zv, Z2p, Z2f, Z2o, Z2d, Z2g, Z1c, Z1b, Z2i, Z2n, Z2h, Z2j, Z2k, Z2l, Z2m, Z31, Z8, Z5, Z13, Zy, ldv, stv, vcs, fldA, idxA, blt, lenV, Z10, Z3, Z2, Zf, Zg, Ze, Z1, Z0, Z14, Zw, Zh, Zr, Z33, Z15, Z7, Zc, Z6, Z3, Z2, Zf, Zi, Nat.reduceAdd, Nat.reduceMul, Nat.reduceLeDiff, Z11, Z12, Z1y, Z1h, Z2c, Z23, Z28, Z27, Z26, Z25, Z24, Z1m, Z1l, Z1k, Z1j, Z1i, Z1w, Z1v, Z1u, Z1t, Z1s, Z32, Z2y, Z2q, Z2r, Z2s, Z20, Z1q, Z1r, Z2z, Z2t, Z21, Z22, splice, Za, Z9, Z1, Z0, Z19, Zt, Zs, Z18, newB, vcs, Z30, Z2v, Z1x, Z29, Z1n, Z2u, Z1o, Z1f, Z1p, Z1d, Z1e, Ty.ld3, Ty.sz3, Ty.zc3, Ty.by3, Ty.ld24, Ty.sz24, Ty.sl24, Ty.zc24, Ty.by24, Ty.ld56, Ty.sz56, Ty.sl56, Ty.zc56, Ty.by56, Ty.ld58, Ty.sz58, Ty.zc58, Ty.by58, Ty.fl58_0, Ty.fl58_1, Ty.fl58_2, Ty.ld77, Ty.sz77, Ty.zc77, Ty.by77, Ty.fl77_0, Ty.fl77_1, Ty.fl77_2, Ty.fl77_3, Ty.fl77_4, Ty.fl77_5, *]; rfl)
      )
    refine aw_for [0, 1, 2, 4, 5, 20, 21] (fun k T h' => h' = h ++ [⟨2, 1, [.int .i64 (now + many), vp, .slice none 0 0]⟩, ⟨2, 1, [.int .i64 0, .slice none 0 0, .slice none 0 0]⟩] ∧ T 22 = .int .i64 0) 0 (k0 := 0) (Nat.zero_le _) ⟨rfl, rfl⟩ ?_
    rintro k T h' hk hR ⟨rfl, h22⟩
    have h1 : decide ((0 : Int) < ((0 : Nat) : Int)) = false := rfl
    simp only [Z37, Z38, Z39, implies_true, and_true, stp, ev, Zb, Z2e, Z1z, Zk, Zl, reduceIte, Nat.reduceEqDiff, Zj, Zz, Zu, Z16, Z1a, Zm, Zp, Zo, Zd, Zx, Z2b, Z2x, Z1g, Z17, Zq, Zn, Zv, Z2p, Z2f, Z2o, Z2d, Z2g, Z1c, Z1b, Z2i, Z2n, Z2h, Z2j, Z2k, Z2l, Z2m, Z31, Z8, Z5, Z13, Zy] at hR
    repeat' (first
      | ((with_reducible refine eq_go ?_); simp only [stp, ev, Zb, Z2e, Z1z, Zk, Zl, reduceIte, Nat.reduceEqDiff, Zj, Zz, Zu, Z16, Z1a, Zm, Zp, Zo, Zd, Zx, Z2b, Z2x, Z1g, Z17, Zq, Zn, Zv, Z2p, Z2f, Z2o, Z2d, Z2g, Z1c, Z1b, Z2i, Z2n, Z2h, Z2j, Z2k, Z2l, Z2m, Z31, Z8, Z5, Z13, Zy, ldv, stv, vcs, fldA, idxA, blt, lenV, Z10, Z3, Z2, Zf, Zg, Ze, Z1, Z0, Z14, Zw, Zh, Zr, Z33, Z15, Z7, Zc, Z6, Z3, Z2, Zf, Zi, Nat.reduceAdd, Nat.reduceMul, Nat.reduceLeDiff, Z11, Z12, Z1y, Z1h, Z2c, Z23, Z28, Z27, Z26, Z25, Z24, Z1m, Z1l, Z1k, Z1j, Z1i, Z1w, Z1v, Z1u, Z1t, Z1s, Z32, Z2y, Z2q, Z2r, Z2s, Z20, Z1q, Z1r, Z2z, Z2t, Z21, Z22, splice, Za, Z9, Z1, Z0, Z19, Zt, Zs, Z18, newB, vcs, Z30, Z2v, Z1x, Z29, Z1n, Z2u, Z1o, Z1f, Z1p, Z1d, Z1e, Ty.ld3, Ty.sz3, Ty.zc3, Ty.by3, Ty.ld24, Ty.sz24, Ty.sl24, Ty.zc24, Ty.by24, Ty.ld56, Ty.sz56, Ty.sl56, Ty.zc56, Ty.by56, Ty.ld58, Ty.sz58, Ty.zc58, Ty.by58, Ty.fl58_0, Ty.fl58_1, Ty.fl58_2, Ty.ld77, Ty.sz77, Ty.zc77, Ty.by77, Ty.fl77_0, Ty.fl77_1, Ty.fl77_2, Ty.fl77_3, Ty.fl77_4, Ty.fl77_5, *]; rfl)
      | (with_reducible refine aw_then ?_) | (with_reducible refine aw_skip ?_) | (with_reducible refine aw_ret ?_) | (with_reducible refine aw_exit ?_) | (with_reducible refine aw_block ?_) | (with_reducible refine xr_reg (by decide +kernel) ?_)
      | (with_reducible refine xr_nil ?_) | (with_reducible refine k_norm ?_) | (with_reducible refine k_ret ?_) | (with_reducible refine k_exit ?_) | (with_reducible refine b_norm ?_) | (with_reducible refine b_ret ?_) | (with_reducible refine b_exit ?_) | (with_reducible refine b_past (by decide) ?_)
      | (with_reducible refine xd_nil ?_)
      | (refine xr_do (v := ?_) (h' := ?_) (by exact rfl) ?_ ?_; rotate_left 2)
      | (refine xr_st (v := ?_) (h' := ?_) (by exact rfl) ?_ ?_; rotate_left 2)
      | (refine xd_reg (ms := [0, 1, 0, 0, 8, 0, 0, 64, 0, 7, 519, 1543, 3647, 7743, 15935, 32767, 65535, 131071]) Ty.mx (by decide +kernel) (by decide +kernel) ?_)
      | (refine xd_do (v := ?_) (by exact rfl) (by decide +kernel) ?_ ?_; rotate_left 1)
      | (refine xd_gdo (v := ?_) (by exact rfl) (by decide +kernel) (by exact rfl) ?_ ?_ ?_
         rotate_left 1
         · simp only [ev, Zb, reduceIte, Nat.reduceEqDiff, Z8, Z5, *])
      | (refine xd_goff (by exact rfl) ?_ ?_
         · simp only [ev, Zb, reduceIte, Nat.reduceEqDiff, Z8, Z5, *])
      | (refine xd_gund (by exact rfl) ?_ ?_
         · simp only [ev, Zb, reduceIte, Nat.reduceEqDiff, Z8, Z5, *])
      | (refine xd_gif (b := ?_) (by exact rfl) ?_ (fun hb => ?_) (fun hb => ?_)
         rotate_left 1
         · simp only [ev, Zb, reduceIte, Nat.reduceEqDiff, Z8, Z5, *]; rfl)
      | (refine xr_gdo (v := ?_) (h' := ?_) (by exact rfl) (by exact rfl) ?_ ?_ ?_
         rotate_left 2
         · simp only [ev, Zb, reduceIte, Nat.reduceEqDiff, Z8, Z5, *])
      | (refine xr_gst (v := ?_) (h' := ?_) (by exact rfl) (by exact rfl) ?_ ?_ ?_
         rotate_left 2
         · simp only [ev, Zb, reduceIte, Nat.reduceEqDiff, Z8, Z5, *])
      | (refine xr_goff (by exact rfl) ?_ ?_
         · simp only [ev, Zb, reduceIte, Nat.reduceEqDiff, Z8, Z5, *])
      | (refine xr_gsoff (by exact rfl) ?_ ?_
         · simp only [ev, Zb, reduceIte, Nat.reduceEqDiff, Z8, Z5, *])
      | (refine xr_gund (by exact rfl) ?_ ?_
         · simp only [ev, Zb, reduceIte, Nat.reduceEqDiff, Z8, Z5, *])
      | (refine xr_gsund (by exact rfl) ?_ ?_
         · simp only [ev, Zb, reduceIte, Nat.reduceEqDiff, Z8, Z5, *])
      | (refine xr_gif (b := ?_) (by exact rfl) ?_ (fun hb => ?_) (fun hb => ?_)
         rotate_left 1
         · simp only [ev, Zb, reduceIte, Nat.reduceEqDiff, Z8, Z5, *]; rfl)
      | (refine aw_ift (by decide) ?_ ?_
         · simp only [ev, Zb, reduceIte, Nat.reduceEqDiff, *])
      | (refine aw_iff (by decide) ?_ ?_
         · simp only [ev, Zb, reduceIte, Nat.reduceEqDiff, *])
      | (refine aw_if (b := ?_) (by decide) ?_ (fun hb => ?_) (fun hb => ?_)
         rotate_left 1
         · simp only [ev, Zb, reduceIte, Nat.reduceEqDiff, *]; rfl)
      | (refine r_ret (vs := ?_) ?_ ?_
         rotate_left 1
         · simp only [resV, oneOf, stp, ev, Zb, Z2e, Z1z, Zk, Zl, reduceIte, Nat.reduceEqDiff, Zj, Zz, Zu, Z16, Z1a, Zm, Zp, Zo, Zd, Zx, Z2b, Z2x, Z1g, Z17, Zq, Zn, Zv, Z2p, Z2f, Z2o, Z2d, Z2g, Z1c, Z1b, Z2i, Z2n, Z2h, Z2j, Z2k, Z2l, Z2m, Z31, Z8, Z5, Z13, Zy, ldv, stv, vcs, fldA, idxA, blt, lenV, Z10, Z3, Z2, Zf, Zg, Ze, Z1, Z0, Z14, Zw, Zh, Zr, Z33, Z15, Z7, Zc, Z6, Z3, Z2, Zf, Zi, Nat.reduceAdd, Nat.reduceMul, Nat.reduceLeDiff, Z11, Z12, Z1y, Z1h, Z2c, Z23, Z28, Z27, Z26, Z25, Z24, Z1m, Z1l, Z1k, Z1j, Z1i, Z1w, Z1v, Z1u, Z1t, Z1s, Z32, Z2y, Z2q, Z2r, Z2s, Z20, Z1q, Z1r, Z2z, Z2t, Z21, Z22, splice, Za, Z9, Z1, Z0, Z19, Zt, Zs, Z18, newB, vcs, Z30, Z2v, Z1x, Z29, Z1n, Z2u, Z1o, Z1f, Z1p, Z1d, Z1e, Ty.ld3, Ty.sz3, Ty.zc3, Ty.by3, Ty.ld24, Ty.sz24, Ty.sl24, Ty.zc24, Ty.by24, Ty.ld56, Ty.sz56, Ty.sl56, Ty.zc56, Ty.by56, Ty.ld58, Ty.sz58, Ty.zc58, Ty.by58, Ty.fl58_0, Ty.fl58_1, Ty.fl58_2, Ty.ld77, Ty.sz77, Ty.zc77, Ty.by77, Ty.fl77_0, Ty.fl77_1, Ty.fl77_2, Ty.fl77_3, Ty.fl77_4, Ty.fl77_5, *]; rfl)
      )
    exact ⟨_, rfl, rfl⟩

theorem it_keep {h X : Heap} {now' code : Int} {vp : Value} {items' : List Item} {k : Nat} (hne : items' ≠ []) (hb : X[k]? = some ⟨2, 6, cellsL items'⟩) (hids : IdsP (fun id => id < h.length) vp) :
    ∃ ks, Inj ks ∧ ks.length = (itL items').length ∧ h.length ≤ (h ++ X).length ∧ OldOk h (h ++ X) h ks ∧ NewOk (itL items') (h ++ X) ks ∧
      RW h.length (h ++ X) ks (.tuple #[.agg #[.int .i64 now', vp, itV h.length items'], .int .i64 code]) (.tuple #[.agg #[.int .i64 now', vp, .slice (some ⟨h.length + k, 0, some 0⟩) items'.length items'.length], .int .i64 code]) := by
  simp only [itL, itV, if_neg hne]
  have hb' : (h ++ X)[h.length + k]? = some ⟨2, 6, cellsL items'⟩ := by rw [get_at]; exact hb
  refine ⟨[h.length + k], Inj.one _, rfl, by simp, OldOk.same (fun x hx => by simp at hx; omega), ?_, ?_⟩
  · intro i b hi
    obtain rfl : i = 0 := by have := (List.getElem?_eq_some_iff.1 hi).1; simp at this; omega
    simp at hi; subst hi
    exact ⟨rfl, cellsL_af _, _, rfl, hb'⟩
  · refine RWl.tuple (l := [_, _]) (l' := [_, _]) ⟨RWl.agg (l := [_, _, _]) (l' := [_, _, _]) ⟨.plain _ rfl, .old _ hids, ?_, trivial⟩, .plain _ rfl, trivial⟩
    exact .sl 0 _ _ _ 6 _ _ rfl hb' (cellsL_len _) (Z4 _) (.inr rfl)
theorem it_keep0 {h X : Heap} {now' code : Int} {vp : Value} (hids : IdsP (fun id => id < h.length) vp) :
    ∃ ks, Inj ks ∧ ks.length = (itL []).length ∧ h.length ≤ (h ++ X).length ∧ OldOk h (h ++ X) h ks ∧ NewOk (itL []) (h ++ X) ks ∧
      RW h.length (h ++ X) ks (.tuple #[.agg #[.int .i64 now', vp, itV h.length []], .int .i64 code]) (.tuple #[.agg #[.int .i64 now', vp, .slice none 0 0], .int .i64 code]) := by
  refine ⟨[], Inj.nil, rfl, by simp, OldOk.same (fun x hx => by simp at hx), fun i b hi => by simp [itL] at hi, ?_⟩
  exact RWl.tuple (l := [_, _]) (l' := [_, _]) ⟨RWl.agg (l := [_, _, _]) (l' := [_, _, _]) ⟨.plain _ rfl, .old _ hids, .plain _ rfl, trivial⟩, .plain _ rfl, trivial⟩

theorem stepDesk_nil (now : Int) (people : List Int) (a : DAct) (vp : Value) (h : Heap) (hids : IdsP (fun id => id < h.length) vp) (hf : flat vp = true) (hn : 0 ≤ now ∧ now ≤ 10000) :
    ACalls Try.prog 0 109 #[.agg #[.int .i64 now, vp, .slice none 0 0], .agg a.cells.toArray] h
    fun v h' => v = .tuple #[.agg #[.int .i64 (stepNow now a), vp, itV h.length (stepItems now people [] a)], .int .i64 (stepCode now people [] a)] ∧ h' = h ++ itL (stepItems now people [] a) := by
  refine acalls_keep _ _ _ rfl ?_
  have hwl : IntKind.i64.wrap ((0 : Nat) - 1) = -1 := by decide
  have hwl2 : IntKind.i64.wrap (0 - 1) = -1 := by decide
  have h40' : decide ((0 : Int) = 40) = false := rfl
  have h40'' : decide (((0 : Nat) : Int) = 40) = false := rfl
  rcases Bool.eq_false_or_eq_true (formM a) with hfm | hfm
  · simp only [stepNow, stepItems, stepCode, hfm, Bool.true_eq_false, if_false]
    by_cases hk1 : a.kind = 1
    · have hk1' : decide (a.kind = 1) = true := decide_eq_true hk1
      simp only [hk1, Z2x, show ¬ (1 : Int) = 8 by decide, if_false, Z2, show ¬ (0 : Nat) = 40 by decide, Zd]
      have hbs : bsl Try.prog 56 (h ++ [⟨2, 1, [.int .i64 now, vp, .slice none 0 0]⟩, ⟨2, 1, a.cells⟩, ⟨2, 1, [.int .i64 0, .slice none 0 0, .slice none 0 0]⟩]) 1 [(0, .agg (freeI a).cells.toArray)] = _ :=
        bsl_agg Ty.sl56 Ty.zc77 rfl rfl (by decide) rfl
      have hap := apS_nil (P := Try.prog) (H := h ++ [⟨2, 1, [.int .i64 now, vp, .slice none 0 0]⟩, ⟨2, 1, a.cells⟩, ⟨2, 1, [.int .i64 0, .slice none 0 0, .slice none 0 0]⟩, ⟨2, 6, (freeI a).cells⟩]) (id2 := h.length + 3) (sp := none) (m := 1) (xs := (freeI a).cells)
        Ty.sl56 Ty.zc77 Ty.by77 (by rw [get_at]; rfl) rfl (by decide) (by omega) (by omega)
      simp only [freeI, Item.cells, Z7, Zc, Zd, Z6, Z3, Z2, Zf, Zh, Nat.reduceAdd] at hbs hap
      clear hk1
      refine Z36 Try.func109 rfl Try.ntmps109 (by simp) (by dsimp only [Try.f109]) ?_
      repeat' (first
        | ((with_reducible refine eq_go ?_); simp only [stp, ev, Zb, Z2e, Z1z, Zk, Zl, reduceIte, Nat.reduceEqDiff, Zj, Zz, Zu, Z16, Z1a, Zm, Zp, Zo, Zd, Zx, Z2b, Z2x, Z1g, Z17, Zq, Zn, Zv, Z2p, Z2f, Z2o, Z2d, Z2g, Z1c, Z1b, Z2i, Z2n, Z2h, Z2j, Z2k, Z2l, Z2m, Z31, Z8, Z5, Z13, Zy, bld, fillL, vcs, splice, Ze, Z1, Z0, Z35, Ze, Z1, Z0, ldv, stv, vcs, fldA, idxA, blt, lenV, Z10, Z3, Z2, Zf, Zg, Ze, Z1, Z0, Z14, Zw, Zh, Zr, Z33, Z15, Z7, Zc, Z6, Z3, Z2, Zf, Zi, Nat.reduceAdd, Nat.reduceMul, Nat.reduceLeDiff, Z11, Z12, Z1y, Z1h, Z2c, Z23, Z28, Z27, Z26, Z25, Z24, Z1m, Z1l, Z1k, Z1j, Z1i, Z1w, Z1v, Z1u, Z1t, Z1s, Z32, Z2y, Z2q, Z2r, Z2s, Z20, Z1q, Z1r, Z2z, Z2t, Z21, Z22, splice, Za, Z9, Z1, Z0, Z19, Zt, Zs, Z18, newB, vcs, Z30, Z2v, Z1x, Z29, Z1n, Z2u, Z1o, Z1f, Z1p, Z1d, Z1e, Ty.ld3, Ty.sz3, Ty.zc3, Ty.by3, Ty.ld24, Ty.sz24, Ty.sl24, Ty.zc24, Ty.by24, Ty.ld56, Ty.sz56, Ty.sl56, Ty.zc56, Ty.by56, Ty.ld58, Ty.sz58, Ty.zc58, Ty.by58, Ty.pl58, Ty.fl58_0, Ty.fl58_1, Ty.fl58_2, Ty.ld77, Ty.sz77, Ty.zc77, Ty.by77, Ty.pl77, Ty.fl77_0, Ty.fl77_1, Ty.fl77_2, Ty.fl77_3, Ty.fl77_4, Ty.fl77_5, Ty.ld80, Ty.sz80, Ty.zc80, Ty.by80, Ty.pl80, Ty.fl80_0, Ty.fl80_1, Ty.fl80_2, Ty.fl80_3, Ty.fl80_4, Ty.fl80_5, Ty.fl80_6, Ty.fl80_7, Ty.ld139, Ty.sz139, Ty.zc139, Ty.by139, DAct.cells_length, DAct.cells_flat, DAct.cells_take, DAct.get0, DAct.get1, DAct.get4, DAct.get5, DAct.get6, DAct.get7, *]; rfl)
        | (with_reducible refine aw_then ?_) | (with_reducible refine aw_skip ?_) | (with_reducible refine aw_ret ?_) | (with_reducible refine aw_exit ?_) | (with_reducible refine aw_block ?_) | (with_reducible refine xr_reg (by decide +kernel) ?_)
        | (with_reducible refine xr_nil ?_) | (with_reducible refine k_norm ?_) | (with_reducible refine k_ret ?_) | (with_reducible refine k_exit ?_) | (with_reducible refine b_norm ?_) | (with_reducible refine b_ret ?_) | (with_reducible refine b_exit ?_) | (with_reducible refine b_past (by decide) ?_)
        | (with_reducible refine xd_nil ?_)
        | (refine xr_cl (f := ?_) (fs := ?_) (cs := ?_) (args := ?_) (K := ?_) ?_ ?_ ?_ ?_ ?_
           rotate_left 5
           · simp only [ev]; rfl
           first
           | (· with_reducible exact Ty.ok98
              rotate_left 2
              refine Z2a 98 ?_
              rotate_right 2)
           | (· with_reducible exact Ty.ok125
              rotate_left 2
              refine Z2a 125 ?_
              rotate_right 2)
           | (· with_reducible exact Ty.ok126
              rotate_left 2
              refine Z2a 126 ?_
              rotate_right 2)
           )
        | (refine xd_cl (f := ?_) (fs := ?_) (cs := ?_) (args := ?_) (v := ?_) ?_ ?_ ?_ ?_ ?_ ?_
           rotate_left 5
           · simp only [ev]; rfl
           · first | with_reducible exact Ty.ok98 | with_reducible exact Ty.ok125 | with_reducible exact Ty.ok126
           rotate_left 1
           · decide +kernel
           rotate_right 1)
        | (refine xr_do (v := ?_) (h' := ?_) (by exact rfl) ?_ ?_; rotate_left 2)
        | (refine xr_st (v := ?_) (h' := ?_) (by exact rfl) ?_ ?_; rotate_left 2)
        | (refine xd_reg (ms := [0, 0, 0, 4, 0, 16, 60, 0, 254, 511, 1023]) Ty.mx (by decide +kernel) (by decide +kernel) ?_)
        | (refine xd_bs (v := ?_) (h' := ?_) (L := ?_) (by decide +kernel) ?_ ?_ ?_
           rotate_left 3
           · simp only [stp, ev, Zb, Z2e, Z1z, Zk, Zl, reduceIte, Nat.reduceEqDiff, Zj, Zz, Zu, Z16, Z1a, Zm, Zp, Zo, Zd, Zx, Z2b, Z2x, Z1g, Z17, Zq, Zn, Zv, Z2p, Z2f, Z2o, Z2d, Z2g, Z1c, Z1b, Z2i, Z2n, Z2h, Z2j, Z2k, Z2l, Z2m, Z31, Z8, Z5, Z13, Zy, bld, fillL, vcs, splice, Ze, Z1, Z0, Z35, Ze, Z1, Z0, ldv, stv, vcs, fldA, idxA, blt, lenV, Z10, Z3, Z2, Zf, Zg, Ze, Z1, Z0, Z14, Zw, Zh, Zr, Z33, Z15, Z7, Zc, Z6, Z3, Z2, Zf, Zi, Nat.reduceAdd, Nat.reduceMul, Nat.reduceLeDiff, Z11, Z12, Z1y, Z1h, Z2c, Z23, Z28, Z27, Z26, Z25, Z24, Z1m, Z1l, Z1k, Z1j, Z1i, Z1w, Z1v, Z1u, Z1t, Z1s, Z32, Z2y, Z2q, Z2r, Z2s, Z20, Z1q, Z1r, Z2z, Z2t, Z21, Z22, splice, Za, Z9, Z1, Z0, Z19, Zt, Zs, Z18, newB, vcs, Z30, Z2v, Z1x, Z29, Z1n, Z2u, Z1o, Z1f, Z1p, Z1d, Z1e, Ty.ld3, Ty.sz3, Ty.zc3, Ty.by3, Ty.ld24, Ty.sz24, Ty.sl24, Ty.zc24, Ty.by24, Ty.ld56, Ty.sz56, Ty.sl56, Ty.zc56, Ty.by56, Ty.ld58, Ty.sz58, Ty.zc58, Ty.by58, Ty.pl58, Ty.fl58_0, Ty.fl58_1, Ty.fl58_2, Ty.ld77, Ty.sz77, Ty.zc77, Ty.by77, Ty.pl77, Ty.fl77_0, Ty.fl77_1, Ty.fl77_2, Ty.fl77_3, Ty.fl77_4, Ty.fl77_5, Ty.ld80, Ty.sz80, Ty.zc80, Ty.by80, Ty.pl80, Ty.fl80_0, Ty.fl80_1, Ty.fl80_2, Ty.fl80_3, Ty.fl80_4, Ty.fl80_5, Ty.fl80_6, Ty.fl80_7, Ty.ld139, Ty.sz139, Ty.zc139, Ty.by139, DAct.cells_length, DAct.cells_flat, DAct.cells_take, DAct.get0, DAct.get1, DAct.get4, DAct.get5, DAct.get6, DAct.get7, *]; rfl
           · exact rfl
           skip)
        | (refine xd_do (v := ?_) (by exact rfl) (by decide +kernel) ?_ ?_; rotate_left 1)
        | (refine aw_ift (by decide) ?_ ?_
           · simp only [ev, Zb, reduceIte, Nat.reduceEqDiff, *])
        | (refine aw_iff (by decide) ?_ ?_
           · simp only [ev, Zb, reduceIte, Nat.reduceEqDiff, *])
        | (refine aw_if (b := ?_) (by decide) ?_ (fun hb => ?_) (fun hb => ?_)
           rotate_left 1
           · simp only [ev, Zb, reduceIte, Nat.reduceEqDiff, *]; rfl)
        | (refine r_ret (vs := ?_) ?_ ?_
           rotate_left 1
           · simp only [resV, oneOf, stp, ev, Zb, Z2e, Z1z, Zk, Zl, reduceIte, Nat.reduceEqDiff, Zj, Zz, Zu, Z16, Z1a, Zm, Zp, Zo, Zd, Zx, Z2b, Z2x, Z1g, Z17, Zq, Zn, Zv, Z2p, Z2f, Z2o, Z2d, Z2g, Z1c, Z1b, Z2i, Z2n, Z2h, Z2j, Z2k, Z2l, Z2m, Z31, Z8, Z5, Z13, Zy, bld, fillL, vcs, splice, Ze, Z1, Z0, Z35, Ze, Z1, Z0, ldv, stv, vcs, fldA, idxA, blt, lenV, Z10, Z3, Z2, Zf, Zg, Ze, Z1, Z0, Z14, Zw, Zh, Zr, Z33, Z15, Z7, Zc, Z6, Z3, Z2, Zf, Zi, Nat.reduceAdd, Nat.reduceMul, Nat.reduceLeDiff, Z11, Z12, Z1y, Z1h, Z2c, Z23, Z28, Z27, Z26, Z25, Z24, Z1m, Z1l, Z1k, Z1j, Z1i, Z1w, Z1v, Z1u, Z1t, Z1s, Z32, Z2y, Z2q, Z2r, Z2s, Z20, Z1q, Z1r, Z2z, Z2t, Z21, Z22, splice, Za, Z9, Z1, Z0, Z19, Zt, Zs, Z18, newB, vcs, Z30, Z2v, Z1x, Z29, Z1n, Z2u, Z1o, Z1f, Z1p, Z1d, Z1e, Ty.ld3, Ty.sz3, Ty.zc3, Ty.by3, Ty.ld24, Ty.sz24, Ty.sl24, Ty.zc24, Ty.by24, Ty.ld56, Ty.sz56, Ty.sl56, Ty.zc56, Ty.by56, Ty.ld58, Ty.sz58, Ty.zc58, Ty.by58, Ty.pl58, Ty.fl58_0, Ty.fl58_1, Ty.fl58_2, Ty.ld77, Ty.sz77, Ty.zc77, Ty.by77, Ty.pl77, Ty.fl77_0, Ty.fl77_1, Ty.fl77_2, Ty.fl77_3, Ty.fl77_4, Ty.fl77_5, Ty.ld80, Ty.sz80, Ty.zc80, Ty.by80, Ty.pl80, Ty.fl80_0, Ty.fl80_1, Ty.fl80_2, Ty.fl80_3, Ty.fl80_4, Ty.fl80_5, Ty.fl80_6, Ty.fl80_7, Ty.ld139, Ty.sz139, Ty.zc139, Ty.by139, DAct.cells_length, DAct.cells_flat, DAct.cells_take, DAct.get0, DAct.get1, DAct.get4, DAct.get5, DAct.get6, DAct.get7, *]; rfl)
        | (with_reducible exact within_ok _ _ _ _)
        | (with_reducible exact isDeskAct_ok _ _)
        | (with_reducible refine tickDesk_nil _ _ _ _ ?_ ?_ ?_
           · assumption
           · assumption
           · assumption
           )
        | ((with_reducible refine Z2w (n := 98) ?_); rintro _ _ ⟨rfl, hh⟩; replace hh := hh.symm; subst hh)
        | ((with_reducible refine Z2w (n := 125) ?_); rintro _ _ ⟨rfl, hh⟩; replace hh := hh.symm; subst hh)
        | ((with_reducible refine Z2w (n := 126) ?_); rintro _ _ ⟨X, rfl, rfl⟩)
        )
      exact it_keep (items' := [freeI a]) (k := 4) (by simp) rfl hids
    · have hk1' : decide (a.kind = 1) = false := decide_eq_false hk1
      simp only [if_neg hk1]
      by_cases hk8 : a.kind = 8
      · have hk8' : decide (a.kind = 8) = true := decide_eq_true hk8
        simp only [if_pos hk8, Z1a, ite_self]
        have hm := form_many hfm hk8
        clear hk1 hk8
        refine Z36 Try.func109 rfl Try.ntmps109 (by simp) (by dsimp only [Try.f109]) ?_
        repeat' (first
          | ((with_reducible refine eq_go ?_); simp only [stp, ev, Zb, Z2e, Z1z, Zk, Zl, reduceIte, Nat.reduceEqDiff, Zj, Zz, Zu, Z16, Z1a, Zm, Zp, Zo, Zd, Zx, Z2b, Z2x, Z1g, Z17, Zq, Zn, Zv, Z2p, Z2f, Z2o, Z2d, Z2g, Z1c, Z1b, Z2i, Z2n, Z2h, Z2j, Z2k, Z2l, Z2m, Z31, Z8, Z5, Z13, Zy, bld, fillL, vcs, splice, Ze, Z1, Z0, Z35, Ze, Z1, Z0, ldv, stv, vcs, fldA, idxA, blt, lenV, Z10, Z3, Z2, Zf, Zg, Ze, Z1, Z0, Z14, Zw, Zh, Zr, Z33, Z15, Z7, Zc, Z6, Z3, Z2, Zf, Zi, Nat.reduceAdd, Nat.reduceMul, Nat.reduceLeDiff, Z11, Z12, Z1y, Z1h, Z2c, Z23, Z28, Z27, Z26, Z25, Z24, Z1m, Z1l, Z1k, Z1j, Z1i, Z1w, Z1v, Z1u, Z1t, Z1s, Z32, Z2y, Z2q, Z2r, Z2s, Z20, Z1q, Z1r, Z2z, Z2t, Z21, Z22, splice, Za, Z9, Z1, Z0, Z19, Zt, Zs, Z18, newB, vcs, Z30, Z2v, Z1x, Z29, Z1n, Z2u, Z1o, Z1f, Z1p, Z1d, Z1e, Ty.ld3, Ty.sz3, Ty.zc3, Ty.by3, Ty.ld24, Ty.sz24, Ty.sl24, Ty.zc24, Ty.by24, Ty.ld56, Ty.sz56, Ty.sl56, Ty.zc56, Ty.by56, Ty.ld58, Ty.sz58, Ty.zc58, Ty.by58, Ty.pl58, Ty.fl58_0, Ty.fl58_1, Ty.fl58_2, Ty.ld77, Ty.sz77, Ty.zc77, Ty.by77, Ty.pl77, Ty.fl77_0, Ty.fl77_1, Ty.fl77_2, Ty.fl77_3, Ty.fl77_4, Ty.fl77_5, Ty.ld80, Ty.sz80, Ty.zc80, Ty.by80, Ty.pl80, Ty.fl80_0, Ty.fl80_1, Ty.fl80_2, Ty.fl80_3, Ty.fl80_4, Ty.fl80_5, Ty.fl80_6, Ty.fl80_7, Ty.ld139, Ty.sz139, Ty.zc139, Ty.by139, DAct.cells_length, DAct.cells_flat, DAct.cells_take, DAct.get0, DAct.get1, DAct.get4, DAct.get5, DAct.get6, DAct.get7, *]; rfl)
          | (with_reducible refine aw_then ?_) | (with_reducible refine aw_skip ?_) | (with_reducible refine aw_ret ?_) | (with_reducible refine aw_exit ?_) | (with_reducible refine aw_block ?_) | (with_reducible refine xr_reg (by decide +kernel) ?_)
          | (with_reducible refine xr_nil ?_) | (with_reducible refine k_norm ?_) | (with_reducible refine k_ret ?_) | (with_reducible refine k_exit ?_) | (with_reducible refine b_norm ?_) | (with_reducible refine b_ret ?_) | (with_reducible refine b_exit ?_) | (with_reducible refine b_past (by decide) ?_)
          | (with_reducible refine xd_nil ?_)
          | (refine xr_cl (f := ?_) (fs := ?_) (cs := ?_) (args := ?_) (K := ?_) ?_ ?_ ?_ ?_ ?_
             rotate_left 5
             · simp only [ev]; rfl
             first
             | (· with_reducible exact Ty.ok98
                rotate_left 2
                refine Z2a 98 ?_
                rotate_right 2)
             | (· with_reducible exact Ty.ok125
                rotate_left 2
                refine Z2a 125 ?_
                rotate_right 2)
             | (· with_reducible exact Ty.ok126
                rotate_left 2
                refine Z2a 126 ?_
                rotate_right 2)
             )
          | (refine xd_cl (f := ?_) (fs := ?_) (cs := ?_) (args := ?_) (v := ?_) ?_ ?_ ?_ ?_ ?_ ?_
             rotate_left 5
             · simp only [ev]; rfl
             · first | with_reducible exact Ty.ok98 | with_reducible exact Ty.ok125 | with_reducible exact Ty.ok126
             rotate_left 1
             · decide +kernel
             rotate_right 1)
          | (refine xr_do (v := ?_) (h' := ?_) (by exact rfl) ?_ ?_; rotate_left 2)
          | (refine xr_st (v := ?_) (h' := ?_) (by exact rfl) ?_ ?_; rotate_left 2)
          | (refine xd_reg (ms := [0, 0, 0, 4, 0, 16, 60, 0, 254, 511, 1023]) Ty.mx (by decide +kernel) (by decide +kernel) ?_)
          | (refine xd_bs (v := ?_) (h' := ?_) (L := ?_) (by decide +kernel) ?_ ?_ ?_
             rotate_left 3
             · simp only [stp, ev, Zb, Z2e, Z1z, Zk, Zl, reduceIte, Nat.reduceEqDiff, Zj, Zz, Zu, Z16, Z1a, Zm, Zp, Zo, Zd, Zx, Z2b, Z2x, Z1g, Z17, Zq, Zn, Zv, Z2p, Z2f, Z2o, Z2d, Z2g, Z1c, Z1b, Z2i, Z2n, Z2h, Z2j, Z2k, Z2l, Z2m, Z31, Z8, Z5, Z13, Zy, bld, fillL, vcs, splice, Ze, Z1, Z0, Z35, Ze, Z1, Z0, ldv, stv, vcs, fldA, idxA, blt, lenV, Z10, Z3, Z2, Zf, Zg, Ze, Z1, Z0, Z14, Zw, Zh, Zr, Z33, Z15, Z7, Zc, Z6, Z3, Z2, Zf, Zi, Nat.reduceAdd, Nat.reduceMul, Nat.reduceLeDiff, Z11, Z12, Z1y, Z1h, Z2c, Z23, Z28, Z27, Z26, Z25, Z24, Z1m, Z1l, Z1k, Z1j, Z1i, Z1w, Z1v, Z1u, Z1t, Z1s, Z32, Z2y, Z2q, Z2r, Z2s, Z20, Z1q, Z1r, Z2z, Z2t, Z21, Z22, splice, Za, Z9, Z1, Z0, Z19, Zt, Zs, Z18, newB, vcs, Z30, Z2v, Z1x, Z29, Z1n, Z2u, Z1o, Z1f, Z1p, Z1d, Z1e, Ty.ld3, Ty.sz3, Ty.zc3, Ty.by3, Ty.ld24, Ty.sz24, Ty.sl24, Ty.zc24, Ty.by24, Ty.ld56, Ty.sz56, Ty.sl56, Ty.zc56, Ty.by56, Ty.ld58, Ty.sz58, Ty.zc58, Ty.by58, Ty.pl58, Ty.fl58_0, Ty.fl58_1, Ty.fl58_2, Ty.ld77, Ty.sz77, Ty.zc77, Ty.by77, Ty.pl77, Ty.fl77_0, Ty.fl77_1, Ty.fl77_2, Ty.fl77_3, Ty.fl77_4, Ty.fl77_5, Ty.ld80, Ty.sz80, Ty.zc80, Ty.by80, Ty.pl80, Ty.fl80_0, Ty.fl80_1, Ty.fl80_2, Ty.fl80_3, Ty.fl80_4, Ty.fl80_5, Ty.fl80_6, Ty.fl80_7, Ty.ld139, Ty.sz139, Ty.zc139, Ty.by139, DAct.cells_length, DAct.cells_flat, DAct.cells_take, DAct.get0, DAct.get1, DAct.get4, DAct.get5, DAct.get6, DAct.get7, *]; rfl
             · exact rfl
             skip)
          | (refine xd_do (v := ?_) (by exact rfl) (by decide +kernel) ?_ ?_; rotate_left 1)
          | (refine aw_ift (by decide) ?_ ?_
             · simp only [ev, Zb, reduceIte, Nat.reduceEqDiff, *])
          | (refine aw_iff (by decide) ?_ ?_
             · simp only [ev, Zb, reduceIte, Nat.reduceEqDiff, *])
          | (refine aw_if (b := ?_) (by decide) ?_ (fun hb => ?_) (fun hb => ?_)
             rotate_left 1
             · simp only [ev, Zb, reduceIte, Nat.reduceEqDiff, *]; rfl)
          | (refine r_ret (vs := ?_) ?_ ?_
             rotate_left 1
             · simp only [resV, oneOf, stp, ev, Zb, Z2e, Z1z, Zk, Zl, reduceIte, Nat.reduceEqDiff, Zj, Zz, Zu, Z16, Z1a, Zm, Zp, Zo, Zd, Zx, Z2b, Z2x, Z1g, Z17, Zq, Zn, Zv, Z2p, Z2f, Z2o, Z2d, Z2g, Z1c, Z1b, Z2i, Z2n, Z2h, Z2j, Z2k, Z2l, Z2m, Z31, Z8, Z5, Z13, Zy, bld, fillL, vcs, splice, Ze, Z1, Z0, Z35, Ze, Z1, Z0, ldv, stv, vcs, fldA, idxA, blt, lenV, Z10, Z3, Z2, Zf, Zg, Ze, Z1, Z0, Z14, Zw, Zh, Zr, Z33, Z15, Z7, Zc, Z6, Z3, Z2, Zf, Zi, Nat.reduceAdd, Nat.reduceMul, Nat.reduceLeDiff, Z11, Z12, Z1y, Z1h, Z2c, Z23, Z28, Z27, Z26, Z25, Z24, Z1m, Z1l, Z1k, Z1j, Z1i, Z1w, Z1v, Z1u, Z1t, Z1s, Z32, Z2y, Z2q, Z2r, Z2s, Z20, Z1q, Z1r, Z2z, Z2t, Z21, Z22, splice, Za, Z9, Z1, Z0, Z19, Zt, Zs, Z18, newB, vcs, Z30, Z2v, Z1x, Z29, Z1n, Z2u, Z1o, Z1f, Z1p, Z1d, Z1e, Ty.ld3, Ty.sz3, Ty.zc3, Ty.by3, Ty.ld24, Ty.sz24, Ty.sl24, Ty.zc24, Ty.by24, Ty.ld56, Ty.sz56, Ty.sl56, Ty.zc56, Ty.by56, Ty.ld58, Ty.sz58, Ty.zc58, Ty.by58, Ty.pl58, Ty.fl58_0, Ty.fl58_1, Ty.fl58_2, Ty.ld77, Ty.sz77, Ty.zc77, Ty.by77, Ty.pl77, Ty.fl77_0, Ty.fl77_1, Ty.fl77_2, Ty.fl77_3, Ty.fl77_4, Ty.fl77_5, Ty.ld80, Ty.sz80, Ty.zc80, Ty.by80, Ty.pl80, Ty.fl80_0, Ty.fl80_1, Ty.fl80_2, Ty.fl80_3, Ty.fl80_4, Ty.fl80_5, Ty.fl80_6, Ty.fl80_7, Ty.ld139, Ty.sz139, Ty.zc139, Ty.by139, DAct.cells_length, DAct.cells_flat, DAct.cells_take, DAct.get0, DAct.get1, DAct.get4, DAct.get5, DAct.get6, DAct.get7, *]; rfl)
          | (with_reducible exact within_ok _ _ _ _)
          | (with_reducible exact isDeskAct_ok _ _)
          | (with_reducible refine tickDesk_nil _ _ _ _ ?_ ?_ ?_
             · assumption
             · assumption
             · assumption
             )
          | ((with_reducible refine Z2w (n := 98) ?_); rintro _ _ ⟨rfl, hh⟩; replace hh := hh.symm; subst hh)
          | ((with_reducible refine Z2w (n := 125) ?_); rintro _ _ ⟨rfl, hh⟩; replace hh := hh.symm; subst hh)
          | ((with_reducible refine Z2w (n := 126) ?_); rintro _ _ ⟨X, rfl, rfl⟩)
          )
        exact it_keep0 hids
      · have hk8' : decide (a.kind = 8) = false := decide_eq_false hk8
        have hnr : ¬ inRange [] a := by unfold inRange; simp; omega
        have hin' : decide (0 ≤ a.item ∧ a.item ≤ -1) = false := decide_eq_false (by omega)
        simp only [if_neg hk8, if_neg hnr]
        clear hnr hk1 hk8
        refine Z36 Try.func109 rfl Try.ntmps109 (by simp) (by dsimp only [Try.f109]) ?_
        repeat' (first
          | ((with_reducible refine eq_go ?_); simp only [stp, ev, Zb, Z2e, Z1z, Zk, Zl, reduceIte, Nat.reduceEqDiff, Zj, Zz, Zu, Z16, Z1a, Zm, Zp, Zo, Zd, Zx, Z2b, Z2x, Z1g, Z17, Zq, Zn, Zv, Z2p, Z2f, Z2o, Z2d, Z2g, Z1c, Z1b, Z2i, Z2n, Z2h, Z2j, Z2k, Z2l, Z2m, Z31, Z8, Z5, Z13, Zy, bld, fillL, vcs, splice, Ze, Z1, Z0, Z35, Ze, Z1, Z0, ldv, stv, vcs, fldA, idxA, blt, lenV, Z10, Z3, Z2, Zf, Zg, Ze, Z1, Z0, Z14, Zw, Zh, Zr, Z33, Z15, Z7, Zc, Z6, Z3, Z2, Zf, Zi, Nat.reduceAdd, Nat.reduceMul, Nat.reduceLeDiff, Z11, Z12, Z1y, Z1h, Z2c, Z23, Z28, Z27, Z26, Z25, Z24, Z1m, Z1l, Z1k, Z1j, Z1i, Z1w, Z1v, Z1u, Z1t, Z1s, Z32, Z2y, Z2q, Z2r, Z2s, Z20, Z1q, Z1r, Z2z, Z2t, Z21, Z22, splice, Za, Z9, Z1, Z0, Z19, Zt, Zs, Z18, newB, vcs, Z30, Z2v, Z1x, Z29, Z1n, Z2u, Z1o, Z1f, Z1p, Z1d, Z1e, Ty.ld3, Ty.sz3, Ty.zc3, Ty.by3, Ty.ld24, Ty.sz24, Ty.sl24, Ty.zc24, Ty.by24, Ty.ld56, Ty.sz56, Ty.sl56, Ty.zc56, Ty.by56, Ty.ld58, Ty.sz58, Ty.zc58, Ty.by58, Ty.pl58, Ty.fl58_0, Ty.fl58_1, Ty.fl58_2, Ty.ld77, Ty.sz77, Ty.zc77, Ty.by77, Ty.pl77, Ty.fl77_0, Ty.fl77_1, Ty.fl77_2, Ty.fl77_3, Ty.fl77_4, Ty.fl77_5, Ty.ld80, Ty.sz80, Ty.zc80, Ty.by80, Ty.pl80, Ty.fl80_0, Ty.fl80_1, Ty.fl80_2, Ty.fl80_3, Ty.fl80_4, Ty.fl80_5, Ty.fl80_6, Ty.fl80_7, Ty.ld139, Ty.sz139, Ty.zc139, Ty.by139, DAct.cells_length, DAct.cells_flat, DAct.cells_take, DAct.get0, DAct.get1, DAct.get4, DAct.get5, DAct.get6, DAct.get7, *]; rfl)
          | (with_reducible refine aw_then ?_) | (with_reducible refine aw_skip ?_) | (with_reducible refine aw_ret ?_) | (with_reducible refine aw_exit ?_) | (with_reducible refine aw_block ?_) | (with_reducible refine xr_reg (by decide +kernel) ?_)
          | (with_reducible refine xr_nil ?_) | (with_reducible refine k_norm ?_) | (with_reducible refine k_ret ?_) | (with_reducible refine k_exit ?_) | (with_reducible refine b_norm ?_) | (with_reducible refine b_ret ?_) | (with_reducible refine b_exit ?_) | (with_reducible refine b_past (by decide) ?_)
          | (with_reducible refine xd_nil ?_)
          | (refine xr_cl (f := ?_) (fs := ?_) (cs := ?_) (args := ?_) (K := ?_) ?_ ?_ ?_ ?_ ?_
             rotate_left 5
             · simp only [ev]; rfl
             first
             | (· with_reducible exact Ty.ok98
                rotate_left 2
                refine Z2a 98 ?_
                rotate_right 2)
             | (· with_reducible exact Ty.ok125
                rotate_left 2
                refine Z2a 125 ?_
                rotate_right 2)
             | (· with_reducible exact Ty.ok126
                rotate_left 2
                refine Z2a 126 ?_
                rotate_right 2)
             )
          | (refine xd_cl (f := ?_) (fs := ?_) (cs := ?_) (args := ?_) (v := ?_) ?_ ?_ ?_ ?_ ?_ ?_
             rotate_left 5
             · simp only [ev]; rfl
             · first | with_reducible exact Ty.ok98 | with_reducible exact Ty.ok125 | with_reducible exact Ty.ok126
             rotate_left 1
             · decide +kernel
             rotate_right 1)
          | (refine xr_do (v := ?_) (h' := ?_) (by exact rfl) ?_ ?_; rotate_left 2)
          | (refine xr_st (v := ?_) (h' := ?_) (by exact rfl) ?_ ?_; rotate_left 2)
          | (refine xd_reg (ms := [0, 0, 0, 4, 0, 16, 60, 0, 254, 511, 1023]) Ty.mx (by decide +kernel) (by decide +kernel) ?_)
          | (refine xd_bs (v := ?_) (h' := ?_) (L := ?_) (by decide +kernel) ?_ ?_ ?_
             rotate_left 3
             · simp only [stp, ev, Zb, Z2e, Z1z, Zk, Zl, reduceIte, Nat.reduceEqDiff, Zj, Zz, Zu, Z16, Z1a, Zm, Zp, Zo, Zd, Zx, Z2b, Z2x, Z1g, Z17, Zq, Zn, Zv, Z2p, Z2f, Z2o, Z2d, Z2g, Z1c, Z1b, Z2i, Z2n, Z2h, Z2j, Z2k, Z2l, Z2m, Z31, Z8, Z5, Z13, Zy, bld, fillL, vcs, splice, Ze, Z1, Z0, Z35, Ze, Z1, Z0, ldv, stv, vcs, fldA, idxA, blt, lenV, Z10, Z3, Z2, Zf, Zg, Ze, Z1, Z0, Z14, Zw, Zh, Zr, Z33, Z15, Z7, Zc, Z6, Z3, Z2, Zf, Zi, Nat.reduceAdd, Nat.reduceMul, Nat.reduceLeDiff, Z11, Z12, Z1y, Z1h, Z2c, Z23, Z28, Z27, Z26, Z25, Z24, Z1m, Z1l, Z1k, Z1j, Z1i, Z1w, Z1v, Z1u, Z1t, Z1s, Z32, Z2y, Z2q, Z2r, Z2s, Z20, Z1q, Z1r, Z2z, Z2t, Z21, Z22, splice, Za, Z9, Z1, Z0, Z19, Zt, Zs, Z18, newB, vcs, Z30, Z2v, Z1x, Z29, Z1n, Z2u, Z1o, Z1f, Z1p, Z1d, Z1e, Ty.ld3, Ty.sz3, Ty.zc3, Ty.by3, Ty.ld24, Ty.sz24, Ty.sl24, Ty.zc24, Ty.by24, Ty.ld56, Ty.sz56, Ty.sl56, Ty.zc56, Ty.by56, Ty.ld58, Ty.sz58, Ty.zc58, Ty.by58, Ty.pl58, Ty.fl58_0, Ty.fl58_1, Ty.fl58_2, Ty.ld77, Ty.sz77, Ty.zc77, Ty.by77, Ty.pl77, Ty.fl77_0, Ty.fl77_1, Ty.fl77_2, Ty.fl77_3, Ty.fl77_4, Ty.fl77_5, Ty.ld80, Ty.sz80, Ty.zc80, Ty.by80, Ty.pl80, Ty.fl80_0, Ty.fl80_1, Ty.fl80_2, Ty.fl80_3, Ty.fl80_4, Ty.fl80_5, Ty.fl80_6, Ty.fl80_7, Ty.ld139, Ty.sz139, Ty.zc139, Ty.by139, DAct.cells_length, DAct.cells_flat, DAct.cells_take, DAct.get0, DAct.get1, DAct.get4, DAct.get5, DAct.get6, DAct.get7, *]; rfl
             · exact rfl
             skip)
          | (refine xd_do (v := ?_) (by exact rfl) (by decide +kernel) ?_ ?_; rotate_left 1)
          | (refine aw_ift (by decide) ?_ ?_
             · simp only [ev, Zb, reduceIte, Nat.reduceEqDiff, *])
          | (refine aw_iff (by decide) ?_ ?_
             · simp only [ev, Zb, reduceIte, Nat.reduceEqDiff, *])
          | (refine aw_if (b := ?_) (by decide) ?_ (fun hb => ?_) (fun hb => ?_)
             rotate_left 1
             · simp only [ev, Zb, reduceIte, Nat.reduceEqDiff, *]; rfl)
          | (refine r_ret (vs := ?_) ?_ ?_
             rotate_left 1
             · simp only [resV, oneOf, stp, ev, Zb, Z2e, Z1z, Zk, Zl, reduceIte, Nat.reduceEqDiff, Zj, Zz, Zu, Z16, Z1a, Zm, Zp, Zo, Zd, Zx, Z2b, Z2x, Z1g, Z17, Zq, Zn, Zv, Z2p, Z2f, Z2o, Z2d, Z2g, Z1c, Z1b, Z2i, Z2n, Z2h, Z2j, Z2k, Z2l, Z2m, Z31, Z8, Z5, Z13, Zy, bld, fillL, vcs, splice, Ze, Z1, Z0, Z35, Ze, Z1, Z0, ldv, stv, vcs, fldA, idxA, blt, lenV, Z10, Z3, Z2, Zf, Zg, Ze, Z1, Z0, Z14, Zw, Zh, Zr, Z33, Z15, Z7, Zc, Z6, Z3, Z2, Zf, Zi, Nat.reduceAdd, Nat.reduceMul, Nat.reduceLeDiff, Z11, Z12, Z1y, Z1h, Z2c, Z23, Z28, Z27, Z26, Z25, Z24, Z1m, Z1l, Z1k, Z1j, Z1i, Z1w, Z1v, Z1u, Z1t, Z1s, Z32, Z2y, Z2q, Z2r, Z2s, Z20, Z1q, Z1r, Z2z, Z2t, Z21, Z22, splice, Za, Z9, Z1, Z0, Z19, Zt, Zs, Z18, newB, vcs, Z30, Z2v, Z1x, Z29, Z1n, Z2u, Z1o, Z1f, Z1p, Z1d, Z1e, Ty.ld3, Ty.sz3, Ty.zc3, Ty.by3, Ty.ld24, Ty.sz24, Ty.sl24, Ty.zc24, Ty.by24, Ty.ld56, Ty.sz56, Ty.sl56, Ty.zc56, Ty.by56, Ty.ld58, Ty.sz58, Ty.zc58, Ty.by58, Ty.pl58, Ty.fl58_0, Ty.fl58_1, Ty.fl58_2, Ty.ld77, Ty.sz77, Ty.zc77, Ty.by77, Ty.pl77, Ty.fl77_0, Ty.fl77_1, Ty.fl77_2, Ty.fl77_3, Ty.fl77_4, Ty.fl77_5, Ty.ld80, Ty.sz80, Ty.zc80, Ty.by80, Ty.pl80, Ty.fl80_0, Ty.fl80_1, Ty.fl80_2, Ty.fl80_3, Ty.fl80_4, Ty.fl80_5, Ty.fl80_6, Ty.fl80_7, Ty.ld139, Ty.sz139, Ty.zc139, Ty.by139, DAct.cells_length, DAct.cells_flat, DAct.cells_take, DAct.get0, DAct.get1, DAct.get4, DAct.get5, DAct.get6, DAct.get7, *]; rfl)
          | (with_reducible exact within_ok _ _ _ _)
          | (with_reducible exact isDeskAct_ok _ _)
          | (with_reducible refine tickDesk_nil _ _ _ _ ?_ ?_ ?_
             · assumption
             · assumption
             · assumption
             )
          | ((with_reducible refine Z2w (n := 98) ?_); rintro _ _ ⟨rfl, hh⟩; replace hh := hh.symm; subst hh)
          | ((with_reducible refine Z2w (n := 125) ?_); rintro _ _ ⟨rfl, hh⟩; replace hh := hh.symm; subst hh)
          | ((with_reducible refine Z2w (n := 126) ?_); rintro _ _ ⟨X, rfl, rfl⟩)
          )
        exact it_keep0 hids
  · simp only [stepNow, stepItems, stepCode, hfm, Z2x]
    refine Z36 Try.func109 rfl Try.ntmps109 (by simp) (by dsimp only [Try.f109]) ?_
    repeat' (first
      | ((with_reducible refine eq_go ?_); simp only [stp, ev, Zb, Z2e, Z1z, Zk, Zl, reduceIte, Nat.reduceEqDiff, Zj, Zz, Zu, Z16, Z1a, Zm, Zp, Zo, Zd, Zx, Z2b, Z2x, Z1g, Z17, Zq, Zn, Zv, Z2p, Z2f, Z2o, Z2d, Z2g, Z1c, Z1b, Z2i, Z2n, Z2h, Z2j, Z2k, Z2l, Z2m, Z31, Z8, Z5, Z13, Zy, bld, fillL, vcs, splice, Ze, Z1, Z0, Z35, Ze, Z1, Z0, ldv, stv, vcs, fldA, idxA, blt, lenV, Z10, Z3, Z2, Zf, Zg, Ze, Z1, Z0, Z14, Zw, Zh, Zr, Z33, Z15, Z7, Zc, Z6, Z3, Z2, Zf, Zi, Nat.reduceAdd, Nat.reduceMul, Nat.reduceLeDiff, Z11, Z12, Z1y, Z1h, Z2c, Z23, Z28, Z27, Z26, Z25, Z24, Z1m, Z1l, Z1k, Z1j, Z1i, Z1w, Z1v, Z1u, Z1t, Z1s, Z32, Z2y, Z2q, Z2r, Z2s, Z20, Z1q, Z1r, Z2z, Z2t, Z21, Z22, splice, Za, Z9, Z1, Z0, Z19, Zt, Zs, Z18, newB, vcs, Z30, Z2v, Z1x, Z29, Z1n, Z2u, Z1o, Z1f, Z1p, Z1d, Z1e, Ty.ld3, Ty.sz3, Ty.zc3, Ty.by3, Ty.ld24, Ty.sz24, Ty.sl24, Ty.zc24, Ty.by24, Ty.ld56, Ty.sz56, Ty.sl56, Ty.zc56, Ty.by56, Ty.ld58, Ty.sz58, Ty.zc58, Ty.by58, Ty.pl58, Ty.fl58_0, Ty.fl58_1, Ty.fl58_2, Ty.ld77, Ty.sz77, Ty.zc77, Ty.by77, Ty.pl77, Ty.fl77_0, Ty.fl77_1, Ty.fl77_2, Ty.fl77_3, Ty.fl77_4, Ty.fl77_5, Ty.ld80, Ty.sz80, Ty.zc80, Ty.by80, Ty.pl80, Ty.fl80_0, Ty.fl80_1, Ty.fl80_2, Ty.fl80_3, Ty.fl80_4, Ty.fl80_5, Ty.fl80_6, Ty.fl80_7, Ty.ld139, Ty.sz139, Ty.zc139, Ty.by139, DAct.cells_length, DAct.cells_flat, DAct.cells_take, DAct.get0, DAct.get1, DAct.get4, DAct.get5, DAct.get6, DAct.get7, *]; rfl)
      | (with_reducible refine aw_then ?_) | (with_reducible refine aw_skip ?_) | (with_reducible refine aw_ret ?_) | (with_reducible refine aw_exit ?_) | (with_reducible refine aw_block ?_) | (with_reducible refine xr_reg (by decide +kernel) ?_)
      | (with_reducible refine xr_nil ?_) | (with_reducible refine k_norm ?_) | (with_reducible refine k_ret ?_) | (with_reducible refine k_exit ?_) | (with_reducible refine b_norm ?_) | (with_reducible refine b_ret ?_) | (with_reducible refine b_exit ?_) | (with_reducible refine b_past (by decide) ?_)
      | (with_reducible refine xd_nil ?_)
      | (refine xr_cl (f := ?_) (fs := ?_) (cs := ?_) (args := ?_) (K := ?_) ?_ ?_ ?_ ?_ ?_
         rotate_left 5
         · simp only [ev]; rfl
         first
         | (· with_reducible exact Ty.ok98
            rotate_left 2
            refine Z2a 98 ?_
            rotate_right 2)
         | (· with_reducible exact Ty.ok125
            rotate_left 2
            refine Z2a 125 ?_
            rotate_right 2)
         | (· with_reducible exact Ty.ok126
            rotate_left 2
            refine Z2a 126 ?_
            rotate_right 2)
         )
      | (refine xd_cl (f := ?_) (fs := ?_) (cs := ?_) (args := ?_) (v := ?_) ?_ ?_ ?_ ?_ ?_ ?_
         rotate_left 5
         · simp only [ev]; rfl
         · first | with_reducible exact Ty.ok98 | with_reducible exact Ty.ok125 | with_reducible exact Ty.ok126
         rotate_left 1
         · decide +kernel
         rotate_right 1)
      | (refine xr_do (v := ?_) (h' := ?_) (by exact rfl) ?_ ?_; rotate_left 2)
      | (refine xr_st (v := ?_) (h' := ?_) (by exact rfl) ?_ ?_; rotate_left 2)
      | (refine xd_reg (ms := [0, 0, 0, 4, 0, 16, 60, 0, 254, 511, 1023]) Ty.mx (by decide +kernel) (by decide +kernel) ?_)
      | (refine xd_bs (v := ?_) (h' := ?_) (L := ?_) (by decide +kernel) ?_ ?_ ?_
         rotate_left 3
         · simp only [stp, ev, Zb, Z2e, Z1z, Zk, Zl, reduceIte, Nat.reduceEqDiff, Zj, Zz, Zu, Z16, Z1a, Zm, Zp, Zo, Zd, Zx, Z2b, Z2x, Z1g, Z17, Zq, Zn, Zv, Z2p, Z2f, Z2o, Z2d, Z2g, Z1c, Z1b, Z2i, Z2n, Z2h, Z2j, Z2k, Z2l, Z2m, Z31, Z8, Z5, Z13, Zy, bld, fillL, vcs, splice, Ze, Z1, Z0, Z35, Ze, Z1, Z0, ldv, stv, vcs, fldA, idxA, blt, lenV, Z10, Z3, Z2, Zf, Zg, Ze, Z1, Z0, Z14, Zw, Zh, Zr, Z33, Z15, Z7, Zc, Z6, Z3, Z2, Zf, Zi, Nat.reduceAdd, Nat.reduceMul, Nat.reduceLeDiff, Z11, Z12, Z1y, Z1h, Z2c, Z23, Z28, Z27, Z26, Z25, Z24, Z1m, Z1l, Z1k, Z1j, Z1i, Z1w, Z1v, Z1u, Z1t, Z1s, Z32, Z2y, Z2q, Z2r, Z2s, Z20, Z1q, Z1r, Z2z, Z2t, Z21, Z22, splice, Za, Z9, Z1, Z0, Z19, Zt, Zs, Z18, newB, vcs, Z30, Z2v, Z1x, Z29, Z1n, Z2u, Z1o, Z1f, Z1p, Z1d, Z1e, Ty.ld3, Ty.sz3, Ty.zc3, Ty.by3, Ty.ld24, Ty.sz24, Ty.sl24, Ty.zc24, Ty.by24, Ty.ld56, Ty.sz56, Ty.sl56, Ty.zc56, Ty.by56, Ty.ld58, Ty.sz58, Ty.zc58, Ty.by58, Ty.pl58, Ty.fl58_0, Ty.fl58_1, Ty.fl58_2, Ty.ld77, Ty.sz77, Ty.zc77, Ty.by77, Ty.pl77, Ty.fl77_0, Ty.fl77_1, Ty.fl77_2, Ty.fl77_3, Ty.fl77_4, Ty.fl77_5, Ty.ld80, Ty.sz80, Ty.zc80, Ty.by80, Ty.pl80, Ty.fl80_0, Ty.fl80_1, Ty.fl80_2, Ty.fl80_3, Ty.fl80_4, Ty.fl80_5, Ty.fl80_6, Ty.fl80_7, Ty.ld139, Ty.sz139, Ty.zc139, Ty.by139, DAct.cells_length, DAct.cells_flat, DAct.cells_take, DAct.get0, DAct.get1, DAct.get4, DAct.get5, DAct.get6, DAct.get7, *]; rfl
         · exact rfl
         skip)
      | (refine xd_do (v := ?_) (by exact rfl) (by decide +kernel) ?_ ?_; rotate_left 1)
      | (refine aw_ift (by decide) ?_ ?_
         · simp only [ev, Zb, reduceIte, Nat.reduceEqDiff, *])
      | (refine aw_iff (by decide) ?_ ?_
         · simp only [ev, Zb, reduceIte, Nat.reduceEqDiff, *])
      | (refine aw_if (b := ?_) (by decide) ?_ (fun hb => ?_) (fun hb => ?_)
         rotate_left 1
         · simp only [ev, Zb, reduceIte, Nat.reduceEqDiff, *]; rfl)
      | (refine r_ret (vs := ?_) ?_ ?_
         rotate_left 1
         · simp only [resV, oneOf, stp, ev, Zb, Z2e, Z1z, Zk, Zl, reduceIte, Nat.reduceEqDiff, Zj, Zz, Zu, Z16, Z1a, Zm, Zp, Zo, Zd, Zx, Z2b, Z2x, Z1g, Z17, Zq, Zn, Zv, Z2p, Z2f, Z2o, Z2d, Z2g, Z1c, Z1b, Z2i, Z2n, Z2h, Z2j, Z2k, Z2l, Z2m, Z31, Z8, Z5, Z13, Zy, bld, fillL, vcs, splice, Ze, Z1, Z0, Z35, Ze, Z1, Z0, ldv, stv, vcs, fldA, idxA, blt, lenV, Z10, Z3, Z2, Zf, Zg, Ze, Z1, Z0, Z14, Zw, Zh, Zr, Z33, Z15, Z7, Zc, Z6, Z3, Z2, Zf, Zi, Nat.reduceAdd, Nat.reduceMul, Nat.reduceLeDiff, Z11, Z12, Z1y, Z1h, Z2c, Z23, Z28, Z27, Z26, Z25, Z24, Z1m, Z1l, Z1k, Z1j, Z1i, Z1w, Z1v, Z1u, Z1t, Z1s, Z32, Z2y, Z2q, Z2r, Z2s, Z20, Z1q, Z1r, Z2z, Z2t, Z21, Z22, splice, Za, Z9, Z1, Z0, Z19, Zt, Zs, Z18, newB, vcs, Z30, Z2v, Z1x, Z29, Z1n, Z2u, Z1o, Z1f, Z1p, Z1d, Z1e, Ty.ld3, Ty.sz3, Ty.zc3, Ty.by3, Ty.ld24, Ty.sz24, Ty.sl24, Ty.zc24, Ty.by24, Ty.ld56, Ty.sz56, Ty.sl56, Ty.zc56, Ty.by56, Ty.ld58, Ty.sz58, Ty.zc58, Ty.by58, Ty.pl58, Ty.fl58_0, Ty.fl58_1, Ty.fl58_2, Ty.ld77, Ty.sz77, Ty.zc77, Ty.by77, Ty.pl77, Ty.fl77_0, Ty.fl77_1, Ty.fl77_2, Ty.fl77_3, Ty.fl77_4, Ty.fl77_5, Ty.ld80, Ty.sz80, Ty.zc80, Ty.by80, Ty.pl80, Ty.fl80_0, Ty.fl80_1, Ty.fl80_2, Ty.fl80_3, Ty.fl80_4, Ty.fl80_5, Ty.fl80_6, Ty.fl80_7, Ty.ld139, Ty.sz139, Ty.zc139, Ty.by139, DAct.cells_length, DAct.cells_flat, DAct.cells_take, DAct.get0, DAct.get1, DAct.get4, DAct.get5, DAct.get6, DAct.get7, *]; rfl)
      | (with_reducible exact within_ok _ _ _ _)
      | (with_reducible exact isDeskAct_ok _ _)
      | (with_reducible refine tickDesk_nil _ _ _ _ ?_ ?_ ?_
         · assumption
         · assumption
         · assumption
         )
      | ((with_reducible refine Z2w (n := 98) ?_); rintro _ _ ⟨rfl, hh⟩; replace hh := hh.symm; subst hh)
      | ((with_reducible refine Z2w (n := 125) ?_); rintro _ _ ⟨rfl, hh⟩; replace hh := hh.symm; subst hh)
      | ((with_reducible refine Z2w (n := 126) ?_); rintro _ _ ⟨X, rfl, rfl⟩)
      )
    exact it_keep0 hids
end Go.Proofs.Ytiddnhhjlipebaa.Am
namespace Go.Proofs.Ytiddnhhjlipebaa.Am
open Go Go.Proofs
set_option linter.unusedVariables false
set_option linter.unusedSimpArgs false
set_option maxRecDepth 100000
set_option maxHeartbeats 8000000

theorem codeI_zero {people : List Int} {x : Item} {a : DAct} (h : codeI people x a = 0) :
    stateM a.kind x.state = true ∧ (a.kind ≠ 7 → isP people a.who = true ∧ isP people (toM a) = true ∧ roleM (people.getD a.who.toNat 0) x.role = true ∧ roleM (people.getD (toM a).toNat 0) x.role = true ∧ (a.kind ≠ 2 → x.who = a.who)) := by
  refine ⟨codeI_state h, fun h7 => ?_⟩
  unfold codeI at h
  rw [if_neg (by rw [codeI_state (people := people) (x := x) (a := a) (by unfold codeI; exact h)]; simp), if_neg h7] at h
  split at h
  · omega
  · rename_i q1
    split at h
    · omega
    · rename_i q2
      simp only [not_or, Bool.not_eq_false, not_and, Decidable.not_not] at q1 q2
      exact ⟨q1.1, q1.2, q2.1, q2.2.1, q2.2.2⟩

theorem itemOk_do {now : Int} {people : List Int} {x : Item} {a : DAct} (hx : itemOk now people x = true) (hk : 2 ≤ a.kind ∧ a.kind ≤ 7) (hc : codeI people x a = 0) : itemOk now people (doI now x a) = true := by
  obtain ⟨hs, hq⟩ := codeI_zero hc
  clear hc
  obtain ⟨kind, item, who, dst, cas, task, role, many⟩ := a
  obtain ⟨xc, xt, xr, xs, xw, xl⟩ := x
  simp only at hk hs hq
  have : kind = 2 ∨ kind = 3 ∨ kind = 4 ∨ kind = 5 ∨ kind = 6 ∨ kind = 7 := by omega
  rcases this with rfl | rfl | rfl | rfl | rfl | rfl <;>
    simp_all [doI, toM, stateM, isP, itemOk] <;> omega

theorem itemOk_tick {now m : Int} {people : List Int} {x : Item} (hx : itemOk now people x = true) (hm : 0 ≤ m) : itemOk (now + m) people (tickI (now + m) x) = true := by
  obtain ⟨xc, xt, xr, xs, xw, xl⟩ := x
  unfold tickI
  by_cases h2 : xs = 2
  · subst h2
    by_cases hl : xl ≤ now + m
    · simp only [hl, Z2b, Z2x]
      simp_all [itemOk]
    · simp only [hl, and_false, if_false]
      simp_all [itemOk]
      omega
  · simp only [h2, false_and, if_false]
    simp_all [itemOk]

theorem itemOk_free {now : Int} {people : List Int} {a : DAct} (hf : formM a = true) (hk : a.kind = 1) : itemOk now people (freeI a) = true := by
  simp only [formM, hk, Z2x, Bool.and_eq_true, decide_eq_true_eq] at hf
  obtain ⟨_, hr⟩ := hf
  obtain ⟨⟨a1, a2⟩, ⟨b1, b2⟩, c1, c2⟩ := hr
  simp [itemOk, freeI, a1, a2, b1, b2, c1, c2]

theorem deskOk_of {now : Int} {people : List Int} {items : List Item} (hn : 0 ≤ now ∧ now ≤ 10000) (hp : 1 ≤ people.length ∧ people.length ≤ 6) (hpp : people.all (fun n => decide (0 ≤ n ∧ n ≤ 15)) = true) (hl : items.length ≤ 40)
    (hi : ∀ x ∈ items, itemOk now people x = true) : deskOk now people items = true := by
  have h1 : decide (0 ≤ now ∧ now ≤ 10000) = true := decide_eq_true hn
  have h2 : decide (1 ≤ (people.length : Int) ∧ (people.length : Int) ≤ 6) = true := decide_eq_true (by omega)
  have h3 : decide ((items.length : Int) ≤ 40) = true := decide_eq_true (by omega)
  have h4 : items.all (itemOk now people) = true := List.all_eq_true.2 hi
  simp only [deskOk, h1, h2, hpp, h3, h4, Z1e]
theorem deskOk_all {now : Int} {people : List Int} {items : List Item} (h : deskOk now people items = true) : people.all (fun n => decide (0 ≤ n ∧ n ≤ 15)) = true := by
  simp only [deskOk, Bool.and_eq_true] at h; exact h.2.2.1

theorem deskOk_step {now : Int} {people : List Int} {items : List Item} {a : DAct} (hg : deskOk now people items = true) : deskOk (stepNow now a) people (stepItems now people items a) = true := by
  by_cases hc : stepCode now people items a = 0
  · have hfm : formM a = true := by
      unfold stepCode at hc
      rcases Bool.eq_false_or_eq_true (formM a) with q | q
      · exact q
      · simp [q] at hc
    have hkr := form_kind hfm
    have hn := deskOk_now hg
    have hl := deskOk_items hg
    have hp1 : 1 ≤ people.length ∧ people.length ≤ 6 := ⟨deskOk_people1 hg, deskOk_people hg⟩
    have hpp := deskOk_all hg
    unfold stepCode at hc
    unfold stepNow stepItems
    simp only [hfm, Bool.true_eq_false, if_false] at hc ⊢
    by_cases h1 : a.kind = 1
    · simp only [if_pos h1, show ¬ a.kind = 8 by omega, if_false] at hc ⊢
      by_cases h40 : items.length = 40
      · simp [h40] at hc
      · simp only [if_neg h40]
        refine deskOk_of hn hp1 hpp (by simp; omega) fun x hx => ?_
        rcases List.mem_append.1 hx with q | q
        · exact deskOk_item hg q
        · simp at q; subst q; exact itemOk_free hfm h1
    · simp only [if_neg h1] at hc ⊢
      by_cases h8 : a.kind = 8
      · simp only [if_pos h8] at hc ⊢
        by_cases hov : 10000 < now + a.many
        · simp [hov] at hc
        · simp only [if_neg hov]
          have hm := form_many hfm h8
          refine deskOk_of (by omega) hp1 hpp (by simpa using hl) fun x hx => ?_
          obtain ⟨y, hy, rfl⟩ := List.mem_map.1 hx
          exact itemOk_tick (deskOk_item hg hy) hm.1
      · simp only [if_neg h8] at hc ⊢
        by_cases hr : inRange items a
        · simp only [if_pos hr] at hc ⊢
          have hi3 : a.item.toNat < items.length := by obtain ⟨q1, q2⟩ := hr; omega
          have hgd : items.getD a.item.toNat Item.nil = items[a.item.toNat] := by rw [List.getD_eq_getElem?_getD, List.getElem?_eq_getElem hi3]; rfl
          rw [hgd] at hc ⊢
          refine deskOk_of hn hp1 hpp (by simpa using hl) fun x hx => ?_
          rcases List.mem_or_eq_of_mem_set hx with q | q
          · exact deskOk_item hg q
          · rw [q, nextI, if_pos hc]
            exact itemOk_do (deskOk_item hg (List.getElem_mem hi3)) (by omega) hc
        · simp [hr] at hc
  · obtain ⟨e1, e2⟩ := step_pos hc
    rw [e1, e2]; exact hg

/-- A play: the time, the items, the codes. -/
def playT (people : List Int) (s : Int × List Item × List Int) (a : DAct) : Int × List Item × List Int := (stepNow s.1 a, stepItems s.1 people s.2.1 a, s.2.2 ++ [stepCode s.1 people s.2.1 a])
def playA (people : List Int) (l : List DAct) : Int × List Item × List Int := l.foldl (playT people) (0, [], [])
theorem playA_snoc (people : List Int) {l : List DAct} {k : Nat} (hk : k < l.length) : playA people (l.take (k + 1)) = playT people (playA people (l.take k)) l[k] := by
  rw [← List.take_append_getElem hk, playA, List.foldl_append]; rfl
theorem playA_inv (people : List Int) (hg : deskOk 0 people [] = true) (l : List DAct) : ∀ k, k ≤ l.length → deskOk (playA people (l.take k)).1 people (playA people (l.take k)).2.1 = true ∧ (playA people (l.take k)).2.2.length = k
  | 0, _ => by simp [playA, hg]
  | k + 1, hk => by
      obtain ⟨h1, h2⟩ := playA_inv people hg l k (by omega)
      rw [playA_snoc people (by omega : k < l.length)]
      exact ⟨deskOk_step h1, by simp [playT, h2]⟩

theorem stepDesk_id (now : Int) (people : List Int) (items : List Item) (a : DAct) (vp : Value) (sp : Option Nat) (H : Heap) (id : Nat) (hsp : sp = none ∨ sp = some 0) (hb : H[id]? = some ⟨2, 6, cellsL items⟩)
    (hp : ∀ (b : Blk) (X : Heap), Sl (H.set id b ++ X) vp 1 (ints people)) (hids : IdsP (fun i => i < H.length) vp) (hg : deskOk now people items = true) :
    ACalls Try.prog 0 109 #[.agg #[.int .i64 now, vp, .slice (some ⟨id, 0, sp⟩) items.length items.length], .agg a.cells.toArray] H
    fun v h' => v = .tuple #[.agg #[.int .i64 (stepNow now a), vp, .slice (some ⟨H.length, 0, some 0⟩) (stepItems now people items a).length (stepItems now people items a).length], .int .i64 (stepCode now people items a)] ∧
      h' = H.set id ⟨0, 0, []⟩ ++ [⟨2, 6, cellsL (stepItems now people items a)⟩] := by
  have hlt := lt_of_get hb
  have e : H = H.take id ++ ⟨2, 6, cellsL items⟩ :: H.drop (id + 1) := by
    have := (List.getElem?_eq_some_iff.1 hb).2
    rw [← this, ← List.drop_eq_getElem_cons hlt, List.take_append_drop]
  have hl : (H.take id).length = id := by simp; omega
  have hlen : H.length = id + ((H.drop (id + 1)).length + 1) := by simp; omega
  have hset : ∀ b : Blk, H.set id b = H.take id ++ b :: H.drop (id + 1) := fun b => by rw [List.set_eq_take_append_cons_drop, if_pos hlt]
  have := stepDesk_blk now people items a vp sp (H.take id) (H.drop (id + 1)) hsp (fun b X => by
    have := hp b X
    rw [hset] at this
    simpa only [Z7, Zc] using this) (by rw [hl, ← hlen]; exact hids) (deskOk_people hg) (deskOk_now hg) (by have := deskOk_items hg; omega) (fun x hx => (itemOk_role (deskOk_item hg hx)).1)
  rw [hl, ← hlen, ← e] at this
  refine this.mono fun v h' q => ⟨q.1, q.2.trans ?_⟩
  rw [hset]
end Go.Proofs.Ytiddnhhjlipebaa.Am
namespace Go.Proofs.Ytiddnhhjlipebaa.Am
open Go Go.Proofs Go.RowKit
set_option linter.unusedVariables false
set_option linter.unusedSimpArgs false
set_option maxRecDepth 100000

theorem open_DActS {H : Type} {enc : TypeId × Value → H} {W : World} {base : Nat} {v : Value} {d : DataW H} {ps : List MemPlace} {m : Map} {h : Heap} {spare : Nat → Bool}
    (hval : Value.okWide Try.prog W .any base 88 v) (ht : DataW.Trod enc Try.prog W 0 spare true 88 v d ps) (r : WRel 0 m h W) (hno : NoOwn h) :
    ∃ (l : List DAct) (v' : Value) (m' : Map) (h' : Heap), WRel 0 m' (h ++ h') W ∧ NoOwn (h ++ h') ∧ Agree h.length m m' ∧
      Sl (h ++ h') v' 8 (l.map DAct.cells) ∧ VRel (h ++ h').length m' v' v ∧ (∀ x ∈ l, x.wf) ∧ l.length ≤ maxLen := by
  have c1 := value_slice Try.underlying88 hval
  obtain ⟨fuel, hf⟩ := ht
  have hf' : DataW.trod enc Try.prog W 0 spare true fuel 88 [v] = some (d, ps) := by
    have hv : v.cells.toList = [v] := by
      unfold Cell.ok at c1
      rw [Try.underlying88] at c1
      cases v <;> first | rfl | (exact c1.elim)
    rw [← hv]; exact hf
  have s1 := open_slice (n := 8) DAct.cells DAct.wf Try.underlying88 (by kernel_rfl) (fun fuel cs y hy => el_DAct fuel cs y hy) c1 hf'
  obtain ⟨l, m1, h1, vp, r1, no1, ag1, sl1, vr1, wf1, len1⟩ := open_arg _ _ DAct.plain r hno s1
  exact ⟨l, vp, m1, h1, r1, no1, ag1, sl1, vr1, wf1, len1⟩
end Go.Proofs.Ytiddnhhjlipebaa.Am
