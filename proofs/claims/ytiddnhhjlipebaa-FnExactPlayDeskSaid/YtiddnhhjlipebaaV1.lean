/- Walks of the smallest functions. Conditions: none. -/
import Derived.Test.YtiddnhhjlipebaaK3
import Derived.Test.YtiddnhhjlipebaaTy
namespace Go.Proofs.Ytiddnhhjlipebaa.Am
open Go Go.Proofs
set_option linter.unusedVariables false
set_option linter.unusedSimpArgs false
set_option maxRecDepth 100000
set_option maxHeartbeats 8000000

theorem within_ok (n lo hi : Int) (h : Heap) : ACalls Try.prog 0 98 #[.int .i64 n, .int .i64 lo, .int .i64 hi] h
    fun v h' => v = .bool (decide (lo ≤ n ∧ n ≤ hi)) ∧ h' = h := by
  refine Z36 Try.func98 rfl Try.ntmps98 (by simp) (by dsimp only [Try.f98]) ?_
  repeat' (first
    | ((with_reducible refine eq_go ?_); simp only [stp, ev, Zb, Z2e, Z1z, Zk, Zl, reduceIte, Nat.reduceEqDiff, Zj, Zz, Zu, Z16, Z1a, Zm, Zp, Zo, Zd, Zx, Z2b, Z2x, Z1g, Z17, Zq, Zn, Zv, Z2p, Z2f, Z2o, Z2d, Z2g, Z1c, Z1b, Z2i, Z2n, Z2h, Z2j, Z2k, Z2l, Z2m, Z31, Z8, Z5, Z13, Zy, *]; rfl)
    | (with_reducible refine aw_then ?_) | (with_reducible refine aw_skip ?_) | (with_reducible refine aw_ret ?_) | (with_reducible refine aw_exit ?_) | (with_reducible refine aw_block ?_) | (with_reducible refine xr_reg (by decide +kernel) ?_)
    | (with_reducible refine xr_nil ?_) | (with_reducible refine k_norm ?_) | (with_reducible refine k_ret ?_) | (with_reducible refine k_exit ?_) | (with_reducible refine b_norm ?_) | (with_reducible refine b_ret ?_) | (with_reducible refine b_exit ?_) | (with_reducible refine b_past (by decide) ?_)
    | (refine xr_do (v := ?_) (h' := ?_) (by exact rfl) ?_ ?_; rotate_left 2)
    | (refine xr_st (v := ?_) (h' := ?_) (by exact rfl) ?_ ?_; rotate_left 2)
    | (refine xr_gdo (v := ?_) (h' := ?_) (by exact rfl) (by exact rfl) ?_ ?_ ?_
       rotate_left 2
       · simp only [ev, Zb, reduceIte, Nat.reduceEqDiff, Z8, Z5, *])
    | (refine xr_gst (v := ?_) (h' := ?_) (by exact rfl) (by exact rfl) ?_ ?_ ?_
       rotate_left 2
       · simp only [ev, Zb, reduceIte, Nat.reduceEqDiff, Z8, Z5, *])
    | (refine xr_goff (by exact rfl) ?_ ?_
       · simp only [ev, Zb, reduceIte, Nat.reduceEqDiff, Z8, Z5, *])
    | (refine xr_gsoff (by exact rfl) ?_ ?_
       · simp only [ev, Zb, reduceIte, Nat.reduceEqDiff, Z8, Z5, *])
    | (refine xr_gund (by exact rfl) ?_ ?_
       · simp only [ev, Zb, reduceIte, Nat.reduceEqDiff, Z8, Z5, *])
    | (refine xr_gsund (by exact rfl) ?_ ?_
       · simp only [ev, Zb, reduceIte, Nat.reduceEqDiff, Z8, Z5, *])
    | (refine xr_gif (b := ?_) (by exact rfl) ?_ (fun hb => ?_) (fun hb => ?_)
       rotate_left 1
       · simp only [ev, Zb, reduceIte, Nat.reduceEqDiff, Z8, Z5, *]; rfl)
    | (refine aw_ift (by decide) ?_ ?_
       · simp only [ev, Zb, reduceIte, Nat.reduceEqDiff, *])
    | (refine aw_iff (by decide) ?_ ?_
       · simp only [ev, Zb, reduceIte, Nat.reduceEqDiff, *])
    | (refine aw_if (b := ?_) (by decide) ?_ (fun hb => ?_) (fun hb => ?_)
       rotate_left 1
       · simp only [ev, Zb, reduceIte, Nat.reduceEqDiff, *]; rfl)
    | (refine r_ret (vs := ?_) ?_ ?_
       rotate_left 1
       · simp only [resV, ev, Zb, reduceIte, Nat.reduceEqDiff, Zj, *]; rfl)
    )
  all_goals refine ⟨?_, rfl⟩
  all_goals simp_all [oneOf]
  all_goals omega

theorem allWithin_ok (l : List Int) (lo hi : Int) (h : Heap) (v : Value) (hs : Sl h v 1 (l.map fun n => [.int .i64 n])) (hb : l.length < 9223372036854775807) :
    ACalls Try.prog 0 120 #[v, .int .i64 lo, .int .i64 hi] h
    fun v h' => v = .bool (l.all fun n => decide (lo ≤ n ∧ n ≤ hi)) ∧ h' = h := by
  obtain ⟨b, c, rfl, hc, hrow⟩ := hs
  refine Z36 Try.func120 rfl Try.ntmps120 (by simp) (by dsimp only [Try.f120]) ?_
  repeat' (first
    | ((with_reducible refine eq_go ?_); simp only [stp, ev, Zb, Z2e, Z1z, Zk, Zl, reduceIte, Nat.reduceEqDiff, Zj, Zz, Zu, Z16, Z1a, Zm, Zp, Zo, Zd, Zx, Z2b, Z2x, Z1g, Z17, Zq, Zn, Zv, Z2p, Z2f, Z2o, Z2d, Z2g, Z1c, Z1b, Z2i, Z2n, Z2h, Z2j, Z2k, Z2l, Z2m, Z31, Z8, Z5, Z13, Zy, ldv, idxA, blt, lenV, Z10, Z3, Z2, Zf, Zg, Ze, Z1, Z0, Z14, Zw, Zh, Zr, Z33, Z15, Z7, Zc, Z6, Z3, Z2, Zf, Zi, Nat.reduceAdd, Nat.reduceMul, Nat.reduceLeDiff, Z11, Z12, Z1y, Z1h, Z2c, Z23, Z28, Z27, Z26, Z25, Z24, Z1m, Z1l, Z1k, Z1j, Z1i, Z1w, Z1v, Z1u, Z1t, Z1s, Z32, Z2y, Z2q, Z2r, Z2s, Z20, Z1q, Z1r, Z2z, Z2t, Z21, Z22, splice, Za, Z9, Z1, Z0, Z19, Zt, Zs, Z18, newB, vcs, Z30, Z2v, Z1x, Z29, Z1n, Z2u, Z1o, Z1f, Z1p, Z1d, Z1e, Ty.ld3, Ty.sz3, Ty.zc3, Ty.by3, Ty.ld24, Ty.sz24, Ty.sl24, Ty.zc24, Ty.by24, *]; rfl)
    | (with_reducible refine aw_then ?_) | (with_reducible refine aw_skip ?_) | (with_reducible refine aw_ret ?_) | (with_reducible refine aw_exit ?_) | (with_reducible refine aw_block ?_) | (with_reducible refine xr_reg (by decide +kernel) ?_)
    | (with_reducible refine xr_nil ?_) | (with_reducible refine k_norm ?_) | (with_reducible refine k_ret ?_) | (with_reducible refine k_exit ?_) | (with_reducible refine b_norm ?_) | (with_reducible refine b_ret ?_) | (with_reducible refine b_exit ?_) | (with_reducible refine b_past (by decide) ?_)
    | (refine xr_cl (f := ?_) (fs := ?_) (cs := ?_) (args := ?_) (K := ?_) ?_ ?_ ?_ ?_ ?_
       rotate_left 5
       · simp only [ev]; rfl
       first
       | (· with_reducible exact Ty.ok98
          rotate_left 2
          refine Z2a 98 ?_
          rotate_right 2)
       )
    | (refine xr_do (v := ?_) (h' := ?_) (by exact rfl) ?_ ?_; rotate_left 2)
    | (refine xr_st (v := ?_) (h' := ?_) (by exact rfl) ?_ ?_; rotate_left 2)
    | (refine aw_ift (by decide) ?_ ?_
       · simp only [ev, Zb, reduceIte, Nat.reduceEqDiff, *])
    | (refine aw_iff (by decide) ?_ ?_
       · simp only [ev, Zb, reduceIte, Nat.reduceEqDiff, *])
    | (refine aw_if (b := ?_) (by decide) ?_ (fun hb => ?_) (fun hb => ?_)
       rotate_left 1
       · simp only [ev, Zb, reduceIte, Nat.reduceEqDiff, *]; rfl)
    | (refine r_ret (vs := ?_) ?_ ?_
       rotate_left 1
       · simp only [resV, ev, Zb, reduceIte, Nat.reduceEqDiff, Zj, *]; rfl)
    | (with_reducible exact within_ok _ _ _ _)
    | ((with_reducible refine Z2w (n := 98) ?_); rintro _ _ ⟨rfl, hh⟩; replace hh := hh.symm; subst hh)
    )
  refine aw_for [1, 2, 9, 10] (fun k T h' => h' = h ∧ T 11 = .int .i64 k ∧ (l.take k).all (fun n => decide (lo ≤ n ∧ n ≤ hi)) = true) l.length (k0 := 0) (Nat.zero_le _) ⟨rfl, rfl, rfl⟩ ?_
  rintro k T h' hk hR ⟨rfl, h11, hall⟩
  simp only [Z37, Z38, Z39, implies_true, and_true, stp, ev, Zb, Z2e, Z1z, Zk, Zl, reduceIte, Nat.reduceEqDiff, Zj, Zz, Zu, Z16, Z1a, Zm, Zp, Zo, Zd, Zx, Z2b, Z2x, Z1g, Z17, Zq, Zn, Zv, Z2p, Z2f, Z2o, Z2d, Z2g, Z1c, Z1b, Z2i, Z2n, Z2h, Z2j, Z2k, Z2l, Z2m, Z31, Z8, Z5, Z13, Zy] at hR
  rcases Nat.lt_or_ge k l.length with hkn | hkn
  · have h1 : (k : Int) < l.length := by omega
    obtain ⟨a, rfl, hl⟩ := Sl.row hrow (k := k) (by simpa using hkn)
    rw [List.getElem_map] at hl
    have hg := getC_of_load hl
    repeat' (first
      | ((with_reducible refine eq_go ?_); simp only [stp, ev, Zb, Z2e, Z1z, Zk, Zl, reduceIte, Nat.reduceEqDiff, Zj, Zz, Zu, Z16, Z1a, Zm, Zp, Zo, Zd, Zx, Z2b, Z2x, Z1g, Z17, Zq, Zn, Zv, Z2p, Z2f, Z2o, Z2d, Z2g, Z1c, Z1b, Z2i, Z2n, Z2h, Z2j, Z2k, Z2l, Z2m, Z31, Z8, Z5, Z13, Zy, ldv, idxA, blt, lenV, Z10, Z3, Z2, Zf, Zg, Ze, Z1, Z0, Z14, Zw, Zh, Zr, Z33, Z15, Z7, Zc, Z6, Z3, Z2, Zf, Zi, Nat.reduceAdd, Nat.reduceMul, Nat.reduceLeDiff, Z11, Z12, Z1y, Z1h, Z2c, Z23, Z28, Z27, Z26, Z25, Z24, Z1m, Z1l, Z1k, Z1j, Z1i, Z1w, Z1v, Z1u, Z1t, Z1s, Z32, Z2y, Z2q, Z2r, Z2s, Z20, Z1q, Z1r, Z2z, Z2t, Z21, Z22, splice, Za, Z9, Z1, Z0, Z19, Zt, Zs, Z18, newB, vcs, Z30, Z2v, Z1x, Z29, Z1n, Z2u, Z1o, Z1f, Z1p, Z1d, Z1e, Ty.ld3, Ty.sz3, Ty.zc3, Ty.by3, Ty.ld24, Ty.sz24, Ty.sl24, Ty.zc24, Ty.by24, *]; rfl)
      | (with_reducible refine aw_then ?_) | (with_reducible refine aw_skip ?_) | (with_reducible refine aw_ret ?_) | (with_reducible refine aw_exit ?_) | (with_reducible refine aw_block ?_) | (with_reducible refine xr_reg (by decide +kernel) ?_)
      | (with_reducible refine xr_nil ?_) | (with_reducible refine k_norm ?_) | (with_reducible refine k_ret ?_) | (with_reducible refine k_exit ?_) | (with_reducible refine b_norm ?_) | (with_reducible refine b_ret ?_) | (with_reducible refine b_exit ?_) | (with_reducible refine b_past (by decide) ?_)
      | (refine xr_cl (f := ?_) (fs := ?_) (cs := ?_) (args := ?_) (K := ?_) ?_ ?_ ?_ ?_ ?_
         rotate_left 5
         · simp only [ev]; rfl
         first
         | (· with_reducible exact Ty.ok98
            rotate_left 2
            refine Z2a 98 ?_
            rotate_right 2)
         )
      | (refine xr_do (v := ?_) (h' := ?_) (by exact rfl) ?_ ?_; rotate_left 2)
      | (refine xr_st (v := ?_) (h' := ?_) (by exact rfl) ?_ ?_; rotate_left 2)
      | (refine aw_ift (by decide) ?_ ?_
         · simp only [ev, Zb, reduceIte, Nat.reduceEqDiff, *])
      | (refine aw_iff (by decide) ?_ ?_
         · simp only [ev, Zb, reduceIte, Nat.reduceEqDiff, *])
      | (refine aw_if (b := ?_) (by decide) ?_ (fun hb => ?_) (fun hb => ?_)
         rotate_left 1
         · simp only [ev, Zb, reduceIte, Nat.reduceEqDiff, *]; rfl)
      | (refine r_ret (vs := ?_) ?_ ?_
         rotate_left 1
         · simp only [resV, ev, Zb, reduceIte, Nat.reduceEqDiff, Zj, *]; rfl)
      | (with_reducible exact within_ok _ _ _ _)
      | ((with_reducible refine Z2w (n := 98) ?_); rintro _ _ ⟨rfl, hh⟩; replace hh := hh.symm; subst hh)
      )
    · simp only [Bool.not_eq_true', decide_eq_false_iff_not] at hb
      refine ⟨?_, rfl⟩
      have : (l.all fun n => decide (lo ≤ n ∧ n ≤ hi)) = false := List.all_eq_false.2 ⟨l[k], List.getElem_mem _, by simpa using hb⟩
      rw [this]; rfl
    refine ⟨by first | assumption | omega, ?_, ?_⟩
    · simp only [Z37, Z38, Z39, implies_true, and_true, Z2b, stp, ev, Zb, Z2e, Z1z, Zk, Zl, reduceIte, Nat.reduceEqDiff, Zj, Zz, Zu, Z16, Z1a, Zm, Zp, Zo, Zd, Zx, Z2b, Z2x, Z1g, Z17, Zq, Zn, Zv, Z2p, Z2f, Z2o, Z2d, Z2g, Z1c, Z1b, Z2i, Z2n, Z2h, Z2j, Z2k, Z2l, Z2m, Z31, Z8, Z5, Z13, Zy, *]
    refine ⟨rfl, ?_, ?_⟩
    · simp only [Zb, reduceIte, Nat.reduceEqDiff]
      rw [wrap_id (by omega)]; rfl
    · rw [← List.take_append_getElem hkn, List.all_append, hall]
      simpa using hb
  · have h1 : ¬ (k : Int) < l.length := by omega
    repeat' (first
      | ((with_reducible refine eq_go ?_); simp only [stp, ev, Zb, Z2e, Z1z, Zk, Zl, reduceIte, Nat.reduceEqDiff, Zj, Zz, Zu, Z16, Z1a, Zm, Zp, Zo, Zd, Zx, Z2b, Z2x, Z1g, Z17, Zq, Zn, Zv, Z2p, Z2f, Z2o, Z2d, Z2g, Z1c, Z1b, Z2i, Z2n, Z2h, Z2j, Z2k, Z2l, Z2m, Z31, Z8, Z5, Z13, Zy, ldv, idxA, blt, lenV, Z10, Z3, Z2, Zf, Zg, Ze, Z1, Z0, Z14, Zw, Zh, Zr, Z33, Z15, Z7, Zc, Z6, Z3, Z2, Zf, Zi, Nat.reduceAdd, Nat.reduceMul, Nat.reduceLeDiff, Z11, Z12, Z1y, Z1h, Z2c, Z23, Z28, Z27, Z26, Z25, Z24, Z1m, Z1l, Z1k, Z1j, Z1i, Z1w, Z1v, Z1u, Z1t, Z1s, Z32, Z2y, Z2q, Z2r, Z2s, Z20, Z1q, Z1r, Z2z, Z2t, Z21, Z22, splice, Za, Z9, Z1, Z0, Z19, Zt, Zs, Z18, newB, vcs, Z30, Z2v, Z1x, Z29, Z1n, Z2u, Z1o, Z1f, Z1p, Z1d, Z1e, Ty.ld3, Ty.sz3, Ty.zc3, Ty.by3, Ty.ld24, Ty.sz24, Ty.sl24, Ty.zc24, Ty.by24, *]; rfl)
      | (with_reducible refine aw_then ?_) | (with_reducible refine aw_skip ?_) | (with_reducible refine aw_ret ?_) | (with_reducible refine aw_exit ?_) | (with_reducible refine aw_block ?_) | (with_reducible refine xr_reg (by decide +kernel) ?_)
      | (with_reducible refine xr_nil ?_) | (with_reducible refine k_norm ?_) | (with_reducible refine k_ret ?_) | (with_reducible refine k_exit ?_) | (with_reducible refine b_norm ?_) | (with_reducible refine b_ret ?_) | (with_reducible refine b_exit ?_) | (with_reducible refine b_past (by decide) ?_)
      | (refine xr_cl (f := ?_) (fs := ?_) (cs := ?_) (args := ?_) (K := ?_) ?_ ?_ ?_ ?_ ?_
         rotate_left 5
         · simp only [ev]; rfl
         first
         | (· with_reducible exact Ty.ok98
            rotate_left 2
            refine Z2a 98 ?_
            rotate_right 2)
         )
      | (refine xr_do (v := ?_) (h' := ?_) (by exact rfl) ?_ ?_; rotate_left 2)
      | (refine xr_st (v := ?_) (h' := ?_) (by exact rfl) ?_ ?_; rotate_left 2)
      | (refine aw_ift (by decide) ?_ ?_
         · simp only [ev, Zb, reduceIte, Nat.reduceEqDiff, *])
      | (refine aw_iff (by decide) ?_ ?_
         · simp only [ev, Zb, reduceIte, Nat.reduceEqDiff, *])
      | (refine aw_if (b := ?_) (by decide) ?_ (fun hb => ?_) (fun hb => ?_)
         rotate_left 1
         · simp only [ev, Zb, reduceIte, Nat.reduceEqDiff, *]; rfl)
      | (refine r_ret (vs := ?_) ?_ ?_
         rotate_left 1
         · simp only [resV, ev, Zb, reduceIte, Nat.reduceEqDiff, Zj, *]; rfl)
      | (with_reducible exact within_ok _ _ _ _)
      | ((with_reducible refine Z2w (n := 98) ?_); rintro _ _ ⟨rfl, hh⟩; replace hh := hh.symm; subst hh)
      )
    refine ⟨?_, rfl⟩
    rw [List.take_of_length_le hkn] at hall
    rw [hall]; rfl
end Go.Proofs.Ytiddnhhjlipebaa.Am
namespace Go.Proofs.Ytiddnhhjlipebaa.Am
open Go Go.Proofs
set_option linter.unusedVariables false
set_option linter.unusedSimpArgs false
set_option maxRecDepth 100000
set_option maxHeartbeats 8000000

structure Item where
  cas : Int
  task : Int
  role : Int
  state : Int
  who : Int
  till : Int

def Item.cells (x : Item) : List Value := [.int .i64 x.cas, .int .i64 x.task, .int .i64 x.role, .int .i64 x.state, .int .i64 x.who, .int .i64 x.till]

theorem isOffer_ok (a b c : Int) (h : Heap) : ACalls Try.prog 0 135 #[.int .i64 a, .int .i64 b, .int .i64 c] h
    fun v h' => v = .bool (decide ((0 ≤ a ∧ a ≤ 9) ∧ (0 ≤ b ∧ b ≤ 5) ∧ (0 ≤ c ∧ c ≤ 3))) ∧ h' = h := by
  refine Z36 Try.func135 rfl Try.ntmps135 (by simp) (by dsimp only [Try.f135]) ?_
  repeat' (first
    | ((with_reducible refine eq_go ?_); simp only [stp, ev, Zb, Z2e, Z1z, Zk, Zl, reduceIte, Nat.reduceEqDiff, Zj, Zz, Zu, Z16, Z1a, Zm, Zp, Zo, Zd, Zx, Z2b, Z2x, Z1g, Z17, Zq, Zn, Zv, Z2p, Z2f, Z2o, Z2d, Z2g, Z1c, Z1b, Z2i, Z2n, Z2h, Z2j, Z2k, Z2l, Z2m, Z31, Z8, Z5, Z13, Zy, blt, lenV, Z10, Z3, Z2, Zf, Zg, Ze, Z1, Z0, Z14, Zw, Ty.sz3, Ty.zc3, Ty.by3, *]; rfl)
    | (with_reducible refine aw_then ?_) | (with_reducible refine aw_skip ?_) | (with_reducible refine aw_ret ?_) | (with_reducible refine aw_exit ?_) | (with_reducible refine aw_block ?_) | (with_reducible refine xr_reg (by decide +kernel) ?_)
    | (with_reducible refine xr_nil ?_) | (with_reducible refine k_norm ?_) | (with_reducible refine k_ret ?_) | (with_reducible refine k_exit ?_) | (with_reducible refine b_norm ?_) | (with_reducible refine b_ret ?_) | (with_reducible refine b_exit ?_) | (with_reducible refine b_past (by decide) ?_)
    | (refine xr_cl (f := ?_) (fs := ?_) (cs := ?_) (args := ?_) (K := ?_) ?_ ?_ ?_ ?_ ?_
       rotate_left 5
       · simp only [ev]; rfl
       first
       | (· with_reducible exact Ty.ok98
          rotate_left 2
          refine Z2a 98 ?_
          rotate_right 2)
       )
    | (refine xr_gcl (f := ?_) (fs := ?_) (cs := ?_) (args := ?_) (K := ?_) (by exact rfl) ?_ ?_ ?_ ?_ ?_ ?_
       rotate_left 5
       · simp only [ev, Zb, reduceIte, Nat.reduceEqDiff, Z8, Z5, *]
       · simp only [ev]; rfl
       first
       | (· with_reducible exact Ty.ok98
          rotate_left 2
          refine Z2a 98 ?_
          rotate_right 2)
       )
    | (refine xr_do (v := ?_) (h' := ?_) (by exact rfl) ?_ ?_; rotate_left 2)
    | (refine xr_st (v := ?_) (h' := ?_) (by exact rfl) ?_ ?_; rotate_left 2)
    | (refine xr_gdo (v := ?_) (h' := ?_) (by exact rfl) (by exact rfl) ?_ ?_ ?_
       rotate_left 2
       · simp only [ev, Zb, reduceIte, Nat.reduceEqDiff, Z8, Z5, *])
    | (refine xr_gst (v := ?_) (h' := ?_) (by exact rfl) (by exact rfl) ?_ ?_ ?_
       rotate_left 2
       · simp only [ev, Zb, reduceIte, Nat.reduceEqDiff, Z8, Z5, *])
    | (refine xr_goff (by exact rfl) ?_ ?_
       · simp only [ev, Zb, reduceIte, Nat.reduceEqDiff, Z8, Z5, *])
    | (refine xr_gsoff (by exact rfl) ?_ ?_
       · simp only [ev, Zb, reduceIte, Nat.reduceEqDiff, Z8, Z5, *])
    | (refine xr_gund (by exact rfl) ?_ ?_
       · simp only [ev, Zb, reduceIte, Nat.reduceEqDiff, Z8, Z5, *])
    | (refine xr_gsund (by exact rfl) ?_ ?_
       · simp only [ev, Zb, reduceIte, Nat.reduceEqDiff, Z8, Z5, *])
    | (refine xr_gif (b := ?_) (by exact rfl) ?_ (fun hb => ?_) (fun hb => ?_)
       rotate_left 1
       · simp only [ev, Zb, reduceIte, Nat.reduceEqDiff, Z8, Z5, *]; rfl)
    | (refine aw_ift (by decide) ?_ ?_
       · simp only [ev, Zb, reduceIte, Nat.reduceEqDiff, *])
    | (refine aw_iff (by decide) ?_ ?_
       · simp only [ev, Zb, reduceIte, Nat.reduceEqDiff, *])
    | (refine aw_if (b := ?_) (by decide) ?_ (fun hb => ?_) (fun hb => ?_)
       rotate_left 1
       · simp only [ev, Zb, reduceIte, Nat.reduceEqDiff, *]; rfl)
    | (refine r_ret (vs := ?_) ?_ ?_
       rotate_left 1
       · simp only [resV, ev, Zb, reduceIte, Nat.reduceEqDiff, Zj, *]; rfl)
    | (with_reducible exact within_ok _ _ _ _)
    | ((with_reducible refine Z2w (n := 98) ?_); rintro _ _ ⟨rfl, hh⟩; replace hh := hh.symm; subst hh)
    )
  all_goals refine ⟨?_, rfl⟩
  all_goals simp_all [oneOf]
  all_goals omega

theorem isPerson_ok (now who : Int) (people : List Int) (vp vi : Value) (h : Heap) (hp : Sl h vp 1 (people.map fun n => [.int .i64 n])) (hl : people.length ≤ 6) (hi : flat vi = true) :
    ACalls Try.prog 0 97 #[.agg #[.int .i64 now, vp, vi], .int .i64 who] h
    fun v h' => v = .bool (decide (0 ≤ who ∧ who ≤ (people.length : Int) - 1)) ∧ h' = h := by
  refine acalls_pure (.inl rfl) ?_
  obtain ⟨b, c, rfl, hc, hrow⟩ := hp
  refine Z36 Try.func97 rfl Try.ntmps97 (by simp) (by dsimp only [Try.f97]) ?_
  repeat' (first
    | ((with_reducible refine eq_go ?_); simp only [stp, ev, Zb, Z2e, Z1z, Zk, Zl, reduceIte, Nat.reduceEqDiff, Zj, Zz, Zu, Z16, Z1a, Zm, Zp, Zo, Zd, Zx, Z2b, Z2x, Z1g, Z17, Zq, Zn, Zv, Z2p, Z2f, Z2o, Z2d, Z2g, Z1c, Z1b, Z2i, Z2n, Z2h, Z2j, Z2k, Z2l, Z2m, Z31, Z8, Z5, Z13, Zy, ldv, fldA, blt, lenV, Z10, Z3, Z2, Zf, Zg, Ze, Z1, Z0, Z14, Zw, Zh, Zr, Z33, Z15, Z7, Zc, Z6, Z3, Z2, Zf, Zi, Nat.reduceAdd, Nat.reduceMul, Nat.reduceLeDiff, Z11, Z12, Z1y, Z1h, Z2c, Z23, Z28, Z27, Z26, Z25, Z24, Z1m, Z1l, Z1k, Z1j, Z1i, Z1w, Z1v, Z1u, Z1t, Z1s, Z32, Z2y, Z2q, Z2r, Z2s, Z20, Z1q, Z1r, Z2z, Z2t, Z21, Z22, splice, Za, Z9, Z1, Z0, Z19, Zt, Zs, Z18, newB, vcs, Z30, Z2v, Z1x, Z29, Z1n, Z2u, Z1o, Z1f, Z1p, Z1d, Z1e, Ty.ld3, Ty.sz3, Ty.zc3, Ty.by3, Ty.ld24, Ty.sz24, Ty.sl24, Ty.zc24, Ty.by24, Ty.ld56, Ty.sz56, Ty.sl56, Ty.zc56, Ty.by56, Ty.ld58, Ty.sz58, Ty.zc58, Ty.by58, Ty.fl58_0, Ty.fl58_1, Ty.fl58_2, Ty.ld77, Ty.sz77, Ty.zc77, Ty.by77, Ty.fl77_0, Ty.fl77_1, Ty.fl77_2, Ty.fl77_3, Ty.fl77_4, Ty.fl77_5, *]; rfl)
    | (with_reducible refine aw_then ?_) | (with_reducible refine aw_skip ?_) | (with_reducible refine aw_ret ?_) | (with_reducible refine aw_exit ?_) | (with_reducible refine aw_block ?_) | (with_reducible refine xr_reg (by decide +kernel) ?_)
    | (with_reducible refine xr_nil ?_) | (with_reducible refine k_norm ?_) | (with_reducible refine k_ret ?_) | (with_reducible refine k_exit ?_) | (with_reducible refine b_norm ?_) | (with_reducible refine b_ret ?_) | (with_reducible refine b_exit ?_) | (with_reducible refine b_past (by decide) ?_)
    | (refine xr_cl (f := ?_) (fs := ?_) (cs := ?_) (args := ?_) (K := ?_) ?_ ?_ ?_ ?_ ?_
       rotate_left 5
       · simp only [ev]; rfl
       first
       | (· with_reducible exact Ty.ok98
          rotate_left 2
          refine Z2a 98 ?_
          rotate_right 2)
       )
    | (refine xr_do (v := ?_) (h' := ?_) (by exact rfl) ?_ ?_; rotate_left 2)
    | (refine xr_st (v := ?_) (h' := ?_) (by exact rfl) ?_ ?_; rotate_left 2)
    | (refine aw_ift (by decide) ?_ ?_
       · simp only [ev, Zb, reduceIte, Nat.reduceEqDiff, *])
    | (refine aw_iff (by decide) ?_ ?_
       · simp only [ev, Zb, reduceIte, Nat.reduceEqDiff, *])
    | (refine aw_if (b := ?_) (by decide) ?_ (fun hb => ?_) (fun hb => ?_)
       rotate_left 1
       · simp only [ev, Zb, reduceIte, Nat.reduceEqDiff, *]; rfl)
    | (refine r_ret (vs := ?_) ?_ ?_
       rotate_left 1
       · simp only [resV, ev, Zb, reduceIte, Nat.reduceEqDiff, Zj, *]; rfl)
    | (with_reducible exact within_ok _ _ _ _)
    | ((with_reducible refine Z2w (n := 98) ?_); rintro _ _ ⟨rfl, hh⟩; replace hh := hh.symm; subst hh)
    )
  refine ⟨?_, _, rfl⟩
  rw [wrap_id (by omega)]; rfl

def roleM (p role : Int) : Bool := decide (bits .and .i64 (p.fdiv (2 ^ min role.toNat IntKind.i64.bits)) 1 = 1)

theorem hasRole_ok (now who role : Int) (people : List Int) (vp vi : Value) (h : Heap) (hp : Sl h vp 1 (people.map fun n => [.int .i64 n])) (hi : flat vi = true)
    (hw : 0 ≤ who ∧ who ≤ (people.length : Int) - 1) (hr : 0 ≤ role) :
    ACalls Try.prog 0 99 #[.agg #[.int .i64 now, vp, vi], .int .i64 who, .int .i64 role] h
    fun v h' => v = .bool (roleM (people.getD who.toNat 0) role) ∧ h' = h := by
  refine acalls_pure (.inl rfl) ?_
  obtain ⟨k, rfl⟩ : ∃ k : Nat, who = k := ⟨who.toNat, by omega⟩
  have hk : k < people.length := by omega
  have hk1 : (k : Int) < people.length := by omega
  obtain ⟨b, c, rfl, hc, hrow⟩ := hp
  obtain ⟨a, rfl, hl⟩ := Sl.row hrow (k := k) (by simpa using hk)
  rw [List.getElem_map] at hl
  have hg := getC_old (getC_of_load hl)
  clear hrow
  refine Z36 Try.func99 rfl Try.ntmps99 (by simp) (by dsimp only [Try.f99]) ?_
  repeat' (first
    | ((with_reducible refine eq_go ?_); simp only [stp, ev, Zb, Z2e, Z1z, Zk, Zl, reduceIte, Nat.reduceEqDiff, Zj, Zz, Zu, Z16, Z1a, Zm, Zp, Zo, Zd, Zx, Z2b, Z2x, Z1g, Z17, Zq, Zn, Zv, Z2p, Z2f, Z2o, Z2d, Z2g, Z1c, Z1b, Z2i, Z2n, Z2h, Z2j, Z2k, Z2l, Z2m, Z31, Z8, Z5, Z13, Zy, ldv, fldA, idxA, Zh, Zr, Z33, Z15, Z7, Zc, Z6, Z3, Z2, Zf, Zi, Nat.reduceAdd, Nat.reduceMul, Nat.reduceLeDiff, Z11, Z12, Z1y, Z1h, Z2c, Z23, Z28, Z27, Z26, Z25, Z24, Z1m, Z1l, Z1k, Z1j, Z1i, Z1w, Z1v, Z1u, Z1t, Z1s, Z32, Z2y, Z2q, Z2r, Z2s, Z20, Z1q, Z1r, Z2z, Z2t, Z21, Z22, splice, Za, Z9, Z1, Z0, Z19, Zt, Zs, Z18, newB, vcs, Z30, Z2v, Z1x, Z29, Z1n, Z2u, Z1o, Z1f, Z1p, Z1d, Z1e, Ty.ld3, Ty.sz3, Ty.ld24, Ty.sz24, Ty.sl24, Ty.ld56, Ty.sz56, Ty.sl56, Ty.ld58, Ty.sz58, Ty.fl58_0, Ty.fl58_1, Ty.fl58_2, Ty.ld77, Ty.sz77, Ty.fl77_0, Ty.fl77_1, Ty.fl77_2, Ty.fl77_3, Ty.fl77_4, Ty.fl77_5, *]; rfl)
    | (with_reducible refine aw_then ?_) | (with_reducible refine aw_skip ?_) | (with_reducible refine aw_ret ?_) | (with_reducible refine aw_exit ?_) | (with_reducible refine aw_block ?_) | (with_reducible refine xr_reg (by decide +kernel) ?_)
    | (with_reducible refine xr_nil ?_) | (with_reducible refine k_norm ?_) | (with_reducible refine k_ret ?_) | (with_reducible refine k_exit ?_) | (with_reducible refine b_norm ?_) | (with_reducible refine b_ret ?_) | (with_reducible refine b_exit ?_) | (with_reducible refine b_past (by decide) ?_)
    | (refine xr_do (v := ?_) (h' := ?_) (by exact rfl) ?_ ?_; rotate_left 2)
    | (refine xr_st (v := ?_) (h' := ?_) (by exact rfl) ?_ ?_; rotate_left 2)
    | (refine aw_ift (by decide) ?_ ?_
       · simp only [ev, Zb, reduceIte, Nat.reduceEqDiff, *])
    | (refine aw_iff (by decide) ?_ ?_
       · simp only [ev, Zb, reduceIte, Nat.reduceEqDiff, *])
    | (refine aw_if (b := ?_) (by decide) ?_ (fun hb => ?_) (fun hb => ?_)
       rotate_left 1
       · simp only [ev, Zb, reduceIte, Nat.reduceEqDiff, *]; rfl)
    | (refine r_ret (vs := ?_) ?_ ?_
       rotate_left 1
       · simp only [resV, ev, Zb, reduceIte, Nat.reduceEqDiff, Zj, *]; rfl)
    )
  refine ⟨?_, _, rfl⟩
  simp only [oneOf, roleM, Zq, List.getD_eq_getElem?_getD, List.getElem?_eq_getElem hk, Z14]

def itemOk (now : Int) (people : List Int) (x : Item) : Bool :=
  decide ((0 ≤ x.cas ∧ x.cas ≤ 9) ∧ (0 ≤ x.task ∧ x.task ≤ 5) ∧ (0 ≤ x.role ∧ x.role ≤ 3)) &&
  (if x.state = 1 ∨ x.state = 5 then decide (x.who = -1 ∧ x.till = 0)
   else if x.state = 2 then decide (now + 1 ≤ x.till ∧ x.till ≤ now + 10) && (decide (0 ≤ x.who ∧ x.who ≤ (people.length : Int) - 1) && roleM (people.getD x.who.toNat 0) x.role)
   else if x.state = 3 ∨ x.state = 4 then decide (x.till = 0) && (decide (0 ≤ x.who ∧ x.who ≤ (people.length : Int) - 1) && roleM (people.getD x.who.toNat 0) x.role)
   else false)

theorem isItem_ok (now : Int) (people : List Int) (vp vi : Value) (x : Item) (h : Heap) (hp : Sl h vp 1 (people.map fun n => [.int .i64 n])) (hl : people.length ≤ 6) (hi : flat vi = true)
    (hn : 0 ≤ now ∧ now ≤ 10000) :
    ACalls Try.prog 0 123 #[.agg #[.int .i64 now, vp, vi], .agg x.cells.toArray] h
    fun v h' => v = .bool (itemOk now people x) ∧ h' = h := by
  refine acalls_pure (.inl rfl) ?_
  obtain ⟨cas, task, role, state, who, till⟩ := x
  have hf := hp.flat
  have hw1 : IntKind.i64.wrap (now + 1) = now + 1 := wrap_id (by omega)
  have hw2 : IntKind.i64.wrap (now + 10) = now + 10 := wrap_id (by omega)
  simp only [Item.cells]
  refine Z36 Try.func123 rfl Try.ntmps123 (by simp) (by dsimp only [Try.f123]) ?_
  repeat' (first
    | ((with_reducible refine eq_go ?_); simp only [stp, ev, Zb, Z2e, Z1z, Zk, Zl, reduceIte, Nat.reduceEqDiff, Zj, Zz, Zu, Z16, Z1a, Zm, Zp, Zo, Zd, Zx, Z2b, Z2x, Z1g, Z17, Zq, Zn, Zv, Z2p, Z2f, Z2o, Z2d, Z2g, Z1c, Z1b, Z2i, Z2n, Z2h, Z2j, Z2k, Z2l, Z2m, Z31, Z8, Z5, Z13, Zy, ldv, fldA, blt, lenV, Z10, Z3, Z2, Zf, Zg, Ze, Z1, Z0, Z14, Zw, Zh, Zr, Z33, Z15, Z7, Zc, Z6, Z3, Z2, Zf, Zi, Nat.reduceAdd, Nat.reduceMul, Nat.reduceLeDiff, Z11, Z12, Z1y, Z1h, Z2c, Z23, Z28, Z27, Z26, Z25, Z24, Z1m, Z1l, Z1k, Z1j, Z1i, Z1w, Z1v, Z1u, Z1t, Z1s, Z32, Z2y, Z2q, Z2r, Z2s, Z20, Z1q, Z1r, Z2z, Z2t, Z21, Z22, splice, Za, Z9, Z1, Z0, Z19, Zt, Zs, Z18, newB, vcs, Z30, Z2v, Z1x, Z29, Z1n, Z2u, Z1o, Z1f, Z1p, Z1d, Z1e, Ty.ld3, Ty.sz3, Ty.zc3, Ty.by3, Ty.ld24, Ty.sz24, Ty.sl24, Ty.zc24, Ty.by24, Ty.ld56, Ty.sz56, Ty.sl56, Ty.zc56, Ty.by56, Ty.ld58, Ty.sz58, Ty.zc58, Ty.by58, Ty.fl58_0, Ty.fl58_1, Ty.fl58_2, Ty.ld77, Ty.sz77, Ty.zc77, Ty.by77, Ty.fl77_0, Ty.fl77_1, Ty.fl77_2, Ty.fl77_3, Ty.fl77_4, Ty.fl77_5, *]; rfl)
    | (with_reducible refine aw_then ?_) | (with_reducible refine aw_skip ?_) | (with_reducible refine aw_ret ?_) | (with_reducible refine aw_exit ?_) | (with_reducible refine aw_block ?_) | (with_reducible refine xr_reg (by decide +kernel) ?_)
    | (with_reducible refine xr_nil ?_) | (with_reducible refine k_norm ?_) | (with_reducible refine k_ret ?_) | (with_reducible refine k_exit ?_) | (with_reducible refine b_norm ?_) | (with_reducible refine b_ret ?_) | (with_reducible refine b_exit ?_) | (with_reducible refine b_past (by decide) ?_)
    | (refine xr_cl (f := ?_) (fs := ?_) (cs := ?_) (args := ?_) (K := ?_) ?_ ?_ ?_ ?_ ?_
       rotate_left 5
       · simp only [ev]; rfl
       first
       | (· with_reducible exact Ty.ok97
          rotate_left 2
          refine Z2a 97 ?_
          rotate_right 2)
       | (· with_reducible exact Ty.ok98
          rotate_left 2
          refine Z2a 98 ?_
          rotate_right 2)
       | (· with_reducible exact Ty.ok99
          rotate_left 2
          refine Z2a 99 ?_
          rotate_right 2)
       | (· with_reducible exact Ty.ok135
          rotate_left 2
          refine Z2a 135 ?_
          rotate_right 2)
       )
    | (refine xr_gcl (f := ?_) (fs := ?_) (cs := ?_) (args := ?_) (K := ?_) (by exact rfl) ?_ ?_ ?_ ?_ ?_ ?_
       rotate_left 5
       · simp only [ev, Zb, reduceIte, Nat.reduceEqDiff, Z8, Z5, *]
       · simp only [ev]; rfl
       first
       | (· with_reducible exact Ty.ok97
          rotate_left 2
          refine Z2a 97 ?_
          rotate_right 2)
       | (· with_reducible exact Ty.ok98
          rotate_left 2
          refine Z2a 98 ?_
          rotate_right 2)
       | (· with_reducible exact Ty.ok99
          rotate_left 2
          refine Z2a 99 ?_
          rotate_right 2)
       | (· with_reducible exact Ty.ok135
          rotate_left 2
          refine Z2a 135 ?_
          rotate_right 2)
       )
    | (refine xr_do (v := ?_) (h' := ?_) (by exact rfl) ?_ ?_; rotate_left 2)
    | (refine xr_st (v := ?_) (h' := ?_) (by exact rfl) ?_ ?_; rotate_left 2)
    | (refine xr_gdo (v := ?_) (h' := ?_) (by exact rfl) (by exact rfl) ?_ ?_ ?_
       rotate_left 2
       · simp only [ev, Zb, reduceIte, Nat.reduceEqDiff, Z8, Z5, *])
    | (refine xr_gst (v := ?_) (h' := ?_) (by exact rfl) (by exact rfl) ?_ ?_ ?_
       rotate_left 2
       · simp only [ev, Zb, reduceIte, Nat.reduceEqDiff, Z8, Z5, *])
    | (refine xr_goff (by exact rfl) ?_ ?_
       · simp only [ev, Zb, reduceIte, Nat.reduceEqDiff, Z8, Z5, *])
    | (refine xr_gsoff (by exact rfl) ?_ ?_
       · simp only [ev, Zb, reduceIte, Nat.reduceEqDiff, Z8, Z5, *])
    | (refine xr_gund (by exact rfl) ?_ ?_
       · simp only [ev, Zb, reduceIte, Nat.reduceEqDiff, Z8, Z5, *])
    | (refine xr_gsund (by exact rfl) ?_ ?_
       · simp only [ev, Zb, reduceIte, Nat.reduceEqDiff, Z8, Z5, *])
    | (refine xr_gif (b := ?_) (by exact rfl) ?_ (fun hb => ?_) (fun hb => ?_)
       rotate_left 1
       · simp only [ev, Zb, reduceIte, Nat.reduceEqDiff, Z8, Z5, *]; rfl)
    | (refine aw_ift (by decide) ?_ ?_
       · simp only [ev, Zb, reduceIte, Nat.reduceEqDiff, *])
    | (refine aw_iff (by decide) ?_ ?_
       · simp only [ev, Zb, reduceIte, Nat.reduceEqDiff, *])
    | (refine aw_if (b := ?_) (by decide) ?_ (fun hb => ?_) (fun hb => ?_)
       rotate_left 1
       · simp only [ev, Zb, reduceIte, Nat.reduceEqDiff, *]; rfl)
    | (refine r_ret (vs := ?_) ?_ ?_
       rotate_left 1
       · simp only [resV, ev, Zb, reduceIte, Nat.reduceEqDiff, Zj, *]; rfl)
    | (with_reducible refine isPerson_ok _ _ ?_ _ _ _ ?_ ?_ ?_
       rotate_left 1
       · first | assumption | exact Sl.old (by assumption) _
       · assumption
       · assumption
       )
    | (with_reducible exact within_ok _ _ _ _)
    | (with_reducible refine hasRole_ok _ _ _ ?_ _ _ _ ?_ ?_ ?_ ?_
       rotate_left 1
       · first | assumption | exact Sl.old (by assumption) _
       · assumption
       · grind
       · grind
       )
    | (with_reducible exact isOffer_ok _ _ _ _)
    | ((with_reducible refine Z2w (n := 97) ?_); rintro _ _ ⟨rfl, hh⟩; replace hh := hh.symm; subst hh)
    | ((with_reducible refine Z2w (n := 98) ?_); rintro _ _ ⟨rfl, hh⟩; replace hh := hh.symm; subst hh)
    | ((with_reducible refine Z2w (n := 99) ?_); rintro _ _ ⟨rfl, hh⟩; replace hh := hh.symm; subst hh)
    | ((with_reducible refine Z2w (n := 135) ?_); rintro _ _ ⟨rfl, hh⟩; replace hh := hh.symm; subst hh)
    )
  all_goals refine ⟨?_, _, rfl⟩
  all_goals clear hp hf hw1 hw2 hi
  all_goals simp only [oneOf, itemOk, Bool.not_eq_true', Bool.not_eq_false', decide_eq_true_eq, decide_eq_false_iff_not] at *
  all_goals first | (exfalso; omega) | skip
  all_goals simp [*]
  all_goals first | omega | (intros; exfalso; omega)
end Go.Proofs.Ytiddnhhjlipebaa.Am
namespace Go.Proofs.Ytiddnhhjlipebaa.Am
open Go Go.Proofs
set_option linter.unusedVariables false
set_option linter.unusedSimpArgs false
set_option maxRecDepth 100000
set_option maxHeartbeats 8000000

def idxOf {α : Type} (p : α → Bool) (l : List α) : Int := match l.findIdx? p with | some i => i | none => -1

theorem idxOf_any {α : Type} (p : α → Bool) (l : List α) : decide (0 ≤ idxOf p l) = l.any p := by
  rw [← List.findIdx?_isSome]
  unfold idxOf
  cases l.findIdx? p with
  | none => rfl
  | some i => simp

theorem Item.cells_length (x : Item) : x.cells.length = 6 := rfl
theorem Item.cells_flat (x : Item) : x.cells.all flat = true := rfl
theorem Item.cells_take (x : Item) : x.cells.take 6 = x.cells := rfl

theorem indexFunc_ok (items : List Item) (p : Item → Bool) (v : Value) (g : FuncId) (fs cs : Array Value) (h : Heap) (hs : Sl h v 6 (items.map Item.cells)) (hg : callOk Try.prog g = true)
    (hl : items.length ≤ 1048576) (hp : ∀ x ∈ items, ACalls Try.prog 0 g (fs ++ #[.agg x.cells.toArray] ++ cs) h fun v h' => v = .bool (p x) ∧ h' = h) :
    ACalls Try.prog 0 134 #[v, .func (.func g) fs cs] h
    fun v h' => v = .int .i64 (idxOf p items) ∧ h' = h := by
  obtain ⟨b, c, rfl, hc, hrow⟩ := hs
  refine Z36 Try.func134 rfl Try.ntmps134 (by simp) (by dsimp only [Try.f134]) ?_
  repeat' (first
    | ((with_reducible refine eq_go ?_); simp only [stp, ev, Zb, Z2e, Z1z, Zk, Zl, reduceIte, Nat.reduceEqDiff, Zj, Zz, Zu, Z16, Z1a, Zm, Zp, Zo, Zd, Zx, Z2b, Z2x, Z1g, Z17, Zq, Zn, Zv, Z2p, Z2f, Z2o, Z2d, Z2g, Z1c, Z1b, Z2i, Z2n, Z2h, Z2j, Z2k, Z2l, Z2m, Z31, Z8, Z5, Z13, Zy, ldv, idxA, blt, lenV, Z10, Z3, Z2, Zf, Zg, Ze, Z1, Z0, Z14, Zw, Zh, Zr, Z33, Z15, Z7, Zc, Z6, Z3, Z2, Zf, Zi, Nat.reduceAdd, Nat.reduceMul, Nat.reduceLeDiff, Z11, Z12, Z1y, Z1h, Z2c, Z23, Z28, Z27, Z26, Z25, Z24, Z1m, Z1l, Z1k, Z1j, Z1i, Z1w, Z1v, Z1u, Z1t, Z1s, Z32, Z2y, Z2q, Z2r, Z2s, Z20, Z1q, Z1r, Z2z, Z2t, Z21, Z22, splice, Za, Z9, Z1, Z0, Z19, Zt, Zs, Z18, newB, vcs, Z30, Z2v, Z1x, Z29, Z1n, Z2u, Z1o, Z1f, Z1p, Z1d, Z1e, Ty.ld3, Ty.sz3, Ty.zc3, Ty.by3, Ty.ld56, Ty.sz56, Ty.sl56, Ty.zc56, Ty.by56, Ty.ld77, Ty.sz77, Ty.zc77, Ty.by77, *]; rfl)
    | (with_reducible refine aw_then ?_) | (with_reducible refine aw_skip ?_) | (with_reducible refine aw_ret ?_) | (with_reducible refine aw_exit ?_) | (with_reducible refine aw_block ?_) | (with_reducible refine xr_reg (by decide +kernel) ?_)
    | (with_reducible refine xr_nil ?_) | (with_reducible refine k_norm ?_) | (with_reducible refine k_ret ?_) | (with_reducible refine k_exit ?_) | (with_reducible refine b_norm ?_) | (with_reducible refine b_ret ?_) | (with_reducible refine b_exit ?_) | (with_reducible refine b_past (by decide) ?_)
    | (refine xr_do (v := ?_) (h' := ?_) (by exact rfl) ?_ ?_; rotate_left 2)
    | (refine xr_st (v := ?_) (h' := ?_) (by exact rfl) ?_ ?_; rotate_left 2)
    | (refine aw_ift (by decide) ?_ ?_
       · simp only [ev, Zb, reduceIte, Nat.reduceEqDiff, *])
    | (refine aw_iff (by decide) ?_ ?_
       · simp only [ev, Zb, reduceIte, Nat.reduceEqDiff, *])
    | (refine aw_if (b := ?_) (by decide) ?_ (fun hb => ?_) (fun hb => ?_)
       rotate_left 1
       · simp only [ev, Zb, reduceIte, Nat.reduceEqDiff, *]; rfl)
    | (refine r_ret (vs := ?_) ?_ ?_
       rotate_left 1
       · simp only [resV, ev, Zb, reduceIte, Nat.reduceEqDiff, Zj, *]; rfl)
    )
  refine aw_for [0, 1, 6, 7] (fun k T h' => h' = h ∧ T 8 = .int .i64 k ∧ (items.take k).findIdx? p = none) items.length (k0 := 0) (Nat.zero_le _) ⟨rfl, rfl, rfl⟩ ?_
  rintro k T h' hk hR ⟨rfl, h11, hall⟩
  simp only [Z37, Z38, Z39, implies_true, and_true, stp, ev, Zb, Z2e, Z1z, Zk, Zl, reduceIte, Nat.reduceEqDiff, Zj, Zz, Zu, Z16, Z1a, Zm, Zp, Zo, Zd, Zx, Z2b, Z2x, Z1g, Z17, Zq, Zn, Zv, Z2p, Z2f, Z2o, Z2d, Z2g, Z1c, Z1b, Z2i, Z2n, Z2h, Z2j, Z2k, Z2l, Z2m, Z31, Z8, Z5, Z13, Zy] at hR
  rcases Nat.lt_or_ge k items.length with hkn | hkn
  · have h1 : (k : Int) < items.length := by omega
    obtain ⟨a, rfl, hld⟩ := Sl.row hrow (k := k) (by simpa using hkn)
    rw [List.getElem_map] at hld
    have hpk := hp items[k] (List.getElem_mem hkn)
    repeat' (first
      | ((with_reducible refine eq_go ?_); simp only [stp, ev, Zb, Z2e, Z1z, Zk, Zl, reduceIte, Nat.reduceEqDiff, Zj, Zz, Zu, Z16, Z1a, Zm, Zp, Zo, Zd, Zx, Z2b, Z2x, Z1g, Z17, Zq, Zn, Zv, Z2p, Z2f, Z2o, Z2d, Z2g, Z1c, Z1b, Z2i, Z2n, Z2h, Z2j, Z2k, Z2l, Z2m, Z31, Z8, Z5, Z13, Zy, ldv, idxA, blt, lenV, Z10, Z3, Z2, Zf, Zg, Ze, Z1, Z0, Z14, Zw, Zh, Zr, Z33, Z15, Z7, Zc, Z6, Z3, Z2, Zf, Zi, Nat.reduceAdd, Nat.reduceMul, Nat.reduceLeDiff, Z11, Z12, Z1y, Z1h, Z2c, Z23, Z28, Z27, Z26, Z25, Z24, Z1m, Z1l, Z1k, Z1j, Z1i, Z1w, Z1v, Z1u, Z1t, Z1s, Z32, Z2y, Z2q, Z2r, Z2s, Z20, Z1q, Z1r, Z2z, Z2t, Z21, Z22, splice, Za, Z9, Z1, Z0, Z19, Zt, Zs, Z18, newB, vcs, Z30, Z2v, Z1x, Z29, Z1n, Z2u, Z1o, Z1f, Z1p, Z1d, Z1e, Ty.ld3, Ty.sz3, Ty.zc3, Ty.by3, Ty.ld56, Ty.sz56, Ty.sl56, Ty.zc56, Ty.by56, Ty.ld77, Ty.sz77, Ty.zc77, Ty.by77, *]; rfl)
      | (with_reducible refine aw_then ?_) | (with_reducible refine aw_skip ?_) | (with_reducible refine aw_ret ?_) | (with_reducible refine aw_exit ?_) | (with_reducible refine aw_block ?_) | (with_reducible refine xr_reg (by decide +kernel) ?_)
      | (with_reducible refine xr_nil ?_) | (with_reducible refine k_norm ?_) | (with_reducible refine k_ret ?_) | (with_reducible refine k_exit ?_) | (with_reducible refine b_norm ?_) | (with_reducible refine b_ret ?_) | (with_reducible refine b_exit ?_) | (with_reducible refine b_past (by decide) ?_)
      | (refine xr_do (v := ?_) (h' := ?_) (by exact rfl) ?_ ?_; rotate_left 2)
      | (refine xr_st (v := ?_) (h' := ?_) (by exact rfl) ?_ ?_; rotate_left 2)
      | (refine aw_ift (by decide) ?_ ?_
         · simp only [ev, Zb, reduceIte, Nat.reduceEqDiff, *])
      | (refine aw_iff (by decide) ?_ ?_
         · simp only [ev, Zb, reduceIte, Nat.reduceEqDiff, *])
      | (refine aw_if (b := ?_) (by decide) ?_ (fun hb => ?_) (fun hb => ?_)
         rotate_left 1
         · simp only [ev, Zb, reduceIte, Nat.reduceEqDiff, *]; rfl)
      | (refine r_ret (vs := ?_) ?_ ?_
         rotate_left 1
         · simp only [resV, ev, Zb, reduceIte, Nat.reduceEqDiff, Zj, *]; rfl)
      )
    refine xr_cl (f := g) (fs := fs) (cs := cs) (args := ?_) (K := ?_) ?_ ?_ ?_ ?_ ?_
    rotate_left 2
    · simp only [stp, ev, Zb, Z2e, Z1z, Zk, Zl, reduceIte, Nat.reduceEqDiff, Zj, Zz, Zu, Z16, Z1a, Zm, Zp, Zo, Zd, Zx, Z2b, Z2x, Z1g, Z17, Zq, Zn, Zv, Z2p, Z2f, Z2o, Z2d, Z2g, Z1c, Z1b, Z2i, Z2n, Z2h, Z2j, Z2k, Z2l, Z2m, Z31, Z8, Z5, Z13, Zy, ldv, idxA, blt, lenV, Z10, Z3, Z2, Zf, Zg, Ze, Z1, Z0, Z14, Zw, Zh, Zr, Z33, Z15, Z7, Zc, Z6, Z3, Z2, Zf, Zi, Nat.reduceAdd, Nat.reduceMul, Nat.reduceLeDiff, Z11, Z12, Z1y, Z1h, Z2c, Z23, Z28, Z27, Z26, Z25, Z24, Z1m, Z1l, Z1k, Z1j, Z1i, Z1w, Z1v, Z1u, Z1t, Z1s, Z32, Z2y, Z2q, Z2r, Z2s, Z20, Z1q, Z1r, Z2z, Z2t, Z21, Z22, splice, Za, Z9, Z1, Z0, Z19, Zt, Zs, Z18, newB, vcs, Z30, Z2v, Z1x, Z29, Z1n, Z2u, Z1o, Z1f, Z1p, Z1d, Z1e, Ty.ld3, Ty.sz3, Ty.zc3, Ty.by3, Ty.ld56, Ty.sz56, Ty.sl56, Ty.zc56, Ty.by56, Ty.ld77, Ty.sz77, Ty.zc77, Ty.by77, *]
    · exact hg
    · simp only [stp, ev, Zb, Z2e, Z1z, Zk, Zl, reduceIte, Nat.reduceEqDiff, Zj, Zz, Zu, Z16, Z1a, Zm, Zp, Zo, Zd, Zx, Z2b, Z2x, Z1g, Z17, Zq, Zn, Zv, Z2p, Z2f, Z2o, Z2d, Z2g, Z1c, Z1b, Z2i, Z2n, Z2h, Z2j, Z2k, Z2l, Z2m, Z31, Z8, Z5, Z13, Zy, ldv, idxA, blt, lenV, Z10, Z3, Z2, Zf, Zg, Ze, Z1, Z0, Z14, Zw, Zh, Zr, Z33, Z15, Z7, Zc, Z6, Z3, Z2, Zf, Zi, Nat.reduceAdd, Nat.reduceMul, Nat.reduceLeDiff, Z11, Z12, Z1y, Z1h, Z2c, Z23, Z28, Z27, Z26, Z25, Z24, Z1m, Z1l, Z1k, Z1j, Z1i, Z1w, Z1v, Z1u, Z1t, Z1s, Z32, Z2y, Z2q, Z2r, Z2s, Z20, Z1q, Z1r, Z2z, Z2t, Z21, Z22, splice, Za, Z9, Z1, Z0, Z19, Zt, Zs, Z18, newB, vcs, Z30, Z2v, Z1x, Z29, Z1n, Z2u, Z1o, Z1f, Z1p, Z1d, Z1e, Ty.ld3, Ty.sz3, Ty.zc3, Ty.by3, Ty.ld56, Ty.sz56, Ty.sl56, Ty.zc56, Ty.by56, Ty.ld77, Ty.sz77, Ty.zc77, Ty.by77, *]; rfl
    · exact hpk
    rintro _ _ ⟨rfl, rfl⟩
    repeat' (first
      | ((with_reducible refine eq_go ?_); simp only [stp, ev, Zb, Z2e, Z1z, Zk, Zl, reduceIte, Nat.reduceEqDiff, Zj, Zz, Zu, Z16, Z1a, Zm, Zp, Zo, Zd, Zx, Z2b, Z2x, Z1g, Z17, Zq, Zn, Zv, Z2p, Z2f, Z2o, Z2d, Z2g, Z1c, Z1b, Z2i, Z2n, Z2h, Z2j, Z2k, Z2l, Z2m, Z31, Z8, Z5, Z13, Zy, ldv, idxA, blt, lenV, Z10, Z3, Z2, Zf, Zg, Ze, Z1, Z0, Z14, Zw, Zh, Zr, Z33, Z15, Z7, Zc, Z6, Z3, Z2, Zf, Zi, Nat.reduceAdd, Nat.reduceMul, Nat.reduceLeDiff, Z11, Z12, Z1y, Z1h, Z2c, Z23, Z28, Z27, Z26, Z25, Z24, Z1m, Z1l, Z1k, Z1j, Z1i, Z1w, Z1v, Z1u, Z1t, Z1s, Z32, Z2y, Z2q, Z2r, Z2s, Z20, Z1q, Z1r, Z2z, Z2t, Z21, Z22, splice, Za, Z9, Z1, Z0, Z19, Zt, Zs, Z18, newB, vcs, Z30, Z2v, Z1x, Z29, Z1n, Z2u, Z1o, Z1f, Z1p, Z1d, Z1e, Ty.ld3, Ty.sz3, Ty.zc3, Ty.by3, Ty.ld56, Ty.sz56, Ty.sl56, Ty.zc56, Ty.by56, Ty.ld77, Ty.sz77, Ty.zc77, Ty.by77, *]; rfl)
      | (with_reducible refine aw_then ?_) | (with_reducible refine aw_skip ?_) | (with_reducible refine aw_ret ?_) | (with_reducible refine aw_exit ?_) | (with_reducible refine aw_block ?_) | (with_reducible refine xr_reg (by decide +kernel) ?_)
      | (with_reducible refine xr_nil ?_) | (with_reducible refine k_norm ?_) | (with_reducible refine k_ret ?_) | (with_reducible refine k_exit ?_) | (with_reducible refine b_norm ?_) | (with_reducible refine b_ret ?_) | (with_reducible refine b_exit ?_) | (with_reducible refine b_past (by decide) ?_)
      | (refine xr_do (v := ?_) (h' := ?_) (by exact rfl) ?_ ?_; rotate_left 2)
      | (refine xr_st (v := ?_) (h' := ?_) (by exact rfl) ?_ ?_; rotate_left 2)
      | (refine aw_ift (by decide) ?_ ?_
         · simp only [ev, Zb, reduceIte, Nat.reduceEqDiff, *])
      | (refine aw_iff (by decide) ?_ ?_
         · simp only [ev, Zb, reduceIte, Nat.reduceEqDiff, *])
      | (refine aw_if (b := ?_) (by decide) ?_ (fun hb => ?_) (fun hb => ?_)
         rotate_left 1
         · simp only [ev, Zb, reduceIte, Nat.reduceEqDiff, *]; rfl)
      | (refine r_ret (vs := ?_) ?_ ?_
         rotate_left 1
         · simp only [resV, ev, Zb, reduceIte, Nat.reduceEqDiff, Zj, *]; rfl)
      )
    · refine ⟨?_, rfl⟩
      have hb' : p items[k] = true := by simpa using hb
      have : items.findIdx? p = some k := by
        have e : items = items.take k ++ items[k] :: items.drop (k + 1) := by rw [← List.drop_eq_getElem_cons hkn, List.take_append_drop]
        rw [e, List.findIdx?_append, hall, List.findIdx?_cons, hb']
        simp [Nat.min_eq_left (Nat.le_of_lt hkn)]
      simp only [oneOf, idxOf, this]
    refine ⟨by first | assumption | omega, ?_, ?_⟩
    · simp only [Z37, Z38, Z39, implies_true, and_true, Z2b, stp, ev, Zb, Z2e, Z1z, Zk, Zl, reduceIte, Nat.reduceEqDiff, Zj, Zz, Zu, Z16, Z1a, Zm, Zp, Zo, Zd, Zx, Z2b, Z2x, Z1g, Z17, Zq, Zn, Zv, Z2p, Z2f, Z2o, Z2d, Z2g, Z1c, Z1b, Z2i, Z2n, Z2h, Z2j, Z2k, Z2l, Z2m, Z31, Z8, Z5, Z13, Zy, *]
    refine ⟨rfl, ?_, ?_⟩
    · simp only [Zb, reduceIte, Nat.reduceEqDiff]
      rw [wrap_id (by omega)]; rfl
    · rw [← List.take_append_getElem hkn, List.findIdx?_append, hall]
      simp [List.findIdx?_cons, hb]
  · have h1 : ¬ (k : Int) < items.length := by omega
    repeat' (first
      | ((with_reducible refine eq_go ?_); simp only [stp, ev, Zb, Z2e, Z1z, Zk, Zl, reduceIte, Nat.reduceEqDiff, Zj, Zz, Zu, Z16, Z1a, Zm, Zp, Zo, Zd, Zx, Z2b, Z2x, Z1g, Z17, Zq, Zn, Zv, Z2p, Z2f, Z2o, Z2d, Z2g, Z1c, Z1b, Z2i, Z2n, Z2h, Z2j, Z2k, Z2l, Z2m, Z31, Z8, Z5, Z13, Zy, ldv, idxA, blt, lenV, Z10, Z3, Z2, Zf, Zg, Ze, Z1, Z0, Z14, Zw, Zh, Zr, Z33, Z15, Z7, Zc, Z6, Z3, Z2, Zf, Zi, Nat.reduceAdd, Nat.reduceMul, Nat.reduceLeDiff, Z11, Z12, Z1y, Z1h, Z2c, Z23, Z28, Z27, Z26, Z25, Z24, Z1m, Z1l, Z1k, Z1j, Z1i, Z1w, Z1v, Z1u, Z1t, Z1s, Z32, Z2y, Z2q, Z2r, Z2s, Z20, Z1q, Z1r, Z2z, Z2t, Z21, Z22, splice, Za, Z9, Z1, Z0, Z19, Zt, Zs, Z18, newB, vcs, Z30, Z2v, Z1x, Z29, Z1n, Z2u, Z1o, Z1f, Z1p, Z1d, Z1e, Ty.ld3, Ty.sz3, Ty.zc3, Ty.by3, Ty.ld56, Ty.sz56, Ty.sl56, Ty.zc56, Ty.by56, Ty.ld77, Ty.sz77, Ty.zc77, Ty.by77, *]; rfl)
      | (with_reducible refine aw_then ?_) | (with_reducible refine aw_skip ?_) | (with_reducible refine aw_ret ?_) | (with_reducible refine aw_exit ?_) | (with_reducible refine aw_block ?_) | (with_reducible refine xr_reg (by decide +kernel) ?_)
      | (with_reducible refine xr_nil ?_) | (with_reducible refine k_norm ?_) | (with_reducible refine k_ret ?_) | (with_reducible refine k_exit ?_) | (with_reducible refine b_norm ?_) | (with_reducible refine b_ret ?_) | (with_reducible refine b_exit ?_) | (with_reducible refine b_past (by decide) ?_)
      | (refine xr_do (v := ?_) (h' := ?_) (by exact rfl) ?_ ?_; rotate_left 2)
      | (refine xr_st (v := ?_) (h' := ?_) (by exact rfl) ?_ ?_; rotate_left 2)
      | (refine aw_ift (by decide) ?_ ?_
         · simp only [ev, Zb, reduceIte, Nat.reduceEqDiff, *])
      | (refine aw_iff (by decide) ?_ ?_
         · simp only [ev, Zb, reduceIte, Nat.reduceEqDiff, *])
      | (refine aw_if (b := ?_) (by decide) ?_ (fun hb => ?_) (fun hb => ?_)
         rotate_left 1
         · simp only [ev, Zb, reduceIte, Nat.reduceEqDiff, *]; rfl)
      | (refine r_ret (vs := ?_) ?_ ?_
         rotate_left 1
         · simp only [resV, ev, Zb, reduceIte, Nat.reduceEqDiff, Zj, *]; rfl)
      )
    refine ⟨?_, rfl⟩
    rw [List.take_of_length_le hkn] at hall
    simp only [oneOf, idxOf, hall]

theorem containsFunc_ok (items : List Item) (p : Item → Bool) (v : Value) (g : FuncId) (fs cs : Array Value) (h : Heap) (hs : Sl h v 6 (items.map Item.cells)) (hg : callOk Try.prog g = true)
    (hl : items.length ≤ 1048576) (hp : ∀ x ∈ items, ACalls Try.prog 0 g (fs ++ #[.agg x.cells.toArray] ++ cs) h fun v h' => v = .bool (p x) ∧ h' = h) :
    ACalls Try.prog 0 121 #[v, .func (.func g) fs cs] h
    fun v h' => v = .bool (items.any p) ∧ h' = h := by
  refine Z36 Try.func121 rfl Try.ntmps121 (by simp) (by dsimp only [Try.f121]) ?_
  repeat' (first
    | ((with_reducible refine eq_go ?_); simp only [stp, ev, Zb, Z2e, Z1z, Zk, Zl, reduceIte, Nat.reduceEqDiff, Zj, Zz, Zu, Z16, Z1a, Zm, Zp, Zo, Zd, Zx, Z2b, Z2x, Z1g, Z17, Zq, Zn, Zv, Z2p, Z2f, Z2o, Z2d, Z2g, Z1c, Z1b, Z2i, Z2n, Z2h, Z2j, Z2k, Z2l, Z2m, Z31, Z8, Z5, Z13, Zy, blt, lenV, Z10, Z3, Z2, Zf, Zg, Ze, Z1, Z0, Z14, Zw, Ty.sz3, Ty.zc3, Ty.by3, Ty.sz56, Ty.sl56, Ty.zc56, Ty.by56, Ty.sz77, Ty.zc77, Ty.by77, Ty.sz122, Ty.zc122, Ty.by122, *]; rfl)
    | (with_reducible refine aw_then ?_) | (with_reducible refine aw_skip ?_) | (with_reducible refine aw_ret ?_) | (with_reducible refine aw_exit ?_) | (with_reducible refine aw_block ?_) | (with_reducible refine xr_reg (by decide +kernel) ?_)
    | (with_reducible refine xr_nil ?_) | (with_reducible refine k_norm ?_) | (with_reducible refine k_ret ?_) | (with_reducible refine k_exit ?_) | (with_reducible refine b_norm ?_) | (with_reducible refine b_ret ?_) | (with_reducible refine b_exit ?_) | (with_reducible refine b_past (by decide) ?_)
    | (refine xr_cl (f := ?_) (fs := ?_) (cs := ?_) (args := ?_) (K := ?_) ?_ ?_ ?_ ?_ ?_
       rotate_left 5
       · simp only [ev]; rfl
       first
       | (· with_reducible exact Ty.ok134
          rotate_left 2
          refine Z2a 134 ?_
          rotate_right 2)
       )
    | (refine xr_do (v := ?_) (h' := ?_) (by exact rfl) ?_ ?_; rotate_left 2)
    | (refine xr_st (v := ?_) (h' := ?_) (by exact rfl) ?_ ?_; rotate_left 2)
    | (refine aw_ift (by decide) ?_ ?_
       · simp only [ev, Zb, reduceIte, Nat.reduceEqDiff, *])
    | (refine aw_iff (by decide) ?_ ?_
       · simp only [ev, Zb, reduceIte, Nat.reduceEqDiff, *])
    | (refine aw_if (b := ?_) (by decide) ?_ (fun hb => ?_) (fun hb => ?_)
       rotate_left 1
       · simp only [ev, Zb, reduceIte, Nat.reduceEqDiff, *]; rfl)
    | (refine r_ret (vs := ?_) ?_ ?_
       rotate_left 1
       · simp only [resV, ev, Zb, reduceIte, Nat.reduceEqDiff, Zj, *]; rfl)
    | (with_reducible refine indexFunc_ok ?_ ?_ _ _ _ _ _ ?_ ?_ ?_ ?_
       rotate_left 2
       · first | assumption | exact Sl.old (by assumption) _
       · assumption
       · first | omega | (simp only [Z2]; omega)
       · assumption
       )
    | ((with_reducible refine Z2w (n := 134) ?_); rintro _ _ ⟨rfl, hh⟩; replace hh := hh.symm; subst hh)
    )
  refine ⟨?_, rfl⟩
  rw [idxOf_any]; rfl

theorem isDesk1_ok (now : Int) (people : List Int) (vp vi : Value) (x : Item) (h : Heap) (id : Nat) (hb0 : ∀ l, loadCs (h ++ l) id 0 3 = some [.int .i64 now, vp, vi])
    (hp : Sl h vp 1 (people.map fun n => [.int .i64 n])) (hl : people.length ≤ 6) (hi : flat vi = true) (hn : 0 ≤ now ∧ now ≤ 10000) :
    ACalls Try.prog 0 122 #[.agg x.cells.toArray, .pointer (some ⟨id, 0, none⟩)] h
    fun v h' => v = .bool (!itemOk now people x) ∧ h' = h := by
  refine acalls_pure (.inl rfl) ?_
  refine Z36 Try.func122 rfl Try.ntmps122 (by simp) (by dsimp only [Try.f122]) ?_
  repeat' (first
    | ((with_reducible refine eq_go ?_); simp only [stp, ev, Zb, Z2e, Z1z, Zk, Zl, reduceIte, Nat.reduceEqDiff, Zj, Zz, Zu, Z16, Z1a, Zm, Zp, Zo, Zd, Zx, Z2b, Z2x, Z1g, Z17, Zq, Zn, Zv, Z2p, Z2f, Z2o, Z2d, Z2g, Z1c, Z1b, Z2i, Z2n, Z2h, Z2j, Z2k, Z2l, Z2m, Z31, Z8, Z5, Z13, Zy, ldv, blt, lenV, Z10, Z3, Z2, Zf, Zg, Ze, Z1, Z0, Z14, Zw, Zh, Zr, Z33, Z15, Z7, Zc, Z6, Z3, Z2, Zf, Zi, Nat.reduceAdd, Nat.reduceMul, Nat.reduceLeDiff, Z11, Z12, Z1y, Z1h, Z2c, Z23, Z28, Z27, Z26, Z25, Z24, Z1m, Z1l, Z1k, Z1j, Z1i, Z1w, Z1v, Z1u, Z1t, Z1s, Z32, Z2y, Z2q, Z2r, Z2s, Z20, Z1q, Z1r, Z2z, Z2t, Z21, Z22, splice, Za, Z9, Z1, Z0, Z19, Zt, Zs, Z18, newB, vcs, Z30, Z2v, Z1x, Z29, Z1n, Z2u, Z1o, Z1f, Z1p, Z1d, Z1e, Ty.ld3, Ty.sz3, Ty.zc3, Ty.by3, Ty.ld24, Ty.sz24, Ty.sl24, Ty.zc24, Ty.by24, Ty.ld56, Ty.sz56, Ty.sl56, Ty.zc56, Ty.by56, Ty.ld58, Ty.sz58, Ty.zc58, Ty.by58, Ty.ld77, Ty.sz77, Ty.zc77, Ty.by77, Item.cells_length, Item.cells_flat, Item.cells_take, *]; rfl)
    | (with_reducible refine aw_then ?_) | (with_reducible refine aw_skip ?_) | (with_reducible refine aw_ret ?_) | (with_reducible refine aw_exit ?_) | (with_reducible refine aw_block ?_) | (with_reducible refine xr_reg (by decide +kernel) ?_)
    | (with_reducible refine xr_nil ?_) | (with_reducible refine k_norm ?_) | (with_reducible refine k_ret ?_) | (with_reducible refine k_exit ?_) | (with_reducible refine b_norm ?_) | (with_reducible refine b_ret ?_) | (with_reducible refine b_exit ?_) | (with_reducible refine b_past (by decide) ?_)
    | (refine xr_cl (f := ?_) (fs := ?_) (cs := ?_) (args := ?_) (K := ?_) ?_ ?_ ?_ ?_ ?_
       rotate_left 5
       · simp only [ev]; rfl
       first
       | (· with_reducible exact Ty.ok123
          rotate_left 2
          refine Z2a 123 ?_
          rotate_right 2)
       )
    | (refine xr_do (v := ?_) (h' := ?_) (by exact rfl) ?_ ?_; rotate_left 2)
    | (refine xr_st (v := ?_) (h' := ?_) (by exact rfl) ?_ ?_; rotate_left 2)
    | (refine aw_ift (by decide) ?_ ?_
       · simp only [ev, Zb, reduceIte, Nat.reduceEqDiff, *])
    | (refine aw_iff (by decide) ?_ ?_
       · simp only [ev, Zb, reduceIte, Nat.reduceEqDiff, *])
    | (refine aw_if (b := ?_) (by decide) ?_ (fun hb => ?_) (fun hb => ?_)
       rotate_left 1
       · simp only [ev, Zb, reduceIte, Nat.reduceEqDiff, *]; rfl)
    | (refine r_ret (vs := ?_) ?_ ?_
       rotate_left 1
       · simp only [resV, ev, Zb, reduceIte, Nat.reduceEqDiff, Zj, *]; rfl)
    | (with_reducible refine isItem_ok _ ?_ _ _ _ _ ?_ ?_ ?_ ?_
       rotate_left 1
       · first | assumption | exact Sl.old (by assumption) _
       · assumption
       · assumption
       · first | omega | (simp only [Z2]; omega)
       )
    | ((with_reducible refine Z2w (n := 123) ?_); rintro _ _ ⟨rfl, hh⟩; replace hh := hh.symm; subst hh)
    )
  exact ⟨rfl, _, rfl⟩

def deskOk (now : Int) (people : List Int) (items : List Item) : Bool :=
  decide (0 ≤ now ∧ now ≤ 10000) && (decide (1 ≤ (people.length : Int) ∧ (people.length : Int) ≤ 6) && (people.all (fun n => decide (0 ≤ n ∧ n ≤ 15)) &&
    (decide ((items.length : Int) ≤ 40) && items.all (itemOk now people))))

theorem isDesk_ok (now : Int) (people : List Int) (items : List Item) (vp vi : Value) (h : Heap) (hp : Sl h vp 1 (people.map fun n => [.int .i64 n])) (hi : Sl h vi 6 (items.map Item.cells))
    (hl : people.length ≤ 1048576) (hl2 : items.length ≤ 1048576) :
    ACalls Try.prog 0 94 #[.agg #[.int .i64 now, vp, vi]] h
    fun v h' => v = .bool (deskOk now people items) ∧ h' = h := by
  refine acalls_pure (.inl rfl) ?_
  have hp' := hp
  have hi' := hi
  obtain ⟨b, c, rfl, hc, hrow⟩ := hp
  obtain ⟨b2, c2, rfl, hc2, hrow2⟩ := hi
  simp only [Zv] at hp' hi' ⊢
  clear hrow hrow2
  refine Z36 Try.func94 rfl Try.ntmps94 (by simp) (by dsimp only [Try.f94]) ?_
  repeat' (first
    | ((with_reducible refine eq_go ?_); simp only [stp, ev, Zb, Z2e, Z1z, Zk, Zl, reduceIte, Nat.reduceEqDiff, Zj, Zz, Zu, Z16, Z1a, Zm, Zp, Zo, Zd, Zx, Z2b, Z2x, Z1g, Z17, Zq, Zn, Zv, Z2p, Z2f, Z2o, Z2d, Z2g, Z1c, Z1b, Z2i, Z2n, Z2h, Z2j, Z2k, Z2l, Z2m, Z31, Z8, Z5, Z13, Zy, ldv, fldA, blt, lenV, Z10, Z3, Z2, Zf, Zg, Ze, Z1, Z0, Z14, Zw, Zh, Zr, Z33, Z15, Z7, Zc, Z6, Z3, Z2, Zf, Zi, Nat.reduceAdd, Nat.reduceMul, Nat.reduceLeDiff, Z11, Z12, Z1y, Z1h, Z2c, Z23, Z28, Z27, Z26, Z25, Z24, Z1m, Z1l, Z1k, Z1j, Z1i, Z1w, Z1v, Z1u, Z1t, Z1s, Z32, Z2y, Z2q, Z2r, Z2s, Z20, Z1q, Z1r, Z2z, Z2t, Z21, Z22, splice, Za, Z9, Z1, Z0, Z19, Zt, Zs, Z18, newB, vcs, Z30, Z2v, Z1x, Z29, Z1n, Z2u, Z1o, Z1f, Z1p, Z1d, Z1e, Ty.ld3, Ty.sz3, Ty.zc3, Ty.by3, Ty.ld24, Ty.sz24, Ty.sl24, Ty.zc24, Ty.by24, Ty.ld56, Ty.sz56, Ty.sl56, Ty.zc56, Ty.by56, Ty.ld58, Ty.sz58, Ty.zc58, Ty.by58, Ty.fl58_0, Ty.fl58_1, Ty.fl58_2, Ty.ld77, Ty.sz77, Ty.zc77, Ty.by77, Ty.fl77_0, Ty.fl77_1, Ty.fl77_2, Ty.fl77_3, Ty.fl77_4, Ty.fl77_5, Ty.ld122, Ty.sz122, Ty.zc122, Ty.by122, *]; rfl)
    | (with_reducible refine aw_then ?_) | (with_reducible refine aw_skip ?_) | (with_reducible refine aw_ret ?_) | (with_reducible refine aw_exit ?_) | (with_reducible refine aw_block ?_) | (with_reducible refine xr_reg (by decide +kernel) ?_)
    | (with_reducible refine xr_nil ?_) | (with_reducible refine k_norm ?_) | (with_reducible refine k_ret ?_) | (with_reducible refine k_exit ?_) | (with_reducible refine b_norm ?_) | (with_reducible refine b_ret ?_) | (with_reducible refine b_exit ?_) | (with_reducible refine b_past (by decide) ?_)
    | (refine xr_cl (f := ?_) (fs := ?_) (cs := ?_) (args := ?_) (K := ?_) ?_ ?_ ?_ ?_ ?_
       rotate_left 5
       · simp only [ev]; rfl
       first
       | (· with_reducible exact Ty.ok98
          rotate_left 2
          refine Z2a 98 ?_
          rotate_right 2)
       | (· with_reducible exact Ty.ok120
          rotate_left 2
          refine Z2a 120 ?_
          rotate_right 2)
       | (· with_reducible exact Ty.ok121
          rotate_left 2
          refine Z2a 121 ?_
          rotate_right 2)
       )
    | (refine xr_gcl (f := ?_) (fs := ?_) (cs := ?_) (args := ?_) (K := ?_) (by exact rfl) ?_ ?_ ?_ ?_ ?_ ?_
       rotate_left 5
       · simp only [ev, Zb, reduceIte, Nat.reduceEqDiff, Z8, Z5, *]
       · simp only [ev]; rfl
       first
       | (· with_reducible exact Ty.ok98
          rotate_left 2
          refine Z2a 98 ?_
          rotate_right 2)
       | (· with_reducible exact Ty.ok120
          rotate_left 2
          refine Z2a 120 ?_
          rotate_right 2)
       | (· with_reducible exact Ty.ok121
          rotate_left 2
          refine Z2a 121 ?_
          rotate_right 2)
       )
    | (refine xr_do (v := ?_) (h' := ?_) (by exact rfl) ?_ ?_; rotate_left 2)
    | (refine xr_st (v := ?_) (h' := ?_) (by exact rfl) ?_ ?_; rotate_left 2)
    | (refine xr_gdo (v := ?_) (h' := ?_) (by exact rfl) (by exact rfl) ?_ ?_ ?_
       rotate_left 2
       · simp only [ev, Zb, reduceIte, Nat.reduceEqDiff, Z8, Z5, *])
    | (refine xr_gst (v := ?_) (h' := ?_) (by exact rfl) (by exact rfl) ?_ ?_ ?_
       rotate_left 2
       · simp only [ev, Zb, reduceIte, Nat.reduceEqDiff, Z8, Z5, *])
    | (refine xr_goff (by exact rfl) ?_ ?_
       · simp only [ev, Zb, reduceIte, Nat.reduceEqDiff, Z8, Z5, *])
    | (refine xr_gsoff (by exact rfl) ?_ ?_
       · simp only [ev, Zb, reduceIte, Nat.reduceEqDiff, Z8, Z5, *])
    | (refine xr_gund (by exact rfl) ?_ ?_
       · simp only [ev, Zb, reduceIte, Nat.reduceEqDiff, Z8, Z5, *])
    | (refine xr_gsund (by exact rfl) ?_ ?_
       · simp only [ev, Zb, reduceIte, Nat.reduceEqDiff, Z8, Z5, *])
    | (refine xr_gif (b := ?_) (by exact rfl) ?_ (fun hb => ?_) (fun hb => ?_)
       rotate_left 1
       · simp only [ev, Zb, reduceIte, Nat.reduceEqDiff, Z8, Z5, *]; rfl)
    | (refine aw_ift (by decide) ?_ ?_
       · simp only [ev, Zb, reduceIte, Nat.reduceEqDiff, *])
    | (refine aw_iff (by decide) ?_ ?_
       · simp only [ev, Zb, reduceIte, Nat.reduceEqDiff, *])
    | (refine aw_if (b := ?_) (by decide) ?_ (fun hb => ?_) (fun hb => ?_)
       rotate_left 1
       · simp only [ev, Zb, reduceIte, Nat.reduceEqDiff, *]; rfl)
    | (refine r_ret (vs := ?_) ?_ ?_
       rotate_left 1
       · simp only [resV, ev, Zb, reduceIte, Nat.reduceEqDiff, Zj, *]; rfl)
    | (with_reducible exact within_ok _ _ _ _)
    | (with_reducible refine allWithin_ok ?_ _ _ _ _ ?_ ?_
       rotate_left 1
       · first | assumption | exact Sl.old (by assumption) _
       · first | omega | (simp only [Z2]; omega)
       )
    | (with_reducible refine containsFunc_ok items (fun x => !itemOk now people x) _ _ _ _ _ ?_ ?_ ?_ ?_
       · exact Sl.old hi' _
       · exact Ty.ok122
       · assumption
       · exact fun x hx => isDesk1_ok now people _ _ x _ _ (fun l => by simp only [Z7, Zc, Zd, Z20, Z1q]; rfl) (Sl.old hp' _) (by grind) rfl (by grind)
       )
    | ((with_reducible refine Z2w (n := 98) ?_); rintro _ _ ⟨rfl, hh⟩; replace hh := hh.symm; subst hh)
    | ((with_reducible refine Z2w (n := 120) ?_); rintro _ _ ⟨rfl, hh⟩; replace hh := hh.symm; subst hh)
    | ((with_reducible refine Z2w (n := 121) ?_); rintro _ _ ⟨rfl, hh⟩; replace hh := hh.symm; subst hh)
    )
  all_goals refine ⟨?_, _, rfl⟩
  all_goals clear hp' hi'
  all_goals simp only [oneOf, deskOk, List.not_any_eq_all_not, Bool.not_not, *, Bool.true_and, Bool.false_and, Bool.and_false]
theorem deskOk_people {now : Int} {people : List Int} {items : List Item} (h : deskOk now people items = true) : people.length ≤ 6 := by
  simp only [deskOk, Bool.and_eq_true, decide_eq_true_eq] at h
  omega

theorem deskOk_people1 {now : Int} {people : List Int} {items : List Item} (h : deskOk now people items = true) : 1 ≤ people.length := by
  simp only [deskOk, Bool.and_eq_true, decide_eq_true_eq] at h
  omega

end Go.Proofs.Ytiddnhhjlipebaa.Am
namespace Go.Proofs.Ytiddnhhjlipebaa.Am
open Go Go.Proofs
set_option linter.unusedVariables false
set_option linter.unusedSimpArgs false
set_option maxRecDepth 100000
set_option maxHeartbeats 8000000

theorem l1In_ok (n lo hi : Int) (h : Heap) : ACalls Try.prog 0 84 #[.int .i64 n, .int .i64 lo, .int .i64 hi] h
    fun v h' => v = .bool (decide (lo ≤ n ∧ n ≤ hi)) ∧ h' = h := by
  refine Z36 Try.func84 rfl Try.ntmps84 (by simp) (by dsimp only [Try.f84]) ?_
  repeat' (first
    | ((with_reducible refine eq_go ?_); simp only [stp, ev, Zb, Z2e, Z1z, Zk, Zl, reduceIte, Nat.reduceEqDiff, Zj, Zz, Zu, Z16, Z1a, Zm, Zp, Zo, Zd, Zx, Z2b, Z2x, Z1g, Z17, Zq, Zn, Zv, Z2p, Z2f, Z2o, Z2d, Z2g, Z1c, Z1b, Z2i, Z2n, Z2h, Z2j, Z2k, Z2l, Z2m, Z31, Z8, Z5, Z13, Zy, *]; rfl)
    | (with_reducible refine aw_then ?_) | (with_reducible refine aw_skip ?_) | (with_reducible refine aw_ret ?_) | (with_reducible refine aw_exit ?_) | (with_reducible refine aw_block ?_) | (with_reducible refine xr_reg (by decide +kernel) ?_)
    | (with_reducible refine xr_nil ?_) | (with_reducible refine k_norm ?_) | (with_reducible refine k_ret ?_) | (with_reducible refine k_exit ?_) | (with_reducible refine b_norm ?_) | (with_reducible refine b_ret ?_) | (with_reducible refine b_exit ?_) | (with_reducible refine b_past (by decide) ?_)
    | (refine xr_do (v := ?_) (h' := ?_) (by exact rfl) ?_ ?_; rotate_left 2)
    | (refine xr_st (v := ?_) (h' := ?_) (by exact rfl) ?_ ?_; rotate_left 2)
    | (refine xr_gdo (v := ?_) (h' := ?_) (by exact rfl) (by exact rfl) ?_ ?_ ?_
       rotate_left 2
       · simp only [ev, Zb, reduceIte, Nat.reduceEqDiff, Z8, Z5, *])
    | (refine xr_gst (v := ?_) (h' := ?_) (by exact rfl) (by exact rfl) ?_ ?_ ?_
       rotate_left 2
       · simp only [ev, Zb, reduceIte, Nat.reduceEqDiff, Z8, Z5, *])
    | (refine xr_goff (by exact rfl) ?_ ?_
       · simp only [ev, Zb, reduceIte, Nat.reduceEqDiff, Z8, Z5, *])
    | (refine xr_gsoff (by exact rfl) ?_ ?_
       · simp only [ev, Zb, reduceIte, Nat.reduceEqDiff, Z8, Z5, *])
    | (refine xr_gund (by exact rfl) ?_ ?_
       · simp only [ev, Zb, reduceIte, Nat.reduceEqDiff, Z8, Z5, *])
    | (refine xr_gsund (by exact rfl) ?_ ?_
       · simp only [ev, Zb, reduceIte, Nat.reduceEqDiff, Z8, Z5, *])
    | (refine xr_gif (b := ?_) (by exact rfl) ?_ (fun hb => ?_) (fun hb => ?_)
       rotate_left 1
       · simp only [ev, Zb, reduceIte, Nat.reduceEqDiff, Z8, Z5, *]; rfl)
    | (refine aw_ift (by decide) ?_ ?_
       · simp only [ev, Zb, reduceIte, Nat.reduceEqDiff, *])
    | (refine aw_iff (by decide) ?_ ?_
       · simp only [ev, Zb, reduceIte, Nat.reduceEqDiff, *])
    | (refine aw_if (b := ?_) (by decide) ?_ (fun hb => ?_) (fun hb => ?_)
       rotate_left 1
       · simp only [ev, Zb, reduceIte, Nat.reduceEqDiff, *]; rfl)
    | (refine r_ret (vs := ?_) ?_ ?_
       rotate_left 1
       · simp only [resV, ev, Zb, reduceIte, Nat.reduceEqDiff, Zj, *]; rfl)
    )
  all_goals refine ⟨?_, rfl⟩
  all_goals simp_all [oneOf]
  all_goals omega

theorem l1All_ok (l : List Int) (lo hi : Int) (h : Heap) (v : Value) (hs : Sl h v 1 (l.map fun n => [.int .i64 n])) (hb : l.length < 9223372036854775807) :
    ACalls Try.prog 0 117 #[v, .int .i64 lo, .int .i64 hi] h
    fun v h' => v = .bool (l.all fun n => decide (lo ≤ n ∧ n ≤ hi)) ∧ h' = h := by
  obtain ⟨b, c, rfl, hc, hrow⟩ := hs
  refine Z36 Try.func117 rfl Try.ntmps117 (by simp) (by dsimp only [Try.f117]) ?_
  repeat' (first
    | ((with_reducible refine eq_go ?_); simp only [stp, ev, Zb, Z2e, Z1z, Zk, Zl, reduceIte, Nat.reduceEqDiff, Zj, Zz, Zu, Z16, Z1a, Zm, Zp, Zo, Zd, Zx, Z2b, Z2x, Z1g, Z17, Zq, Zn, Zv, Z2p, Z2f, Z2o, Z2d, Z2g, Z1c, Z1b, Z2i, Z2n, Z2h, Z2j, Z2k, Z2l, Z2m, Z31, Z8, Z5, Z13, Zy, ldv, idxA, blt, lenV, Z10, Z3, Z2, Zf, Zg, Ze, Z1, Z0, Z14, Zw, Zh, Zr, Z33, Z15, Z7, Zc, Z6, Z3, Z2, Zf, Zi, Nat.reduceAdd, Nat.reduceMul, Nat.reduceLeDiff, Z11, Z12, Z1y, Z1h, Z2c, Z23, Z28, Z27, Z26, Z25, Z24, Z1m, Z1l, Z1k, Z1j, Z1i, Z1w, Z1v, Z1u, Z1t, Z1s, Z32, Z2y, Z2q, Z2r, Z2s, Z20, Z1q, Z1r, Z2z, Z2t, Z21, Z22, splice, Za, Z9, Z1, Z0, Z19, Zt, Zs, Z18, newB, vcs, Z30, Z2v, Z1x, Z29, Z1n, Z2u, Z1o, Z1f, Z1p, Z1d, Z1e, Ty.ld3, Ty.sz3, Ty.zc3, Ty.by3, Ty.ld24, Ty.sz24, Ty.sl24, Ty.zc24, Ty.by24, *]; rfl)
    | (with_reducible refine aw_then ?_) | (with_reducible refine aw_skip ?_) | (with_reducible refine aw_ret ?_) | (with_reducible refine aw_exit ?_) | (with_reducible refine aw_block ?_) | (with_reducible refine xr_reg (by decide +kernel) ?_)
    | (with_reducible refine xr_nil ?_) | (with_reducible refine k_norm ?_) | (with_reducible refine k_ret ?_) | (with_reducible refine k_exit ?_) | (with_reducible refine b_norm ?_) | (with_reducible refine b_ret ?_) | (with_reducible refine b_exit ?_) | (with_reducible refine b_past (by decide) ?_)
    | (refine xr_cl (f := ?_) (fs := ?_) (cs := ?_) (args := ?_) (K := ?_) ?_ ?_ ?_ ?_ ?_
       rotate_left 5
       · simp only [ev]; rfl
       first
       | (· with_reducible exact Ty.ok84
          rotate_left 2
          refine Z2a 84 ?_
          rotate_right 2)
       )
    | (refine xr_do (v := ?_) (h' := ?_) (by exact rfl) ?_ ?_; rotate_left 2)
    | (refine xr_st (v := ?_) (h' := ?_) (by exact rfl) ?_ ?_; rotate_left 2)
    | (refine aw_ift (by decide) ?_ ?_
       · simp only [ev, Zb, reduceIte, Nat.reduceEqDiff, *])
    | (refine aw_iff (by decide) ?_ ?_
       · simp only [ev, Zb, reduceIte, Nat.reduceEqDiff, *])
    | (refine aw_if (b := ?_) (by decide) ?_ (fun hb => ?_) (fun hb => ?_)
       rotate_left 1
       · simp only [ev, Zb, reduceIte, Nat.reduceEqDiff, *]; rfl)
    | (refine r_ret (vs := ?_) ?_ ?_
       rotate_left 1
       · simp only [resV, ev, Zb, reduceIte, Nat.reduceEqDiff, Zj, *]; rfl)
    | (with_reducible exact l1In_ok _ _ _ _)
    | ((with_reducible refine Z2w (n := 84) ?_); rintro _ _ ⟨rfl, hh⟩; replace hh := hh.symm; subst hh)
    )
  refine aw_for [1, 2, 9, 10] (fun k T h' => h' = h ∧ T 11 = .int .i64 k ∧ (l.take k).all (fun n => decide (lo ≤ n ∧ n ≤ hi)) = true) l.length (k0 := 0) (Nat.zero_le _) ⟨rfl, rfl, rfl⟩ ?_
  rintro k T h' hk hR ⟨rfl, h11, hall⟩
  simp only [Z37, Z38, Z39, implies_true, and_true, stp, ev, Zb, Z2e, Z1z, Zk, Zl, reduceIte, Nat.reduceEqDiff, Zj, Zz, Zu, Z16, Z1a, Zm, Zp, Zo, Zd, Zx, Z2b, Z2x, Z1g, Z17, Zq, Zn, Zv, Z2p, Z2f, Z2o, Z2d, Z2g, Z1c, Z1b, Z2i, Z2n, Z2h, Z2j, Z2k, Z2l, Z2m, Z31, Z8, Z5, Z13, Zy] at hR
  rcases Nat.lt_or_ge k l.length with hkn | hkn
  · have h1 : (k : Int) < l.length := by omega
    obtain ⟨a, rfl, hl⟩ := Sl.row hrow (k := k) (by simpa using hkn)
    rw [List.getElem_map] at hl
    have hg := getC_of_load hl
    repeat' (first
      | ((with_reducible refine eq_go ?_); simp only [stp, ev, Zb, Z2e, Z1z, Zk, Zl, reduceIte, Nat.reduceEqDiff, Zj, Zz, Zu, Z16, Z1a, Zm, Zp, Zo, Zd, Zx, Z2b, Z2x, Z1g, Z17, Zq, Zn, Zv, Z2p, Z2f, Z2o, Z2d, Z2g, Z1c, Z1b, Z2i, Z2n, Z2h, Z2j, Z2k, Z2l, Z2m, Z31, Z8, Z5, Z13, Zy, ldv, idxA, blt, lenV, Z10, Z3, Z2, Zf, Zg, Ze, Z1, Z0, Z14, Zw, Zh, Zr, Z33, Z15, Z7, Zc, Z6, Z3, Z2, Zf, Zi, Nat.reduceAdd, Nat.reduceMul, Nat.reduceLeDiff, Z11, Z12, Z1y, Z1h, Z2c, Z23, Z28, Z27, Z26, Z25, Z24, Z1m, Z1l, Z1k, Z1j, Z1i, Z1w, Z1v, Z1u, Z1t, Z1s, Z32, Z2y, Z2q, Z2r, Z2s, Z20, Z1q, Z1r, Z2z, Z2t, Z21, Z22, splice, Za, Z9, Z1, Z0, Z19, Zt, Zs, Z18, newB, vcs, Z30, Z2v, Z1x, Z29, Z1n, Z2u, Z1o, Z1f, Z1p, Z1d, Z1e, Ty.ld3, Ty.sz3, Ty.zc3, Ty.by3, Ty.ld24, Ty.sz24, Ty.sl24, Ty.zc24, Ty.by24, *]; rfl)
      | (with_reducible refine aw_then ?_) | (with_reducible refine aw_skip ?_) | (with_reducible refine aw_ret ?_) | (with_reducible refine aw_exit ?_) | (with_reducible refine aw_block ?_) | (with_reducible refine xr_reg (by decide +kernel) ?_)
      | (with_reducible refine xr_nil ?_) | (with_reducible refine k_norm ?_) | (with_reducible refine k_ret ?_) | (with_reducible refine k_exit ?_) | (with_reducible refine b_norm ?_) | (with_reducible refine b_ret ?_) | (with_reducible refine b_exit ?_) | (with_reducible refine b_past (by decide) ?_)
      | (refine xr_cl (f := ?_) (fs := ?_) (cs := ?_) (args := ?_) (K := ?_) ?_ ?_ ?_ ?_ ?_
         rotate_left 5
         · simp only [ev]; rfl
         first
         | (· with_reducible exact Ty.ok84
            rotate_left 2
            refine Z2a 84 ?_
            rotate_right 2)
         )
      | (refine xr_do (v := ?_) (h' := ?_) (by exact rfl) ?_ ?_; rotate_left 2)
      | (refine xr_st (v := ?_) (h' := ?_) (by exact rfl) ?_ ?_; rotate_left 2)
      | (refine aw_ift (by decide) ?_ ?_
         · simp only [ev, Zb, reduceIte, Nat.reduceEqDiff, *])
      | (refine aw_iff (by decide) ?_ ?_
         · simp only [ev, Zb, reduceIte, Nat.reduceEqDiff, *])
      | (refine aw_if (b := ?_) (by decide) ?_ (fun hb => ?_) (fun hb => ?_)
         rotate_left 1
         · simp only [ev, Zb, reduceIte, Nat.reduceEqDiff, *]; rfl)
      | (refine r_ret (vs := ?_) ?_ ?_
         rotate_left 1
         · simp only [resV, ev, Zb, reduceIte, Nat.reduceEqDiff, Zj, *]; rfl)
      | (with_reducible exact l1In_ok _ _ _ _)
      | ((with_reducible refine Z2w (n := 84) ?_); rintro _ _ ⟨rfl, hh⟩; replace hh := hh.symm; subst hh)
      )
    · simp only [Bool.not_eq_true', decide_eq_false_iff_not] at hb
      refine ⟨?_, rfl⟩
      have : (l.all fun n => decide (lo ≤ n ∧ n ≤ hi)) = false := List.all_eq_false.2 ⟨l[k], List.getElem_mem _, by simpa using hb⟩
      rw [this]; rfl
    refine ⟨by first | assumption | omega, ?_, ?_⟩
    · simp only [Z37, Z38, Z39, implies_true, and_true, Z2b, stp, ev, Zb, Z2e, Z1z, Zk, Zl, reduceIte, Nat.reduceEqDiff, Zj, Zz, Zu, Z16, Z1a, Zm, Zp, Zo, Zd, Zx, Z2b, Z2x, Z1g, Z17, Zq, Zn, Zv, Z2p, Z2f, Z2o, Z2d, Z2g, Z1c, Z1b, Z2i, Z2n, Z2h, Z2j, Z2k, Z2l, Z2m, Z31, Z8, Z5, Z13, Zy, *]
    refine ⟨rfl, ?_, ?_⟩
    · simp only [Zb, reduceIte, Nat.reduceEqDiff]
      rw [wrap_id (by omega)]; rfl
    · rw [← List.take_append_getElem hkn, List.all_append, hall]
      simpa using hb
  · have h1 : ¬ (k : Int) < l.length := by omega
    repeat' (first
      | ((with_reducible refine eq_go ?_); simp only [stp, ev, Zb, Z2e, Z1z, Zk, Zl, reduceIte, Nat.reduceEqDiff, Zj, Zz, Zu, Z16, Z1a, Zm, Zp, Zo, Zd, Zx, Z2b, Z2x, Z1g, Z17, Zq, Zn, Zv, Z2p, Z2f, Z2o, Z2d, Z2g, Z1c, Z1b, Z2i, Z2n, Z2h, Z2j, Z2k, Z2l, Z2m, Z31, Z8, Z5, Z13, Zy, ldv, idxA, blt, lenV, Z10, Z3, Z2, Zf, Zg, Ze, Z1, Z0, Z14, Zw, Zh, Zr, Z33, Z15, Z7, Zc, Z6, Z3, Z2, Zf, Zi, Nat.reduceAdd, Nat.reduceMul, Nat.reduceLeDiff, Z11, Z12, Z1y, Z1h, Z2c, Z23, Z28, Z27, Z26, Z25, Z24, Z1m, Z1l, Z1k, Z1j, Z1i, Z1w, Z1v, Z1u, Z1t, Z1s, Z32, Z2y, Z2q, Z2r, Z2s, Z20, Z1q, Z1r, Z2z, Z2t, Z21, Z22, splice, Za, Z9, Z1, Z0, Z19, Zt, Zs, Z18, newB, vcs, Z30, Z2v, Z1x, Z29, Z1n, Z2u, Z1o, Z1f, Z1p, Z1d, Z1e, Ty.ld3, Ty.sz3, Ty.zc3, Ty.by3, Ty.ld24, Ty.sz24, Ty.sl24, Ty.zc24, Ty.by24, *]; rfl)
      | (with_reducible refine aw_then ?_) | (with_reducible refine aw_skip ?_) | (with_reducible refine aw_ret ?_) | (with_reducible refine aw_exit ?_) | (with_reducible refine aw_block ?_) | (with_reducible refine xr_reg (by decide +kernel) ?_)
      | (with_reducible refine xr_nil ?_) | (with_reducible refine k_norm ?_) | (with_reducible refine k_ret ?_) | (with_reducible refine k_exit ?_) | (with_reducible refine b_norm ?_) | (with_reducible refine b_ret ?_) | (with_reducible refine b_exit ?_) | (with_reducible refine b_past (by decide) ?_)
      | (refine xr_cl (f := ?_) (fs := ?_) (cs := ?_) (args := ?_) (K := ?_) ?_ ?_ ?_ ?_ ?_
         rotate_left 5
         · simp only [ev]; rfl
         first
         | (· with_reducible exact Ty.ok84
            rotate_left 2
            refine Z2a 84 ?_
            rotate_right 2)
         )
      | (refine xr_do (v := ?_) (h' := ?_) (by exact rfl) ?_ ?_; rotate_left 2)
      | (refine xr_st (v := ?_) (h' := ?_) (by exact rfl) ?_ ?_; rotate_left 2)
      | (refine aw_ift (by decide) ?_ ?_
         · simp only [ev, Zb, reduceIte, Nat.reduceEqDiff, *])
      | (refine aw_iff (by decide) ?_ ?_
         · simp only [ev, Zb, reduceIte, Nat.reduceEqDiff, *])
      | (refine aw_if (b := ?_) (by decide) ?_ (fun hb => ?_) (fun hb => ?_)
         rotate_left 1
         · simp only [ev, Zb, reduceIte, Nat.reduceEqDiff, *]; rfl)
      | (refine r_ret (vs := ?_) ?_ ?_
         rotate_left 1
         · simp only [resV, ev, Zb, reduceIte, Nat.reduceEqDiff, Zj, *]; rfl)
      | (with_reducible exact l1In_ok _ _ _ _)
      | ((with_reducible refine Z2w (n := 84) ?_); rintro _ _ ⟨rfl, hh⟩; replace hh := hh.symm; subst hh)
      )
    refine ⟨?_, rfl⟩
    rw [List.take_of_length_le hkn] at hall
    rw [hall]; rfl

theorem goodDesk_ok (now : Int) (people : List Int) (items : List Item) (vp vi : Value) (h : Heap) (hp : Sl h vp 1 (people.map fun n => [.int .i64 n])) (hi : Sl h vi 6 (items.map Item.cells))
    (hl : people.length ≤ 1048576) (hl2 : items.length ≤ 1048576) :
    ACalls Try.prog 0 42 #[.agg #[.int .i64 now, vp, vi]] h
    fun v h' => v = .bool (deskOk now people items) ∧ h' = h := by
  refine acalls_pure (.inl rfl) ?_
  have hf := hp.flat
  have hf2 := hi.flat
  refine Z36 Try.func42 rfl Try.ntmps42 (by simp) (by dsimp only [Try.f42]) ?_
  repeat' (first
    | ((with_reducible refine eq_go ?_); simp only [stp, ev, Zb, Z2e, Z1z, Zk, Zl, reduceIte, Nat.reduceEqDiff, Zj, Zz, Zu, Z16, Z1a, Zm, Zp, Zo, Zd, Zx, Z2b, Z2x, Z1g, Z17, Zq, Zn, Zv, Z2p, Z2f, Z2o, Z2d, Z2g, Z1c, Z1b, Z2i, Z2n, Z2h, Z2j, Z2k, Z2l, Z2m, Z31, Z8, Z5, Z13, Zy, ldv, blt, lenV, Z10, Z3, Z2, Zf, Zg, Ze, Z1, Z0, Z14, Zw, Zh, Zr, Z33, Z15, Z7, Zc, Z6, Z3, Z2, Zf, Zi, Nat.reduceAdd, Nat.reduceMul, Nat.reduceLeDiff, Z11, Z12, Z1y, Z1h, Z2c, Z23, Z28, Z27, Z26, Z25, Z24, Z1m, Z1l, Z1k, Z1j, Z1i, Z1w, Z1v, Z1u, Z1t, Z1s, Z32, Z2y, Z2q, Z2r, Z2s, Z20, Z1q, Z1r, Z2z, Z2t, Z21, Z22, splice, Za, Z9, Z1, Z0, Z19, Zt, Zs, Z18, newB, vcs, Z30, Z2v, Z1x, Z29, Z1n, Z2u, Z1o, Z1f, Z1p, Z1d, Z1e, Ty.ld3, Ty.sz3, Ty.zc3, Ty.by3, Ty.ld24, Ty.sz24, Ty.sl24, Ty.zc24, Ty.by24, Ty.ld56, Ty.sz56, Ty.sl56, Ty.zc56, Ty.by56, Ty.ld58, Ty.sz58, Ty.zc58, Ty.by58, Ty.ld77, Ty.sz77, Ty.zc77, Ty.by77, *]; rfl)
    | (with_reducible refine aw_then ?_) | (with_reducible refine aw_skip ?_) | (with_reducible refine aw_ret ?_) | (with_reducible refine aw_exit ?_) | (with_reducible refine aw_block ?_) | (with_reducible refine xr_reg (by decide +kernel) ?_)
    | (with_reducible refine xr_nil ?_) | (with_reducible refine k_norm ?_) | (with_reducible refine k_ret ?_) | (with_reducible refine k_exit ?_) | (with_reducible refine b_norm ?_) | (with_reducible refine b_ret ?_) | (with_reducible refine b_exit ?_) | (with_reducible refine b_past (by decide) ?_)
    | (refine xr_cl (f := ?_) (fs := ?_) (cs := ?_) (args := ?_) (K := ?_) ?_ ?_ ?_ ?_ ?_
       rotate_left 5
       · simp only [ev]; rfl
       first
       | (· with_reducible exact Ty.ok94
          rotate_left 2
          refine Z2a 94 ?_
          rotate_right 2)
       )
    | (refine xr_do (v := ?_) (h' := ?_) (by exact rfl) ?_ ?_; rotate_left 2)
    | (refine xr_st (v := ?_) (h' := ?_) (by exact rfl) ?_ ?_; rotate_left 2)
    | (refine aw_ift (by decide) ?_ ?_
       · simp only [ev, Zb, reduceIte, Nat.reduceEqDiff, *])
    | (refine aw_iff (by decide) ?_ ?_
       · simp only [ev, Zb, reduceIte, Nat.reduceEqDiff, *])
    | (refine aw_if (b := ?_) (by decide) ?_ (fun hb => ?_) (fun hb => ?_)
       rotate_left 1
       · simp only [ev, Zb, reduceIte, Nat.reduceEqDiff, *]; rfl)
    | (refine r_ret (vs := ?_) ?_ ?_
       rotate_left 1
       · simp only [resV, ev, Zb, reduceIte, Nat.reduceEqDiff, Zj, *]; rfl)
    | (with_reducible refine isDesk_ok _ ?_ ?_ _ _ _ ?_ ?_ ?_ ?_
       rotate_left 2
       · first | assumption | exact Sl.old (by assumption) _ | ((try (simp only [deskV, deskL, Z11, Z12, Z1y, Z1h, Za, Z9, Z7, Zc, Zd, Z6, Z3, Z2, Zf, Zi, Nat.reduceAdd, Zh])); first | exact Sl.old (by assumption) _ | exact sl_nilints | exact sl_nilitems | (refine sl_ints (Z4 _) ?_; exact rfl) | (refine sl_items (Z4 _) ?_; exact rfl) | (refine sl_ints0 (Z4 _) ?_; exact rfl) | (refine sl_items0 (Z4 _) ?_; exact rfl))
       · first | assumption | exact Sl.old (by assumption) _ | ((try (simp only [deskV, deskL, Z11, Z12, Z1y, Z1h, Za, Z9, Z7, Zc, Zd, Z6, Z3, Z2, Zf, Zi, Nat.reduceAdd, Zh])); first | exact Sl.old (by assumption) _ | exact sl_nilints | exact sl_nilitems | (refine sl_ints (Z4 _) ?_; exact rfl) | (refine sl_items (Z4 _) ?_; exact rfl) | (refine sl_ints0 (Z4 _) ?_; exact rfl) | (refine sl_items0 (Z4 _) ?_; exact rfl))
       · first | omega | (simp only [Z2]; omega)
       · first | omega | (simp only [Z2]; omega)
       )
    | ((with_reducible refine Z2w (n := 94) ?_); rintro _ _ ⟨rfl, hh⟩; replace hh := hh.symm; subst hh)
    )
  exact ⟨rfl, _, rfl⟩

theorem l16People_ok (people : List Int) (vp : Value) (h : Heap) (hp : Sl h vp 1 (people.map fun n => [.int .i64 n])) (hl : people.length ≤ 1048576) :
    ACalls Try.prog 0 91 #[vp] h
    fun v h' => v = .bool (decide (1 ≤ (people.length : Int) ∧ (people.length : Int) ≤ 6) && people.all (fun n => decide (0 ≤ n ∧ n ≤ 15))) ∧ h' = h := by
  have hp' := hp
  obtain ⟨b, c, rfl, hc, hrow⟩ := hp
  simp only [Zv] at hp' ⊢
  clear hrow
  refine Z36 Try.func91 rfl Try.ntmps91 (by simp) (by dsimp only [Try.f91]) ?_
  repeat' (first
    | ((with_reducible refine eq_go ?_); simp only [stp, ev, Zb, Z2e, Z1z, Zk, Zl, reduceIte, Nat.reduceEqDiff, Zj, Zz, Zu, Z16, Z1a, Zm, Zp, Zo, Zd, Zx, Z2b, Z2x, Z1g, Z17, Zq, Zn, Zv, Z2p, Z2f, Z2o, Z2d, Z2g, Z1c, Z1b, Z2i, Z2n, Z2h, Z2j, Z2k, Z2l, Z2m, Z31, Z8, Z5, Z13, Zy, blt, lenV, Z10, Z3, Z2, Zf, Zg, Ze, Z1, Z0, Z14, Zw, Ty.sz3, Ty.zc3, Ty.by3, Ty.sz24, Ty.sl24, Ty.zc24, Ty.by24, *]; rfl)
    | (with_reducible refine aw_then ?_) | (with_reducible refine aw_skip ?_) | (with_reducible refine aw_ret ?_) | (with_reducible refine aw_exit ?_) | (with_reducible refine aw_block ?_) | (with_reducible refine xr_reg (by decide +kernel) ?_)
    | (with_reducible refine xr_nil ?_) | (with_reducible refine k_norm ?_) | (with_reducible refine k_ret ?_) | (with_reducible refine k_exit ?_) | (with_reducible refine b_norm ?_) | (with_reducible refine b_ret ?_) | (with_reducible refine b_exit ?_) | (with_reducible refine b_past (by decide) ?_)
    | (refine xr_cl (f := ?_) (fs := ?_) (cs := ?_) (args := ?_) (K := ?_) ?_ ?_ ?_ ?_ ?_
       rotate_left 5
       · simp only [ev]; rfl
       first
       | (· with_reducible exact Ty.ok84
          rotate_left 2
          refine Z2a 84 ?_
          rotate_right 2)
       | (· with_reducible exact Ty.ok117
          rotate_left 2
          refine Z2a 117 ?_
          rotate_right 2)
       )
    | (refine xr_gcl (f := ?_) (fs := ?_) (cs := ?_) (args := ?_) (K := ?_) (by exact rfl) ?_ ?_ ?_ ?_ ?_ ?_
       rotate_left 5
       · simp only [ev, Zb, reduceIte, Nat.reduceEqDiff, Z8, Z5, *]
       · simp only [ev]; rfl
       first
       | (· with_reducible exact Ty.ok84
          rotate_left 2
          refine Z2a 84 ?_
          rotate_right 2)
       | (· with_reducible exact Ty.ok117
          rotate_left 2
          refine Z2a 117 ?_
          rotate_right 2)
       )
    | (refine xr_do (v := ?_) (h' := ?_) (by exact rfl) ?_ ?_; rotate_left 2)
    | (refine xr_st (v := ?_) (h' := ?_) (by exact rfl) ?_ ?_; rotate_left 2)
    | (refine xr_gdo (v := ?_) (h' := ?_) (by exact rfl) (by exact rfl) ?_ ?_ ?_
       rotate_left 2
       · simp only [ev, Zb, reduceIte, Nat.reduceEqDiff, Z8, Z5, *])
    | (refine xr_gst (v := ?_) (h' := ?_) (by exact rfl) (by exact rfl) ?_ ?_ ?_
       rotate_left 2
       · simp only [ev, Zb, reduceIte, Nat.reduceEqDiff, Z8, Z5, *])
    | (refine xr_goff (by exact rfl) ?_ ?_
       · simp only [ev, Zb, reduceIte, Nat.reduceEqDiff, Z8, Z5, *])
    | (refine xr_gsoff (by exact rfl) ?_ ?_
       · simp only [ev, Zb, reduceIte, Nat.reduceEqDiff, Z8, Z5, *])
    | (refine xr_gund (by exact rfl) ?_ ?_
       · simp only [ev, Zb, reduceIte, Nat.reduceEqDiff, Z8, Z5, *])
    | (refine xr_gsund (by exact rfl) ?_ ?_
       · simp only [ev, Zb, reduceIte, Nat.reduceEqDiff, Z8, Z5, *])
    | (refine xr_gif (b := ?_) (by exact rfl) ?_ (fun hb => ?_) (fun hb => ?_)
       rotate_left 1
       · simp only [ev, Zb, reduceIte, Nat.reduceEqDiff, Z8, Z5, *]; rfl)
    | (refine aw_ift (by decide) ?_ ?_
       · simp only [ev, Zb, reduceIte, Nat.reduceEqDiff, *])
    | (refine aw_iff (by decide) ?_ ?_
       · simp only [ev, Zb, reduceIte, Nat.reduceEqDiff, *])
    | (refine aw_if (b := ?_) (by decide) ?_ (fun hb => ?_) (fun hb => ?_)
       rotate_left 1
       · simp only [ev, Zb, reduceIte, Nat.reduceEqDiff, *]; rfl)
    | (refine r_ret (vs := ?_) ?_ ?_
       rotate_left 1
       · simp only [resV, ev, Zb, reduceIte, Nat.reduceEqDiff, Zj, *]; rfl)
    | (with_reducible exact l1In_ok _ _ _ _)
    | (with_reducible refine l1All_ok ?_ _ _ _ _ ?_ ?_
       rotate_left 1
       · first | assumption | exact Sl.old (by assumption) _
       · first | omega | (simp only [Z2]; omega)
       )
    | ((with_reducible refine Z2w (n := 84) ?_); rintro _ _ ⟨rfl, hh⟩; replace hh := hh.symm; subst hh)
    | ((with_reducible refine Z2w (n := 117) ?_); rintro _ _ ⟨rfl, hh⟩; replace hh := hh.symm; subst hh)
    )
  all_goals refine ⟨?_, rfl⟩
  all_goals simp only [oneOf, *, Bool.true_and, Bool.false_and]

theorem l16Has_ok (who role : Int) (people : List Int) (vp : Value) (h : Heap) (hp : Sl h vp 1 (people.map fun n => [.int .i64 n]))
    (hw : 0 ≤ who ∧ who ≤ (people.length : Int) - 1) (hr : 0 ≤ role ∧ role ≤ 3) :
    ACalls Try.prog 0 96 #[vp, .int .i64 who, .int .i64 role] h
    fun v h' => v = .bool (roleM (people.getD who.toNat 0) role) ∧ h' = h := by
  obtain ⟨k, rfl⟩ : ∃ k : Nat, who = k := ⟨who.toNat, by omega⟩
  have hk : k < people.length := by omega
  have hk1 : (k : Int) < people.length := by omega
  obtain ⟨b, c, rfl, hc, hrow⟩ := hp
  obtain ⟨a, rfl, hl⟩ := Sl.row hrow (k := k) (by simpa using hk)
  rw [List.getElem_map] at hl
  have hg := getC_of_load hl
  have hwr : IntKind.u64.wrap role = role := wrap_u64_id (by omega)
  have hr0 := hr.1
  clear hrow
  refine Z36 Try.func96 rfl Try.ntmps96 (by simp) (by dsimp only [Try.f96]) ?_
  repeat' (first
    | ((with_reducible refine eq_go ?_); simp only [stp, ev, Zb, Z2e, Z1z, Zk, Zl, reduceIte, Nat.reduceEqDiff, Zj, Zz, Zu, Z16, Z1a, Zm, Zp, Zo, Zd, Zx, Z2b, Z2x, Z1g, Z17, Zq, Zn, Zv, Z2p, Z2f, Z2o, Z2d, Z2g, Z1c, Z1b, Z2i, Z2n, Z2h, Z2j, Z2k, Z2l, Z2m, Z31, Z8, Z5, Z13, Zy, ldv, conV, idxA, Zh, Zr, Z33, Z15, Z7, Zc, Z6, Z3, Z2, Zf, Zi, Nat.reduceAdd, Nat.reduceMul, Nat.reduceLeDiff, Z11, Z12, Z1y, Z1h, Z2c, Z23, Z28, Z27, Z26, Z25, Z24, Z1m, Z1l, Z1k, Z1j, Z1i, Z1w, Z1v, Z1u, Z1t, Z1s, Z32, Z2y, Z2q, Z2r, Z2s, Z20, Z1q, Z1r, Z2z, Z2t, Z21, Z22, splice, Za, Z9, Z1, Z0, Z19, Zt, Zs, Z18, newB, vcs, Z30, Z2v, Z1x, Z29, Z1n, Z2u, Z1o, Z1f, Z1p, Z1d, Z1e, Ty.ld3, Ty.sz3, Ty.un3, Ty.ld24, Ty.sz24, Ty.sl24, Ty.un24, Ty.ld135, Ty.sz135, Ty.un135, *]; rfl)
    | (with_reducible refine aw_then ?_) | (with_reducible refine aw_skip ?_) | (with_reducible refine aw_ret ?_) | (with_reducible refine aw_exit ?_) | (with_reducible refine aw_block ?_) | (with_reducible refine xr_reg (by decide +kernel) ?_)
    | (with_reducible refine xr_nil ?_) | (with_reducible refine k_norm ?_) | (with_reducible refine k_ret ?_) | (with_reducible refine k_exit ?_) | (with_reducible refine b_norm ?_) | (with_reducible refine b_ret ?_) | (with_reducible refine b_exit ?_) | (with_reducible refine b_past (by decide) ?_)
    | (refine xr_do (v := ?_) (h' := ?_) (by exact rfl) ?_ ?_; rotate_left 2)
    | (refine xr_st (v := ?_) (h' := ?_) (by exact rfl) ?_ ?_; rotate_left 2)
    | (refine aw_ift (by decide) ?_ ?_
       · simp only [ev, Zb, reduceIte, Nat.reduceEqDiff, *])
    | (refine aw_iff (by decide) ?_ ?_
       · simp only [ev, Zb, reduceIte, Nat.reduceEqDiff, *])
    | (refine aw_if (b := ?_) (by decide) ?_ (fun hb => ?_) (fun hb => ?_)
       rotate_left 1
       · simp only [ev, Zb, reduceIte, Nat.reduceEqDiff, *]; rfl)
    | (refine r_ret (vs := ?_) ?_ ?_
       rotate_left 1
       · simp only [resV, ev, Zb, reduceIte, Nat.reduceEqDiff, Zj, *]; rfl)
    )
  refine ⟨?_, rfl⟩
  simp only [oneOf, roleM, Zq, List.getD_eq_getElem?_getD, List.getElem?_eq_getElem hk, Z14]

theorem l16Named_ok (x : Item) (h : Heap) : ACalls Try.prog 0 118 #[.agg x.cells.toArray] h
    fun v h' => v = .bool (decide ((0 ≤ x.cas ∧ x.cas ≤ 9) ∧ (0 ≤ x.task ∧ x.task ≤ 5) ∧ (0 ≤ x.role ∧ x.role ≤ 3))) ∧ h' = h := by
  refine acalls_pure (.inl rfl) ?_
  obtain ⟨cas, task, role, state, who, till⟩ := x
  simp only [Item.cells]
  refine Z36 Try.func118 rfl Try.ntmps118 (by simp) (by dsimp only [Try.f118]) ?_
  repeat' (first
    | ((with_reducible refine eq_go ?_); simp only [stp, ev, Zb, Z2e, Z1z, Zk, Zl, reduceIte, Nat.reduceEqDiff, Zj, Zz, Zu, Z16, Z1a, Zm, Zp, Zo, Zd, Zx, Z2b, Z2x, Z1g, Z17, Zq, Zn, Zv, Z2p, Z2f, Z2o, Z2d, Z2g, Z1c, Z1b, Z2i, Z2n, Z2h, Z2j, Z2k, Z2l, Z2m, Z31, Z8, Z5, Z13, Zy, ldv, fldA, blt, lenV, Z10, Z3, Z2, Zf, Zg, Ze, Z1, Z0, Z14, Zw, Zh, Zr, Z33, Z15, Z7, Zc, Z6, Z3, Z2, Zf, Zi, Nat.reduceAdd, Nat.reduceMul, Nat.reduceLeDiff, Z11, Z12, Z1y, Z1h, Z2c, Z23, Z28, Z27, Z26, Z25, Z24, Z1m, Z1l, Z1k, Z1j, Z1i, Z1w, Z1v, Z1u, Z1t, Z1s, Z32, Z2y, Z2q, Z2r, Z2s, Z20, Z1q, Z1r, Z2z, Z2t, Z21, Z22, splice, Za, Z9, Z1, Z0, Z19, Zt, Zs, Z18, newB, vcs, Z30, Z2v, Z1x, Z29, Z1n, Z2u, Z1o, Z1f, Z1p, Z1d, Z1e, Ty.ld3, Ty.sz3, Ty.zc3, Ty.by3, Ty.ld77, Ty.sz77, Ty.zc77, Ty.by77, Ty.fl77_0, Ty.fl77_1, Ty.fl77_2, Ty.fl77_3, Ty.fl77_4, Ty.fl77_5, *]; rfl)
    | (with_reducible refine aw_then ?_) | (with_reducible refine aw_skip ?_) | (with_reducible refine aw_ret ?_) | (with_reducible refine aw_exit ?_) | (with_reducible refine aw_block ?_) | (with_reducible refine xr_reg (by decide +kernel) ?_)
    | (with_reducible refine xr_nil ?_) | (with_reducible refine k_norm ?_) | (with_reducible refine k_ret ?_) | (with_reducible refine k_exit ?_) | (with_reducible refine b_norm ?_) | (with_reducible refine b_ret ?_) | (with_reducible refine b_exit ?_) | (with_reducible refine b_past (by decide) ?_)
    | (refine xr_cl (f := ?_) (fs := ?_) (cs := ?_) (args := ?_) (K := ?_) ?_ ?_ ?_ ?_ ?_
       rotate_left 5
       · simp only [ev]; rfl
       first
       | (· with_reducible exact Ty.ok84
          rotate_left 2
          refine Z2a 84 ?_
          rotate_right 2)
       )
    | (refine xr_gcl (f := ?_) (fs := ?_) (cs := ?_) (args := ?_) (K := ?_) (by exact rfl) ?_ ?_ ?_ ?_ ?_ ?_
       rotate_left 5
       · simp only [ev, Zb, reduceIte, Nat.reduceEqDiff, Z8, Z5, *]
       · simp only [ev]; rfl
       first
       | (· with_reducible exact Ty.ok84
          rotate_left 2
          refine Z2a 84 ?_
          rotate_right 2)
       )
    | (refine xr_do (v := ?_) (h' := ?_) (by exact rfl) ?_ ?_; rotate_left 2)
    | (refine xr_st (v := ?_) (h' := ?_) (by exact rfl) ?_ ?_; rotate_left 2)
    | (refine xr_gdo (v := ?_) (h' := ?_) (by exact rfl) (by exact rfl) ?_ ?_ ?_
       rotate_left 2
       · simp only [ev, Zb, reduceIte, Nat.reduceEqDiff, Z8, Z5, *])
    | (refine xr_gst (v := ?_) (h' := ?_) (by exact rfl) (by exact rfl) ?_ ?_ ?_
       rotate_left 2
       · simp only [ev, Zb, reduceIte, Nat.reduceEqDiff, Z8, Z5, *])
    | (refine xr_goff (by exact rfl) ?_ ?_
       · simp only [ev, Zb, reduceIte, Nat.reduceEqDiff, Z8, Z5, *])
    | (refine xr_gsoff (by exact rfl) ?_ ?_
       · simp only [ev, Zb, reduceIte, Nat.reduceEqDiff, Z8, Z5, *])
    | (refine xr_gund (by exact rfl) ?_ ?_
       · simp only [ev, Zb, reduceIte, Nat.reduceEqDiff, Z8, Z5, *])
    | (refine xr_gsund (by exact rfl) ?_ ?_
       · simp only [ev, Zb, reduceIte, Nat.reduceEqDiff, Z8, Z5, *])
    | (refine xr_gif (b := ?_) (by exact rfl) ?_ (fun hb => ?_) (fun hb => ?_)
       rotate_left 1
       · simp only [ev, Zb, reduceIte, Nat.reduceEqDiff, Z8, Z5, *]; rfl)
    | (refine aw_ift (by decide) ?_ ?_
       · simp only [ev, Zb, reduceIte, Nat.reduceEqDiff, *])
    | (refine aw_iff (by decide) ?_ ?_
       · simp only [ev, Zb, reduceIte, Nat.reduceEqDiff, *])
    | (refine aw_if (b := ?_) (by decide) ?_ (fun hb => ?_) (fun hb => ?_)
       rotate_left 1
       · simp only [ev, Zb, reduceIte, Nat.reduceEqDiff, *]; rfl)
    | (refine r_ret (vs := ?_) ?_ ?_
       rotate_left 1
       · simp only [resV, ev, Zb, reduceIte, Nat.reduceEqDiff, Zj, *]; rfl)
    | (with_reducible exact l1In_ok _ _ _ _)
    | ((with_reducible refine Z2w (n := 84) ?_); rintro _ _ ⟨rfl, hh⟩; replace hh := hh.symm; subst hh)
    )
  all_goals refine ⟨?_, _, rfl⟩
  all_goals simp_all [oneOf]
  all_goals omega
end Go.Proofs.Ytiddnhhjlipebaa.Am
namespace Go.Proofs.Ytiddnhhjlipebaa.Am
open Go Go.Proofs
set_option linter.unusedVariables false
set_option linter.unusedSimpArgs false
set_option maxRecDepth 100000
set_option maxHeartbeats 8000000

abbrev ints (l : List Int) : List (List Value) := l.map fun n => [.int .i64 n]

def szM (n : Nat) (left : Int) : Int := if left - n < 0 then -1 else left - n

theorem szIntS_ok (rows : List (List Value)) (e : Nat) (left : Int) (v : Value) (h : Heap) (hs : Sl h v e rows) (hl : rows.length ≤ 9223372036854775807) (h0 : 0 ≤ left ∧ left ≤ 1048576) :
    ACalls Try.prog 0 89 #[v, .int .i64 left] h fun v h' => v = .int .i64 (szM rows.length left) ∧ h' = h := by
  obtain ⟨b, c, rfl, hc, hrow⟩ := hs
  refine Z36 Try.func89 rfl Try.ntmps89 (by simp) (by dsimp only [Try.f89]) ?_
  have hw : IntKind.i64.wrap (left - rows.length) = left - rows.length := wrap_id (by omega)
  repeat' (first
    | ((with_reducible refine eq_go ?_); simp only [stp, ev, Zb, Z2e, Z1z, Zk, Zl, reduceIte, Nat.reduceEqDiff, Zj, Zz, Zu, Z16, Z1a, Zm, Zp, Zo, Zd, Zx, Z2b, Z2x, Z1g, Z17, Zq, Zn, Zv, Z2p, Z2f, Z2o, Z2d, Z2g, Z1c, Z1b, Z2i, Z2n, Z2h, Z2j, Z2k, Z2l, Z2m, Z31, Z8, Z5, Z13, Zy, blt, lenV, Z10, Z3, Z2, Zf, Zg, Ze, Z1, Z0, Z14, Zw, Ty.sz3, Ty.zc3, Ty.by3, Ty.sz24, Ty.sl24, Ty.zc24, Ty.by24, *]; rfl)
    | (with_reducible refine aw_then ?_) | (with_reducible refine aw_skip ?_) | (with_reducible refine aw_ret ?_) | (with_reducible refine aw_exit ?_) | (with_reducible refine aw_block ?_) | (with_reducible refine xr_reg (by decide +kernel) ?_)
    | (with_reducible refine xr_nil ?_) | (with_reducible refine k_norm ?_) | (with_reducible refine k_ret ?_) | (with_reducible refine k_exit ?_) | (with_reducible refine b_norm ?_) | (with_reducible refine b_ret ?_) | (with_reducible refine b_exit ?_) | (with_reducible refine b_past (by decide) ?_)
    | (refine xr_do (v := ?_) (h' := ?_) (by exact rfl) ?_ ?_; rotate_left 2)
    | (refine xr_st (v := ?_) (h' := ?_) (by exact rfl) ?_ ?_; rotate_left 2)
    | (refine aw_ift (by decide) ?_ ?_
       · simp only [ev, Zb, reduceIte, Nat.reduceEqDiff, *])
    | (refine aw_iff (by decide) ?_ ?_
       · simp only [ev, Zb, reduceIte, Nat.reduceEqDiff, *])
    | (refine aw_if (b := ?_) (by decide) ?_ (fun hb => ?_) (fun hb => ?_)
       rotate_left 1
       · simp only [ev, Zb, reduceIte, Nat.reduceEqDiff, *]; rfl)
    | (refine r_ret (vs := ?_) ?_ ?_
       rotate_left 1
       · simp only [resV, ev, Zb, reduceIte, Nat.reduceEqDiff, Zj, *]; rfl)
    )
  all_goals refine ⟨?_, rfl⟩
  all_goals simp only [decide_eq_true_eq, decide_eq_false_iff_not] at hb
  all_goals simp only [oneOf, szM, hb, Z2x, if_false]

theorem szItemS_ok (rows : List (List Value)) (e : Nat) (left : Int) (v : Value) (h : Heap) (hs : Sl h v e rows) (hl : rows.length ≤ 9223372036854775807) (h0 : 0 ≤ left ∧ left ≤ 1048576) :
    ACalls Try.prog 0 90 #[v, .int .i64 left] h fun v h' => v = .int .i64 (szM rows.length left) ∧ h' = h := by
  obtain ⟨b, c, rfl, hc, hrow⟩ := hs
  refine Z36 Try.func90 rfl Try.ntmps90 (by simp) (by dsimp only [Try.f90]) ?_
  have hw : IntKind.i64.wrap (left - rows.length) = left - rows.length := wrap_id (by omega)
  repeat' (first
    | ((with_reducible refine eq_go ?_); simp only [stp, ev, Zb, Z2e, Z1z, Zk, Zl, reduceIte, Nat.reduceEqDiff, Zj, Zz, Zu, Z16, Z1a, Zm, Zp, Zo, Zd, Zx, Z2b, Z2x, Z1g, Z17, Zq, Zn, Zv, Z2p, Z2f, Z2o, Z2d, Z2g, Z1c, Z1b, Z2i, Z2n, Z2h, Z2j, Z2k, Z2l, Z2m, Z31, Z8, Z5, Z13, Zy, blt, lenV, Z10, Z3, Z2, Zf, Zg, Ze, Z1, Z0, Z14, Zw, Ty.sz3, Ty.zc3, Ty.by3, Ty.sz51, Ty.sl51, Ty.zc51, Ty.by51, Ty.sz132, Ty.zc132, Ty.by132, *]; rfl)
    | (with_reducible refine aw_then ?_) | (with_reducible refine aw_skip ?_) | (with_reducible refine aw_ret ?_) | (with_reducible refine aw_exit ?_) | (with_reducible refine aw_block ?_) | (with_reducible refine xr_reg (by decide +kernel) ?_)
    | (with_reducible refine xr_nil ?_) | (with_reducible refine k_norm ?_) | (with_reducible refine k_ret ?_) | (with_reducible refine k_exit ?_) | (with_reducible refine b_norm ?_) | (with_reducible refine b_ret ?_) | (with_reducible refine b_exit ?_) | (with_reducible refine b_past (by decide) ?_)
    | (refine xr_do (v := ?_) (h' := ?_) (by exact rfl) ?_ ?_; rotate_left 2)
    | (refine xr_st (v := ?_) (h' := ?_) (by exact rfl) ?_ ?_; rotate_left 2)
    | (refine aw_ift (by decide) ?_ ?_
       · simp only [ev, Zb, reduceIte, Nat.reduceEqDiff, *])
    | (refine aw_iff (by decide) ?_ ?_
       · simp only [ev, Zb, reduceIte, Nat.reduceEqDiff, *])
    | (refine aw_if (b := ?_) (by decide) ?_ (fun hb => ?_) (fun hb => ?_)
       rotate_left 1
       · simp only [ev, Zb, reduceIte, Nat.reduceEqDiff, *]; rfl)
    | (refine r_ret (vs := ?_) ?_ ?_
       rotate_left 1
       · simp only [resV, ev, Zb, reduceIte, Nat.reduceEqDiff, Zj, *]; rfl)
    )
  all_goals refine ⟨?_, rfl⟩
  all_goals simp only [decide_eq_true_eq, decide_eq_false_iff_not] at hb
  all_goals simp only [oneOf, szM, hb, Z2x, if_false]

theorem take_ne {α : Type} {l1 l2 : List α} {k : Nat} (h1 : k < l1.length) (h2 : k < l2.length) (h : l1[k] ≠ l2[k]) : l1 ≠ l2 := by
  rintro rfl; exact h rfl
theorem take_snoc {α : Type} {l1 l2 : List α} {k : Nat} (h1 : k < l1.length) (h2 : k < l2.length) (ht : l1.take k = l2.take k) (h : l1[k] = l2[k]) : l1.take (k + 1) = l2.take (k + 1) := by
  rw [← List.take_append_getElem h1, ← List.take_append_getElem h2, ht, h]

theorem eqIntS_ok (l1 l2 : List Int) (v1 v2 : Value) (h : Heap) (hs1 : Sl h v1 1 (ints l1)) (hs2 : Sl h v2 1 (ints l2)) (hl1 : l1.length < 9223372036854775807) (hl2 : l2.length < 9223372036854775807) :
    ACalls Try.prog 0 21 #[v1, v2] h fun v h' => v = .bool (decide (l1 = l2)) ∧ h' = h := by
  obtain ⟨b1, c1, rfl, hc1, hrow1⟩ := hs1
  obtain ⟨b2, c2, rfl, hc2, hrow2⟩ := hs2
  simp only [Zv] at hc1 hc2 ⊢
  refine Z36 Try.func21 rfl Try.ntmps21 (by simp) (by dsimp only [Try.f21]) ?_
  repeat' (first
    | ((with_reducible refine eq_go ?_); simp only [stp, ev, Zb, Z2e, Z1z, Zk, Zl, reduceIte, Nat.reduceEqDiff, Zj, Zz, Zu, Z16, Z1a, Zm, Zp, Zo, Zd, Zx, Z2b, Z2x, Z1g, Z17, Zq, Zn, Zv, Z2p, Z2f, Z2o, Z2d, Z2g, Z1c, Z1b, Z2i, Z2n, Z2h, Z2j, Z2k, Z2l, Z2m, Z31, Z8, Z5, Z13, Zy, ldv, idxA, blt, lenV, Z10, Z3, Z2, Zf, Zg, Ze, Z1, Z0, Z14, Zw, Zh, Zr, Z33, Z15, Z7, Zc, Z6, Z3, Z2, Zf, Zi, Nat.reduceAdd, Nat.reduceMul, Nat.reduceLeDiff, Z11, Z12, Z1y, Z1h, Z2c, Z23, Z28, Z27, Z26, Z25, Z24, Z1m, Z1l, Z1k, Z1j, Z1i, Z1w, Z1v, Z1u, Z1t, Z1s, Z32, Z2y, Z2q, Z2r, Z2s, Z20, Z1q, Z1r, Z2z, Z2t, Z21, Z22, splice, Za, Z9, Z1, Z0, Z19, Zt, Zs, Z18, newB, vcs, Z30, Z2v, Z1x, Z29, Z1n, Z2u, Z1o, Z1f, Z1p, Z1d, Z1e, Ty.ld3, Ty.sz3, Ty.zc3, Ty.by3, Ty.ld24, Ty.sz24, Ty.sl24, Ty.zc24, Ty.by24, *]; rfl)
    | (with_reducible refine aw_then ?_) | (with_reducible refine aw_skip ?_) | (with_reducible refine aw_ret ?_) | (with_reducible refine aw_exit ?_) | (with_reducible refine aw_block ?_) | (with_reducible refine xr_reg (by decide +kernel) ?_)
    | (with_reducible refine xr_nil ?_) | (with_reducible refine k_norm ?_) | (with_reducible refine k_ret ?_) | (with_reducible refine k_exit ?_) | (with_reducible refine b_norm ?_) | (with_reducible refine b_ret ?_) | (with_reducible refine b_exit ?_) | (with_reducible refine b_past (by decide) ?_)
    | (with_reducible refine xd_nil ?_)
    | (refine xr_do (v := ?_) (h' := ?_) (by exact rfl) ?_ ?_; rotate_left 2)
    | (refine xr_st (v := ?_) (h' := ?_) (by exact rfl) ?_ ?_; rotate_left 2)
    | (refine xd_reg (ms := [0, 0, 3, 7, 0, 0, 48, 112, 255]) Ty.mx (by decide +kernel) (by decide +kernel) ?_)
    | (refine xd_do (v := ?_) (by exact rfl) (by decide +kernel) ?_ ?_; rotate_left 1)
    | (refine aw_ift (by decide) ?_ ?_
       · simp only [ev, Zb, reduceIte, Nat.reduceEqDiff, *])
    | (refine aw_iff (by decide) ?_ ?_
       · simp only [ev, Zb, reduceIte, Nat.reduceEqDiff, *])
    | (refine aw_if (b := ?_) (by decide) ?_ (fun hb => ?_) (fun hb => ?_)
       rotate_left 1
       · simp only [ev, Zb, reduceIte, Nat.reduceEqDiff, *]; rfl)
    | (refine r_ret (vs := ?_) ?_ ?_
       rotate_left 1
       · simp only [resV, ev, Zb, reduceIte, Nat.reduceEqDiff, Zj, *]; rfl)
    )
  · simp only [Bool.not_eq_true', decide_eq_false_iff_not] at hb
    refine ⟨?_, rfl⟩
    have : l1 ≠ l2 := fun q => hb (by rw [q])
    simp only [oneOf, this, Z17]
  have hle : l1.length = l2.length := by
    simp only [Bool.not_eq_false', decide_eq_true_eq] at hb
    omega
  clear hb
  refine aw_for [0, 1] (fun k T h' => h' = h ∧ T 5 = .int .i64 k ∧ l1.take k = l2.take k) l1.length (k0 := 0) (Nat.zero_le _) ⟨rfl, rfl, rfl⟩ ?_
  rintro k T h' hk hR ⟨rfl, h11, hall⟩
  simp only [Z37, Z38, Z39, implies_true, and_true, stp, ev, Zb, Z2e, Z1z, Zk, Zl, reduceIte, Nat.reduceEqDiff, Zj, Zz, Zu, Z16, Z1a, Zm, Zp, Zo, Zd, Zx, Z2b, Z2x, Z1g, Z17, Zq, Zn, Zv, Z2p, Z2f, Z2o, Z2d, Z2g, Z1c, Z1b, Z2i, Z2n, Z2h, Z2j, Z2k, Z2l, Z2m, Z31, Z8, Z5, Z13, Zy] at hR
  rcases Nat.lt_or_ge k l1.length with hkn | hkn
  · have h1 : (k : Int) < l1.length := by omega
    have h1' : (k : Int) < l2.length := by omega
    obtain ⟨a1, rfl, hl1⟩ := Sl.row hrow1 (k := k) (by simpa using hkn)
    obtain ⟨a2, rfl, hl2⟩ := Sl.row hrow2 (k := k) (by simpa using (by omega : k < l2.length))
    rw [List.getElem_map] at hl1 hl2
    have hg1 := getC_of_load hl1
    have hg2 := getC_of_load hl2
    repeat' (first
      | ((with_reducible refine eq_go ?_); simp only [stp, ev, Zb, Z2e, Z1z, Zk, Zl, reduceIte, Nat.reduceEqDiff, Zj, Zz, Zu, Z16, Z1a, Zm, Zp, Zo, Zd, Zx, Z2b, Z2x, Z1g, Z17, Zq, Zn, Zv, Z2p, Z2f, Z2o, Z2d, Z2g, Z1c, Z1b, Z2i, Z2n, Z2h, Z2j, Z2k, Z2l, Z2m, Z31, Z8, Z5, Z13, Zy, ldv, idxA, blt, lenV, Z10, Z3, Z2, Zf, Zg, Ze, Z1, Z0, Z14, Zw, Zh, Zr, Z33, Z15, Z7, Zc, Z6, Z3, Z2, Zf, Zi, Nat.reduceAdd, Nat.reduceMul, Nat.reduceLeDiff, Z11, Z12, Z1y, Z1h, Z2c, Z23, Z28, Z27, Z26, Z25, Z24, Z1m, Z1l, Z1k, Z1j, Z1i, Z1w, Z1v, Z1u, Z1t, Z1s, Z32, Z2y, Z2q, Z2r, Z2s, Z20, Z1q, Z1r, Z2z, Z2t, Z21, Z22, splice, Za, Z9, Z1, Z0, Z19, Zt, Zs, Z18, newB, vcs, Z30, Z2v, Z1x, Z29, Z1n, Z2u, Z1o, Z1f, Z1p, Z1d, Z1e, Ty.ld3, Ty.sz3, Ty.zc3, Ty.by3, Ty.ld24, Ty.sz24, Ty.sl24, Ty.zc24, Ty.by24, *]; rfl)
      | (with_reducible refine aw_then ?_) | (with_reducible refine aw_skip ?_) | (with_reducible refine aw_ret ?_) | (with_reducible refine aw_exit ?_) | (with_reducible refine aw_block ?_) | (with_reducible refine xr_reg (by decide +kernel) ?_)
      | (with_reducible refine xr_nil ?_) | (with_reducible refine k_norm ?_) | (with_reducible refine k_ret ?_) | (with_reducible refine k_exit ?_) | (with_reducible refine b_norm ?_) | (with_reducible refine b_ret ?_) | (with_reducible refine b_exit ?_) | (with_reducible refine b_past (by decide) ?_)
      | (with_reducible refine xd_nil ?_)
      | (refine xr_do (v := ?_) (h' := ?_) (by exact rfl) ?_ ?_; rotate_left 2)
      | (refine xr_st (v := ?_) (h' := ?_) (by exact rfl) ?_ ?_; rotate_left 2)
      | (refine xd_reg (ms := [0, 0, 3, 7, 0, 0, 48, 112, 255]) Ty.mx (by decide +kernel) (by decide +kernel) ?_)
      | (refine xd_do (v := ?_) (by exact rfl) (by decide +kernel) ?_ ?_; rotate_left 1)
      | (refine aw_ift (by decide) ?_ ?_
         · simp only [ev, Zb, reduceIte, Nat.reduceEqDiff, *])
      | (refine aw_iff (by decide) ?_ ?_
         · simp only [ev, Zb, reduceIte, Nat.reduceEqDiff, *])
      | (refine aw_if (b := ?_) (by decide) ?_ (fun hb => ?_) (fun hb => ?_)
         rotate_left 1
         · simp only [ev, Zb, reduceIte, Nat.reduceEqDiff, *]; rfl)
      | (refine r_ret (vs := ?_) ?_ ?_
         rotate_left 1
         · simp only [resV, ev, Zb, reduceIte, Nat.reduceEqDiff, Zj, *]; rfl)
      )
    · refine ⟨?_, rfl⟩
      have hne := take_ne hkn (by omega : k < l2.length) (by simpa using hb)
      simp only [oneOf, hne, Z17]
    refine ⟨by first | assumption | omega, ?_, ?_⟩
    · simp only [Z37, Z38, Z39, implies_true, and_true, Z2b, stp, ev, Zb, Z2e, Z1z, Zk, Zl, reduceIte, Nat.reduceEqDiff, Zj, Zz, Zu, Z16, Z1a, Zm, Zp, Zo, Zd, Zx, Z2b, Z2x, Z1g, Z17, Zq, Zn, Zv, Z2p, Z2f, Z2o, Z2d, Z2g, Z1c, Z1b, Z2i, Z2n, Z2h, Z2j, Z2k, Z2l, Z2m, Z31, Z8, Z5, Z13, Zy, *]
    refine ⟨rfl, ?_, take_snoc hkn (by omega : k < l2.length) hall (by simpa using hb)⟩
    simp only [Zb, reduceIte, Nat.reduceEqDiff]
    rw [wrap_id (by omega)]; rfl
  · have h1 : ¬ (k : Int) < l1.length := by omega
    have h1' : ¬ (k : Int) < l2.length := by omega
    repeat' (first
      | ((with_reducible refine eq_go ?_); simp only [stp, ev, Zb, Z2e, Z1z, Zk, Zl, reduceIte, Nat.reduceEqDiff, Zj, Zz, Zu, Z16, Z1a, Zm, Zp, Zo, Zd, Zx, Z2b, Z2x, Z1g, Z17, Zq, Zn, Zv, Z2p, Z2f, Z2o, Z2d, Z2g, Z1c, Z1b, Z2i, Z2n, Z2h, Z2j, Z2k, Z2l, Z2m, Z31, Z8, Z5, Z13, Zy, ldv, idxA, blt, lenV, Z10, Z3, Z2, Zf, Zg, Ze, Z1, Z0, Z14, Zw, Zh, Zr, Z33, Z15, Z7, Zc, Z6, Z3, Z2, Zf, Zi, Nat.reduceAdd, Nat.reduceMul, Nat.reduceLeDiff, Z11, Z12, Z1y, Z1h, Z2c, Z23, Z28, Z27, Z26, Z25, Z24, Z1m, Z1l, Z1k, Z1j, Z1i, Z1w, Z1v, Z1u, Z1t, Z1s, Z32, Z2y, Z2q, Z2r, Z2s, Z20, Z1q, Z1r, Z2z, Z2t, Z21, Z22, splice, Za, Z9, Z1, Z0, Z19, Zt, Zs, Z18, newB, vcs, Z30, Z2v, Z1x, Z29, Z1n, Z2u, Z1o, Z1f, Z1p, Z1d, Z1e, Ty.ld3, Ty.sz3, Ty.zc3, Ty.by3, Ty.ld24, Ty.sz24, Ty.sl24, Ty.zc24, Ty.by24, *]; rfl)
      | (with_reducible refine aw_then ?_) | (with_reducible refine aw_skip ?_) | (with_reducible refine aw_ret ?_) | (with_reducible refine aw_exit ?_) | (with_reducible refine aw_block ?_) | (with_reducible refine xr_reg (by decide +kernel) ?_)
      | (with_reducible refine xr_nil ?_) | (with_reducible refine k_norm ?_) | (with_reducible refine k_ret ?_) | (with_reducible refine k_exit ?_) | (with_reducible refine b_norm ?_) | (with_reducible refine b_ret ?_) | (with_reducible refine b_exit ?_) | (with_reducible refine b_past (by decide) ?_)
      | (with_reducible refine xd_nil ?_)
      | (refine xr_do (v := ?_) (h' := ?_) (by exact rfl) ?_ ?_; rotate_left 2)
      | (refine xr_st (v := ?_) (h' := ?_) (by exact rfl) ?_ ?_; rotate_left 2)
      | (refine xd_reg (ms := [0, 0, 3, 7, 0, 0, 48, 112, 255]) Ty.mx (by decide +kernel) (by decide +kernel) ?_)
      | (refine xd_do (v := ?_) (by exact rfl) (by decide +kernel) ?_ ?_; rotate_left 1)
      | (refine aw_ift (by decide) ?_ ?_
         · simp only [ev, Zb, reduceIte, Nat.reduceEqDiff, *])
      | (refine aw_iff (by decide) ?_ ?_
         · simp only [ev, Zb, reduceIte, Nat.reduceEqDiff, *])
      | (refine aw_if (b := ?_) (by decide) ?_ (fun hb => ?_) (fun hb => ?_)
         rotate_left 1
         · simp only [ev, Zb, reduceIte, Nat.reduceEqDiff, *]; rfl)
      | (refine r_ret (vs := ?_) ?_ ?_
         rotate_left 1
         · simp only [resV, ev, Zb, reduceIte, Nat.reduceEqDiff, Zj, *]; rfl)
      )
    refine ⟨?_, rfl⟩
    rw [List.take_of_length_le hkn, List.take_of_length_le (by omega)] at hall
    simp only [oneOf, hall, Z1g]

instance Item.dec : DecidableEq Item := fun a b =>
  decidable_of_iff (a.cas = b.cas ∧ a.task = b.task ∧ a.role = b.role ∧ a.state = b.state ∧ a.who = b.who ∧ a.till = b.till) (by
    cases a; cases b; simp)

theorem eqItem_ok (a b : Item) (h : Heap) : ACalls Try.prog 0 124 #[.agg a.cells.toArray, .agg b.cells.toArray] h fun v h' => v = .bool (decide (a = b)) ∧ h' = h := by
  refine acalls_pure (.inl rfl) ?_
  obtain ⟨a1, a2, a3, a4, a5, a6⟩ := a
  obtain ⟨b1, b2, b3, b4, b5, b6⟩ := b
  simp only [Item.cells]
  refine Z36 Try.func124 rfl Try.ntmps124 (by simp) (by dsimp only [Try.f124]) ?_
  repeat' (first
    | ((with_reducible refine eq_go ?_); simp only [stp, ev, Zb, Z2e, Z1z, Zk, Zl, reduceIte, Nat.reduceEqDiff, Zj, Zz, Zu, Z16, Z1a, Zm, Zp, Zo, Zd, Zx, Z2b, Z2x, Z1g, Z17, Zq, Zn, Zv, Z2p, Z2f, Z2o, Z2d, Z2g, Z1c, Z1b, Z2i, Z2n, Z2h, Z2j, Z2k, Z2l, Z2m, Z31, Z8, Z5, Z13, Zy, ldv, fldA, Zh, Zr, Z33, Z15, Z7, Zc, Z6, Z3, Z2, Zf, Zi, Nat.reduceAdd, Nat.reduceMul, Nat.reduceLeDiff, Z11, Z12, Z1y, Z1h, Z2c, Z23, Z28, Z27, Z26, Z25, Z24, Z1m, Z1l, Z1k, Z1j, Z1i, Z1w, Z1v, Z1u, Z1t, Z1s, Z32, Z2y, Z2q, Z2r, Z2s, Z20, Z1q, Z1r, Z2z, Z2t, Z21, Z22, splice, Za, Z9, Z1, Z0, Z19, Zt, Zs, Z18, newB, vcs, Z30, Z2v, Z1x, Z29, Z1n, Z2u, Z1o, Z1f, Z1p, Z1d, Z1e, Ty.ld3, Ty.sz3, Ty.ld77, Ty.sz77, Ty.fl77_0, Ty.fl77_1, Ty.fl77_2, Ty.fl77_3, Ty.fl77_4, Ty.fl77_5, *]; rfl)
    | (with_reducible refine aw_then ?_) | (with_reducible refine aw_skip ?_) | (with_reducible refine aw_ret ?_) | (with_reducible refine aw_exit ?_) | (with_reducible refine aw_block ?_) | (with_reducible refine xr_reg (by decide +kernel) ?_)
    | (with_reducible refine xr_nil ?_) | (with_reducible refine k_norm ?_) | (with_reducible refine k_ret ?_) | (with_reducible refine k_exit ?_) | (with_reducible refine b_norm ?_) | (with_reducible refine b_ret ?_) | (with_reducible refine b_exit ?_) | (with_reducible refine b_past (by decide) ?_)
    | (refine xr_do (v := ?_) (h' := ?_) (by exact rfl) ?_ ?_; rotate_left 2)
    | (refine xr_st (v := ?_) (h' := ?_) (by exact rfl) ?_ ?_; rotate_left 2)
    | (refine aw_ift (by decide) ?_ ?_
       · simp only [ev, Zb, reduceIte, Nat.reduceEqDiff, *])
    | (refine aw_iff (by decide) ?_ ?_
       · simp only [ev, Zb, reduceIte, Nat.reduceEqDiff, *])
    | (refine aw_if (b := ?_) (by decide) ?_ (fun hb => ?_) (fun hb => ?_)
       rotate_left 1
       · simp only [ev, Zb, reduceIte, Nat.reduceEqDiff, *]; rfl)
    | (refine r_ret (vs := ?_) ?_ ?_
       rotate_left 1
       · simp only [resV, ev, Zb, reduceIte, Nat.reduceEqDiff, Zj, *]; rfl)
    )
  all_goals refine ⟨?_, _, rfl⟩
  all_goals simp_all [oneOf]

theorem eqItemS_ok (l1 l2 : List Item) (v1 v2 : Value) (h : Heap) (hs1 : Sl h v1 6 (l1.map Item.cells)) (hs2 : Sl h v2 6 (l2.map Item.cells)) (hl1 : l1.length < 9223372036854775807) (hl2 : l2.length < 9223372036854775807) :
    ACalls Try.prog 0 95 #[v1, v2] h fun v h' => v = .bool (decide (l1 = l2)) ∧ h' = h := by
  obtain ⟨b1, c1, rfl, hc1, hrow1⟩ := hs1
  obtain ⟨b2, c2, rfl, hc2, hrow2⟩ := hs2
  simp only [Zv] at hc1 hc2 ⊢
  refine Z36 Try.func95 rfl Try.ntmps95 (by simp) (by dsimp only [Try.f95]) ?_
  repeat' (first
    | ((with_reducible refine eq_go ?_); simp only [stp, ev, Zb, Z2e, Z1z, Zk, Zl, reduceIte, Nat.reduceEqDiff, Zj, Zz, Zu, Z16, Z1a, Zm, Zp, Zo, Zd, Zx, Z2b, Z2x, Z1g, Z17, Zq, Zn, Zv, Z2p, Z2f, Z2o, Z2d, Z2g, Z1c, Z1b, Z2i, Z2n, Z2h, Z2j, Z2k, Z2l, Z2m, Z31, Z8, Z5, Z13, Zy, ldv, idxA, blt, lenV, Z10, Z3, Z2, Zf, Zg, Ze, Z1, Z0, Z14, Zw, Zh, Zr, Z33, Z15, Z7, Zc, Z6, Z3, Z2, Zf, Zi, Nat.reduceAdd, Nat.reduceMul, Nat.reduceLeDiff, Z11, Z12, Z1y, Z1h, Z2c, Z23, Z28, Z27, Z26, Z25, Z24, Z1m, Z1l, Z1k, Z1j, Z1i, Z1w, Z1v, Z1u, Z1t, Z1s, Z32, Z2y, Z2q, Z2r, Z2s, Z20, Z1q, Z1r, Z2z, Z2t, Z21, Z22, splice, Za, Z9, Z1, Z0, Z19, Zt, Zs, Z18, newB, vcs, Z30, Z2v, Z1x, Z29, Z1n, Z2u, Z1o, Z1f, Z1p, Z1d, Z1e, Ty.ld3, Ty.sz3, Ty.zc3, Ty.by3, Ty.ld56, Ty.sz56, Ty.sl56, Ty.zc56, Ty.by56, Ty.ld77, Ty.sz77, Ty.zc77, Ty.by77, *]; rfl)
    | (with_reducible refine aw_then ?_) | (with_reducible refine aw_skip ?_) | (with_reducible refine aw_ret ?_) | (with_reducible refine aw_exit ?_) | (with_reducible refine aw_block ?_) | (with_reducible refine xr_reg (by decide +kernel) ?_)
    | (with_reducible refine xr_nil ?_) | (with_reducible refine k_norm ?_) | (with_reducible refine k_ret ?_) | (with_reducible refine k_exit ?_) | (with_reducible refine b_norm ?_) | (with_reducible refine b_ret ?_) | (with_reducible refine b_exit ?_) | (with_reducible refine b_past (by decide) ?_)
    | (with_reducible refine xd_nil ?_)
    | (refine xr_cl (f := ?_) (fs := ?_) (cs := ?_) (args := ?_) (K := ?_) ?_ ?_ ?_ ?_ ?_
       rotate_left 5
       · simp only [ev]; rfl
       first
       | (· with_reducible exact Ty.ok124
          rotate_left 2
          refine Z2a 124 ?_
          rotate_right 2)
       )
    | (refine xd_cl (f := ?_) (fs := ?_) (cs := ?_) (args := ?_) (v := ?_) ?_ ?_ ?_ ?_ ?_ ?_
       rotate_left 5
       · simp only [ev]; rfl
       · first | with_reducible exact Ty.ok124
       rotate_left 1
       · decide +kernel
       rotate_right 1)
    | (refine xr_do (v := ?_) (h' := ?_) (by exact rfl) ?_ ?_; rotate_left 2)
    | (refine xr_st (v := ?_) (h' := ?_) (by exact rfl) ?_ ?_; rotate_left 2)
    | (refine xd_reg (ms := [0, 0, 3, 7, 0, 0, 48, 112, 255, 511]) Ty.mx (by decide +kernel) (by decide +kernel) ?_)
    | (refine xd_do (v := ?_) (by exact rfl) (by decide +kernel) ?_ ?_; rotate_left 1)
    | (refine aw_ift (by decide) ?_ ?_
       · simp only [ev, Zb, reduceIte, Nat.reduceEqDiff, *])
    | (refine aw_iff (by decide) ?_ ?_
       · simp only [ev, Zb, reduceIte, Nat.reduceEqDiff, *])
    | (refine aw_if (b := ?_) (by decide) ?_ (fun hb => ?_) (fun hb => ?_)
       rotate_left 1
       · simp only [ev, Zb, reduceIte, Nat.reduceEqDiff, *]; rfl)
    | (refine r_ret (vs := ?_) ?_ ?_
       rotate_left 1
       · simp only [resV, ev, Zb, reduceIte, Nat.reduceEqDiff, Zj, *]; rfl)
    | (with_reducible exact eqItem_ok _ _ _)
    | ((with_reducible refine Z2w (n := 124) ?_); rintro _ _ ⟨rfl, hh⟩; replace hh := hh.symm; subst hh)
    )
  · simp only [Bool.not_eq_true', decide_eq_false_iff_not] at hb
    refine ⟨?_, rfl⟩
    have : l1 ≠ l2 := fun q => hb (by rw [q])
    simp only [oneOf, this, Z17]
  have hle : l1.length = l2.length := by
    simp only [Bool.not_eq_false', decide_eq_true_eq] at hb
    omega
  clear hb
  refine aw_for [0, 1] (fun k T h' => h' = h ∧ T 5 = .int .i64 k ∧ l1.take k = l2.take k) l1.length (k0 := 0) (Nat.zero_le _) ⟨rfl, rfl, rfl⟩ ?_
  rintro k T h' hk hR ⟨rfl, h11, hall⟩
  simp only [Z37, Z38, Z39, implies_true, and_true, stp, ev, Zb, Z2e, Z1z, Zk, Zl, reduceIte, Nat.reduceEqDiff, Zj, Zz, Zu, Z16, Z1a, Zm, Zp, Zo, Zd, Zx, Z2b, Z2x, Z1g, Z17, Zq, Zn, Zv, Z2p, Z2f, Z2o, Z2d, Z2g, Z1c, Z1b, Z2i, Z2n, Z2h, Z2j, Z2k, Z2l, Z2m, Z31, Z8, Z5, Z13, Zy] at hR
  rcases Nat.lt_or_ge k l1.length with hkn | hkn
  · have h1 : (k : Int) < l1.length := by omega
    have h1' : (k : Int) < l2.length := by omega
    obtain ⟨a1, rfl, hl1⟩ := Sl.row hrow1 (k := k) (by simpa using hkn)
    obtain ⟨a2, rfl, hl2⟩ := Sl.row hrow2 (k := k) (by simpa using (by omega : k < l2.length))
    rw [List.getElem_map] at hl1 hl2
    repeat' (first
      | ((with_reducible refine eq_go ?_); simp only [stp, ev, Zb, Z2e, Z1z, Zk, Zl, reduceIte, Nat.reduceEqDiff, Zj, Zz, Zu, Z16, Z1a, Zm, Zp, Zo, Zd, Zx, Z2b, Z2x, Z1g, Z17, Zq, Zn, Zv, Z2p, Z2f, Z2o, Z2d, Z2g, Z1c, Z1b, Z2i, Z2n, Z2h, Z2j, Z2k, Z2l, Z2m, Z31, Z8, Z5, Z13, Zy, ldv, idxA, blt, lenV, Z10, Z3, Z2, Zf, Zg, Ze, Z1, Z0, Z14, Zw, Zh, Zr, Z33, Z15, Z7, Zc, Z6, Z3, Z2, Zf, Zi, Nat.reduceAdd, Nat.reduceMul, Nat.reduceLeDiff, Z11, Z12, Z1y, Z1h, Z2c, Z23, Z28, Z27, Z26, Z25, Z24, Z1m, Z1l, Z1k, Z1j, Z1i, Z1w, Z1v, Z1u, Z1t, Z1s, Z32, Z2y, Z2q, Z2r, Z2s, Z20, Z1q, Z1r, Z2z, Z2t, Z21, Z22, splice, Za, Z9, Z1, Z0, Z19, Zt, Zs, Z18, newB, vcs, Z30, Z2v, Z1x, Z29, Z1n, Z2u, Z1o, Z1f, Z1p, Z1d, Z1e, Ty.ld3, Ty.sz3, Ty.zc3, Ty.by3, Ty.ld56, Ty.sz56, Ty.sl56, Ty.zc56, Ty.by56, Ty.ld77, Ty.sz77, Ty.zc77, Ty.by77, Item.cells_length, Item.cells_flat, Item.cells_take, *]; rfl)
      | (with_reducible refine aw_then ?_) | (with_reducible refine aw_skip ?_) | (with_reducible refine aw_ret ?_) | (with_reducible refine aw_exit ?_) | (with_reducible refine aw_block ?_) | (with_reducible refine xr_reg (by decide +kernel) ?_)
      | (with_reducible refine xr_nil ?_) | (with_reducible refine k_norm ?_) | (with_reducible refine k_ret ?_) | (with_reducible refine k_exit ?_) | (with_reducible refine b_norm ?_) | (with_reducible refine b_ret ?_) | (with_reducible refine b_exit ?_) | (with_reducible refine b_past (by decide) ?_)
      | (with_reducible refine xd_nil ?_)
      | (refine xr_cl (f := ?_) (fs := ?_) (cs := ?_) (args := ?_) (K := ?_) ?_ ?_ ?_ ?_ ?_
         rotate_left 5
         · simp only [ev]; rfl
         first
         | (· with_reducible exact Ty.ok124
            rotate_left 2
            refine Z2a 124 ?_
            rotate_right 2)
         )
      | (refine xd_cl (f := ?_) (fs := ?_) (cs := ?_) (args := ?_) (v := ?_) ?_ ?_ ?_ ?_ ?_ ?_
         rotate_left 5
         · simp only [ev]; rfl
         · first | with_reducible exact Ty.ok124
         rotate_left 1
         · decide +kernel
         rotate_right 1)
      | (refine xr_do (v := ?_) (h' := ?_) (by exact rfl) ?_ ?_; rotate_left 2)
      | (refine xr_st (v := ?_) (h' := ?_) (by exact rfl) ?_ ?_; rotate_left 2)
      | (refine xd_reg (ms := [0, 0, 3, 7, 0, 0, 48, 112, 255, 511]) Ty.mx (by decide +kernel) (by decide +kernel) ?_)
      | (refine xd_do (v := ?_) (by exact rfl) (by decide +kernel) ?_ ?_; rotate_left 1)
      | (refine aw_ift (by decide) ?_ ?_
         · simp only [ev, Zb, reduceIte, Nat.reduceEqDiff, *])
      | (refine aw_iff (by decide) ?_ ?_
         · simp only [ev, Zb, reduceIte, Nat.reduceEqDiff, *])
      | (refine aw_if (b := ?_) (by decide) ?_ (fun hb => ?_) (fun hb => ?_)
         rotate_left 1
         · simp only [ev, Zb, reduceIte, Nat.reduceEqDiff, *]; rfl)
      | (refine r_ret (vs := ?_) ?_ ?_
         rotate_left 1
         · simp only [resV, ev, Zb, reduceIte, Nat.reduceEqDiff, Zj, *]; rfl)
      | (with_reducible exact eqItem_ok _ _ _)
      | ((with_reducible refine Z2w (n := 124) ?_); rintro _ _ ⟨rfl, hh⟩; replace hh := hh.symm; subst hh)
      )
    · refine ⟨?_, rfl⟩
      have hne := take_ne hkn (by omega : k < l2.length) (by simpa using hb)
      simp only [oneOf, hne, Z17]
    refine ⟨by first | assumption | omega, ?_, ?_⟩
    · simp only [Z37, Z38, Z39, implies_true, and_true, Z2b, stp, ev, Zb, Z2e, Z1z, Zk, Zl, reduceIte, Nat.reduceEqDiff, Zj, Zz, Zu, Z16, Z1a, Zm, Zp, Zo, Zd, Zx, Z2b, Z2x, Z1g, Z17, Zq, Zn, Zv, Z2p, Z2f, Z2o, Z2d, Z2g, Z1c, Z1b, Z2i, Z2n, Z2h, Z2j, Z2k, Z2l, Z2m, Z31, Z8, Z5, Z13, Zy, *]
    refine ⟨rfl, ?_, take_snoc hkn (by omega : k < l2.length) hall (by simpa using hb)⟩
    simp only [Zb, reduceIte, Nat.reduceEqDiff]
    rw [wrap_id (by omega)]; rfl
  · have h1 : ¬ (k : Int) < l1.length := by omega
    have h1' : ¬ (k : Int) < l2.length := by omega
    repeat' (first
      | ((with_reducible refine eq_go ?_); simp only [stp, ev, Zb, Z2e, Z1z, Zk, Zl, reduceIte, Nat.reduceEqDiff, Zj, Zz, Zu, Z16, Z1a, Zm, Zp, Zo, Zd, Zx, Z2b, Z2x, Z1g, Z17, Zq, Zn, Zv, Z2p, Z2f, Z2o, Z2d, Z2g, Z1c, Z1b, Z2i, Z2n, Z2h, Z2j, Z2k, Z2l, Z2m, Z31, Z8, Z5, Z13, Zy, ldv, idxA, blt, lenV, Z10, Z3, Z2, Zf, Zg, Ze, Z1, Z0, Z14, Zw, Zh, Zr, Z33, Z15, Z7, Zc, Z6, Z3, Z2, Zf, Zi, Nat.reduceAdd, Nat.reduceMul, Nat.reduceLeDiff, Z11, Z12, Z1y, Z1h, Z2c, Z23, Z28, Z27, Z26, Z25, Z24, Z1m, Z1l, Z1k, Z1j, Z1i, Z1w, Z1v, Z1u, Z1t, Z1s, Z32, Z2y, Z2q, Z2r, Z2s, Z20, Z1q, Z1r, Z2z, Z2t, Z21, Z22, splice, Za, Z9, Z1, Z0, Z19, Zt, Zs, Z18, newB, vcs, Z30, Z2v, Z1x, Z29, Z1n, Z2u, Z1o, Z1f, Z1p, Z1d, Z1e, Ty.ld3, Ty.sz3, Ty.zc3, Ty.by3, Ty.ld56, Ty.sz56, Ty.sl56, Ty.zc56, Ty.by56, Ty.ld77, Ty.sz77, Ty.zc77, Ty.by77, *]; rfl)
      | (with_reducible refine aw_then ?_) | (with_reducible refine aw_skip ?_) | (with_reducible refine aw_ret ?_) | (with_reducible refine aw_exit ?_) | (with_reducible refine aw_block ?_) | (with_reducible refine xr_reg (by decide +kernel) ?_)
      | (with_reducible refine xr_nil ?_) | (with_reducible refine k_norm ?_) | (with_reducible refine k_ret ?_) | (with_reducible refine k_exit ?_) | (with_reducible refine b_norm ?_) | (with_reducible refine b_ret ?_) | (with_reducible refine b_exit ?_) | (with_reducible refine b_past (by decide) ?_)
      | (with_reducible refine xd_nil ?_)
      | (refine xr_cl (f := ?_) (fs := ?_) (cs := ?_) (args := ?_) (K := ?_) ?_ ?_ ?_ ?_ ?_
         rotate_left 5
         · simp only [ev]; rfl
         first
         | (· with_reducible exact Ty.ok124
            rotate_left 2
            refine Z2a 124 ?_
            rotate_right 2)
         )
      | (refine xd_cl (f := ?_) (fs := ?_) (cs := ?_) (args := ?_) (v := ?_) ?_ ?_ ?_ ?_ ?_ ?_
         rotate_left 5
         · simp only [ev]; rfl
         · first | with_reducible exact Ty.ok124
         rotate_left 1
         · decide +kernel
         rotate_right 1)
      | (refine xr_do (v := ?_) (h' := ?_) (by exact rfl) ?_ ?_; rotate_left 2)
      | (refine xr_st (v := ?_) (h' := ?_) (by exact rfl) ?_ ?_; rotate_left 2)
      | (refine xd_reg (ms := [0, 0, 3, 7, 0, 0, 48, 112, 255, 511]) Ty.mx (by decide +kernel) (by decide +kernel) ?_)
      | (refine xd_do (v := ?_) (by exact rfl) (by decide +kernel) ?_ ?_; rotate_left 1)
      | (refine aw_ift (by decide) ?_ ?_
         · simp only [ev, Zb, reduceIte, Nat.reduceEqDiff, *])
      | (refine aw_iff (by decide) ?_ ?_
         · simp only [ev, Zb, reduceIte, Nat.reduceEqDiff, *])
      | (refine aw_if (b := ?_) (by decide) ?_ (fun hb => ?_) (fun hb => ?_)
         rotate_left 1
         · simp only [ev, Zb, reduceIte, Nat.reduceEqDiff, *]; rfl)
      | (refine r_ret (vs := ?_) ?_ ?_
         rotate_left 1
         · simp only [resV, ev, Zb, reduceIte, Nat.reduceEqDiff, Zj, *]; rfl)
      | (with_reducible exact eqItem_ok _ _ _)
      | ((with_reducible refine Z2w (n := 124) ?_); rintro _ _ ⟨rfl, hh⟩; replace hh := hh.symm; subst hh)
      )
    refine ⟨?_, rfl⟩
    rw [List.take_of_length_le hkn, List.take_of_length_le (by omega)] at hall
    simp only [oneOf, hall, Z1g]
end Go.Proofs.Ytiddnhhjlipebaa.Am
namespace Go.Proofs.Ytiddnhhjlipebaa.Am
open Go Go.Proofs Go.RowKit
set_option linter.unusedVariables false
set_option linter.unusedSimpArgs false
set_option maxRecDepth 100000

def Item.wf (x : Item) : Prop := (Lit.int .i64 x.cas).wf = true ∧ (Lit.int .i64 x.task).wf = true ∧ (Lit.int .i64 x.role).wf = true ∧ (Lit.int .i64 x.state).wf = true ∧ (Lit.int .i64 x.who).wf = true ∧ (Lit.int .i64 x.till).wf = true

theorem el_item {H : Type} {enc : TypeId × Value → H} {w : World} {spare : Nat → Bool} {held : Bool} (fuel : Nat) (cs : List Value) (y : DataW H × List MemPlace)
    (h : DataW.trod enc Try.prog w 0 spare held fuel 132 cs = some y) : ∃ z : Item, cs = z.cells ∧ z.wf := by
  obtain ⟨h1, n, h2⟩ := trod_struct Try.underlying132 h
  rw [show Try.prog.cellsOf 132 = 6 by kernel_rfl] at h1
  obtain ⟨x0, x1, x2, x3, x4, x5, rfl⟩ := len6 h1
  obtain ⟨a0, e0, w0⟩ := part_int Try.underlying3 (by kernel_rfl) (h2 _ (List.mem_of_getElem? (i := 0) rfl))
  obtain rfl := Option.some.inj e0
  obtain ⟨a1, e1, w1⟩ := part_int Try.underlying3 (by kernel_rfl) (h2 _ (List.mem_of_getElem? (i := 1) rfl))
  obtain rfl := Option.some.inj e1
  obtain ⟨a2, e2, w2⟩ := part_int Try.underlying3 (by kernel_rfl) (h2 _ (List.mem_of_getElem? (i := 2) rfl))
  obtain rfl := Option.some.inj e2
  obtain ⟨a3, e3, w3⟩ := part_int Try.underlying3 (by kernel_rfl) (h2 _ (List.mem_of_getElem? (i := 3) rfl))
  obtain rfl := Option.some.inj e3
  obtain ⟨a4, e4, w4⟩ := part_int Try.underlying3 (by kernel_rfl) (h2 _ (List.mem_of_getElem? (i := 4) rfl))
  obtain rfl := Option.some.inj e4
  obtain ⟨a5, e5, w5⟩ := part_int Try.underlying3 (by kernel_rfl) (h2 _ (List.mem_of_getElem? (i := 5) rfl))
  obtain rfl := Option.some.inj e5
  exact ⟨⟨a0, a1, a2, a3, a4, a5⟩, rfl, w0, w1, w2, w3, w4, w5⟩

theorem item_plain (x : Item) : x.cells.length = 6 ∧ ∀ u ∈ x.cells, af u = true ∧ flat u = true := by
  refine ⟨rfl, fun u hu => ?_⟩
  simp only [Item.cells, List.mem_cons, Z38, or_false] at hu
  rcases hu with rfl | rfl | rfl | rfl | rfl | rfl <;> exact ⟨rfl, rfl⟩
theorem int_plain (n : Int) : ([.int .i64 n] : List Value).length = 1 ∧ ∀ u ∈ ([.int .i64 n] : List Value), af u = true ∧ flat u = true := by
  refine ⟨rfl, fun u hu => ?_⟩
  simp only [List.mem_cons, Z38, or_false] at hu
  subst hu; exact ⟨rfl, rfl⟩

/-- A desk among a law's arguments. -/
theorem open_desk {H : Type} {enc : TypeId × Value → H} {W : World} {base : Nat} {v : Value} {d : DataW H} {ps : List MemPlace} {m : Map} {h : Heap} {spare : Nat → Bool}
    (hval : Value.okWide Try.prog W .any base 53 v) (ht : DataW.Trod enc Try.prog W 0 spare true 53 v d ps) (r : WRel 0 m h W) (hno : NoOwn h) :
    ∃ (now : Int) (people : List Int) (items : List Item) (vp vi : Value) (m' : Map) (h' : Heap), (Lit.int .i64 now).wf = true ∧ WRel 0 m' (h ++ h') W ∧ NoOwn (h ++ h') ∧ Agree h.length m m' ∧
      Sl (h ++ h') vp 1 (ints people) ∧ Sl (h ++ h') vi 6 (items.map Item.cells) ∧ VRel (h ++ h').length m' (.agg #[.int .i64 now, vp, vi]) v ∧
      (∀ x ∈ people, (Lit.int .i64 x).wf = true) ∧ (∀ x ∈ items, x.wf) ∧ people.length ≤ maxLen ∧ items.length ≤ maxLen := by
  obtain ⟨cs, rfl, hl, n, hf⟩ := open_parts Try.underlying53 hval ht
  rw [show Try.prog.cellsOf 53 = 3 by kernel_rfl] at hl
  obtain ⟨x0, x1, x2, rfl⟩ := len3 hl
  obtain ⟨now, e0, w0⟩ := part_int Try.underlying3 (by kernel_rfl) (hf 0 _ rfl)
  obtain rfl := Option.some.inj e0
  have hts : Try.prog.cellTypes Try.prog.depth 53 = some [3, 24, 51] := by kernel_rfl
  have c1 := cell_slice Try.underlying24 (okWide_cell Try.underlying53 hval hts (i := 1) rfl rfl)
  have c2 := cell_slice Try.underlying51 (okWide_cell Try.underlying53 hval hts (i := 2) rfl rfl)
  obtain ⟨y1, t1⟩ := hf 1 _ rfl
  obtain ⟨y2, t2⟩ := hf 2 _ rfl
  have s1 := open_slice (n := 1) (fun z => [.int .i64 z]) (fun z => (Lit.int .i64 z).wf = true) Try.underlying24 (by kernel_rfl) (fun fuel cs y hy => el_int Try.underlying3 fuel cs y hy) c1
    (by simpa [show Try.prog.cellsOf 24 = 1 by kernel_rfl] using t1)
  have s2 := open_slice (n := 6) Item.cells Item.wf Try.underlying51 (by kernel_rfl) (fun fuel cs y hy => el_item fuel cs y hy) c2
    (by simpa [show Try.prog.cellsOf 51 = 1 by kernel_rfl] using t2)
  obtain ⟨people, m1, h1, vp, r1, no1, ag1, sl1, vr1, wf1, len1⟩ := open_arg _ _ int_plain r hno s1
  obtain ⟨items, m2, h2, vi, r2, no2, ag2, sl2, vr2, wf2, len2⟩ := open_arg _ _ item_plain r1 no1 s2
  rw [Z7] at *
  refine ⟨now, people, items, vp, vi, m2, h1 ++ h2, w0, r2, no2, ag1.trans ag2 (by simp), ?_, sl2, ?_, wf1, wf2, len1, len2⟩
  · have := sl1.old h2
    rw [Z7] at this; exact this
  · have q1 := vr1.mono (n' := (h ++ (h1 ++ h2)).length) (by simp) ag2
    exact VRs.agg (l := [.int .i64 now, vp, vi]) (l' := [.int .i64 now, x1, x2]) ⟨.int _ _, q1, vr2, trivial⟩

/-- A slice of whole numbers among a law's arguments. -/
theorem open_ints {H : Type} {enc : TypeId × Value → H} {W : World} {base : Nat} {v : Value} {d : DataW H} {ps : List MemPlace} {m : Map} {h : Heap} {spare : Nat → Bool}
    (hval : Value.okWide Try.prog W .any base 24 v) (ht : DataW.Trod enc Try.prog W 0 spare true 24 v d ps) (r : WRel 0 m h W) (hno : NoOwn h) :
    ∃ (l : List Int) (v' : Value) (m' : Map) (h' : Heap), WRel 0 m' (h ++ h') W ∧ NoOwn (h ++ h') ∧ Agree h.length m m' ∧
      Sl (h ++ h') v' 1 (ints l) ∧ VRel (h ++ h').length m' v' v ∧ (∀ x ∈ l, (Lit.int .i64 x).wf = true) ∧ l.length ≤ maxLen := by
  have c1 := value_slice Try.underlying24 hval
  obtain ⟨fuel, hf⟩ := ht
  have hf' : DataW.trod enc Try.prog W 0 spare true fuel 24 [v] = some (d, ps) := by
    have hv : v.cells.toList = [v] := by
      unfold Cell.ok at c1
      rw [Try.underlying24] at c1
      cases v <;> first | rfl | (exact c1.elim)
    rw [← hv]; exact hf
  have s1 := open_slice (n := 1) (fun z => [.int .i64 z]) (fun z => (Lit.int .i64 z).wf = true) Try.underlying24 (by kernel_rfl) (fun fuel cs y hy => el_int Try.underlying3 fuel cs y hy) c1 hf'
  obtain ⟨l, m1, h1, vp, r1, no1, ag1, sl1, vr1, wf1, len1⟩ := open_arg _ _ int_plain r hno s1
  exact ⟨l, vp, m1, h1, r1, no1, ag1, sl1, vr1, wf1, len1⟩
end Go.Proofs.Ytiddnhhjlipebaa.Am
