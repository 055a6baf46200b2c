/- The program's reader of frames. Conditions: none. -/
import Derived.Test.YtkmenomglhddlaaDoorD6
namespace Go.Proofs.YtkmenomglhddlaaDoor.Am
open Go Go.Proofs Go.RowKit
set_option linter.unusedVariables false
set_option linter.unusedSimpArgs false
set_option maxRecDepth 100000
set_option maxHeartbeats 8000000

theorem frameOfE (r : Nat) (s : ByteArray) (h : Heap) (hr : r ≤ 99) (hs : s.size ≤ 60) : ACalls Tryd.prog dE 51 #[.int .i64 (r : Nat), .string s] h fun v h' => v = .string (frameT r s) ∧ h' = h := upPE (frameOf_ok r s h hr hs)
theorem withinE (n lo hi : Int) (h : Heap) : ACalls Tryd.prog dE 50 #[.int .i64 n, .int .i64 lo, .int .i64 hi] h fun v h' => v = .bool (decide (lo ≤ n ∧ n ≤ hi)) ∧ h' = h := upPE (within_ok n lo hi h)

theorem nil_nil : binV Tryd.prog .neq 104 (.tmp 27) (.const .nilIface) .nilIface .nilIface = some (.bool false) := by kernel_rfl
theorem err_nil (xo yo : Operand) (t : TypeId) (p : Value) : binV Tryd.prog .neq 104 xo yo (.iface t p) .nilIface = some (.bool true) := by
  simp only [binV, Tryd.underlying104]

theorem readFrames_ok (t : ByteArray) (h : Heap) (ht : t.size ≤ 1048576) : ACalls Tryd.prog dE 59 #[.string t] h fun v h' => v = frV h.length (rdF t 99 0 []) ∧ h' = h ++ frL (rdF t 99 0 []) := by
  refine acalls_canon _ _ ?_
  generalize hR : rdF t 99 0 [] = R
  have hnn := nil_nil
  have hen := err_nil
  refine acalls_fn Tryd.func59 rfl Tryd.ntmps59 (by simp) (by dsimp only [Tryd.f59]) ?_
  repeat' (first
    | ((with_reducible refine eq_go ?_); simp only [stp, ev, put_some, put_none, argT_list, List.getD_cons_zero, List.getD_cons_succ, reduceIte, Nat.reduceEqDiff, Option.map_some, Array.map_empty, List.map_toArray, List.map_cons, List.map_nil, List.append_toArray, Array.append_empty, Array.empty_append, List.nil_append, List.append_nil, and_self, if_true, decide_true, decide_false, Int.toNat_natCast, Int.natCast_nonneg, List.length_map, binV_add, binV_sub, binV_and, binV_shr, binV_shl, binV_str_eql, binV_str_neq, binV_mul, binV_eql, binV_neq, binV_lss, binV_leq, binV_gtr, binV_geq, unV_not, Bool.not_true, Bool.not_false, Bool.cond_true, Bool.cond_false, Option.map_none, List.getElem?_toArray, List.getElem?_cons_zero, List.getElem?_cons_succ, blt, lenV, List.size_toArray, List.length_cons, List.length_nil, Nat.zero_add, Array.getD_eq_getD_getElem?, List.getElem?_toArray, List.getElem?_cons_zero, List.getElem?_cons_succ, Option.getD_some, Option.isSome_some, Nat.add_assoc, List.toList_toArray, eq_self, Option.bind_some, List.append_assoc, List.cons_append, List.length_append, List.length_cons, List.length_nil, Nat.zero_add, Nat.add_zero, Nat.reduceAdd, Nat.reduceMul, Nat.reduceLeDiff, mset_some, mset_none, set_at, set_at0, killL_nil, killL_cons, getC_succ2, getC_succ3, getC_succ4, getC_succ5, getC_succ6, loadCs_succ2, loadCs_succ3, loadCs_succ4, loadCs_succ5, loadCs_succ6, setCs_succ2, setCs_succ3, setCs_succ4, setCs_succ5, setCs_succ6, getC_at, getC_at0, getC_zero, getC_succ, loadCs_at, loadCs_at0, loadCs_zero, loadCs_succ, setCs_at, setCs_at0, setCs_zero, setCs_succ, splice, List.set_cons_succ, List.set_cons_zero, List.getElem?_cons_zero, List.getElem?_cons_succ, List.drop_zero, List.drop_succ_cons, List.take_succ_cons, List.take_zero, newB, vcs, flat_int, flat_bool, flat_string, flat_slice, flat_pointer, flat_func, flat_nilFunc, List.all_cons, List.all_nil, Bool.and_true, Bool.and_self, Ty.ld3, Ty.sz3, Ty.zc3, Ty.by3, Ty.ld9, Ty.sz9, Ty.st9, Ty.zc9, Ty.by9, Ty.ld40, Ty.sz40, Ty.sl40, Ty.zc40, Ty.by40, Ty.ld104, Ty.sz104, Ty.zc104, Ty.by104, *]; rfl)
    | (with_reducible refine aw_then ?_) | (with_reducible refine aw_skip ?_) | (with_reducible refine aw_ret ?_) | (with_reducible refine aw_exit ?_) | (with_reducible refine aw_block ?_) | (with_reducible refine xr_reg (by decide +kernel) ?_)
    | (with_reducible refine xr_nil ?_) | (with_reducible refine k_norm ?_) | (with_reducible refine k_ret ?_) | (with_reducible refine k_exit ?_) | (with_reducible refine b_norm ?_) | (with_reducible refine b_ret ?_) | (with_reducible refine b_exit ?_) | (with_reducible refine b_past (by decide) ?_)
    | (with_reducible refine xd_nil ?_)
    | (refine xr_cl (f := ?_) (fs := ?_) (cs := ?_) (args := ?_) (K := ?_) ?_ ?_ ?_ ?_ ?_
       rotate_left 5
       · simp only [ev]; rfl
       first
       | (· with_reducible exact Ty.ok50
          rotate_left 2
          refine hk_tag 50 ?_
          rotate_right 2)
       | (· with_reducible exact Ty.ok51
          rotate_left 2
          refine hk_tag 51 ?_
          rotate_right 2)
       | (· with_reducible exact Ty.ok78
          rotate_left 2
          refine hk_tag 78 ?_
          rotate_right 2)
       )
    | (refine xr_gcl (f := ?_) (fs := ?_) (cs := ?_) (args := ?_) (K := ?_) (by exact rfl) ?_ ?_ ?_ ?_ ?_ ?_
       rotate_left 5
       · simp only [ev, put_some, reduceIte, Nat.reduceEqDiff, Bool.not_true, Bool.not_false, *]
       · simp only [ev]; rfl
       first
       | (· with_reducible exact Ty.ok50
          rotate_left 2
          refine hk_tag 50 ?_
          rotate_right 2)
       | (· with_reducible exact Ty.ok51
          rotate_left 2
          refine hk_tag 51 ?_
          rotate_right 2)
       | (· with_reducible exact Ty.ok78
          rotate_left 2
          refine hk_tag 78 ?_
          rotate_right 2)
       )
    | (refine xd_cl (f := ?_) (fs := ?_) (cs := ?_) (args := ?_) (v := ?_) ?_ ?_ ?_ ?_ ?_ ?_
       rotate_left 5
       · simp only [ev]; rfl
       · first | with_reducible exact Ty.ok50 | with_reducible exact Ty.ok51 | with_reducible exact Ty.ok78
       rotate_left 1
       · decide +kernel
       rotate_right 1)
    | (refine xd_gcl (f := ?_) (fs := ?_) (cs := ?_) (args := ?_) (v := ?_) (by exact rfl) ?_ ?_ ?_ ?_ ?_ ?_ ?_
       rotate_left 5
       · simp only [ev, put_some, reduceIte, Nat.reduceEqDiff, Bool.not_true, Bool.not_false, *]
       · simp only [ev]; rfl
       · first | with_reducible exact Ty.ok50 | with_reducible exact Ty.ok51 | with_reducible exact Ty.ok78
       rotate_left 1
       · decide +kernel
       rotate_right 1)
    | (refine xr_do (v := ?_) (h' := ?_) (by exact rfl) ?_ ?_; rotate_left 2)
    | (refine xr_st (v := ?_) (h' := ?_) (by exact rfl) ?_ ?_; rotate_left 2)
    | (refine xd_reg (ms := [0, 0, 3, 0, 0, 16, 56, 127]) Ty.mx (by decide +kernel) (by decide +kernel) ?_)
    | (refine xd_bs (v := ?_) (h' := ?_) (L := ?_) (by decide +kernel) ?_ ?_ ?_
       rotate_left 3
       · simp only [stp, ev, put_some, put_none, argT_list, List.getD_cons_zero, List.getD_cons_succ, reduceIte, Nat.reduceEqDiff, Option.map_some, Array.map_empty, List.map_toArray, List.map_cons, List.map_nil, List.append_toArray, Array.append_empty, Array.empty_append, List.nil_append, List.append_nil, and_self, if_true, decide_true, decide_false, Int.toNat_natCast, Int.natCast_nonneg, List.length_map, binV_add, binV_sub, binV_and, binV_shr, binV_shl, binV_str_eql, binV_str_neq, binV_mul, binV_eql, binV_neq, binV_lss, binV_leq, binV_gtr, binV_geq, unV_not, Bool.not_true, Bool.not_false, Bool.cond_true, Bool.cond_false, Option.map_none, List.getElem?_toArray, List.getElem?_cons_zero, List.getElem?_cons_succ, blt, lenV, List.size_toArray, List.length_cons, List.length_nil, Nat.zero_add, Array.getD_eq_getD_getElem?, List.getElem?_toArray, List.getElem?_cons_zero, List.getElem?_cons_succ, Option.getD_some, Option.isSome_some, Nat.add_assoc, List.toList_toArray, eq_self, Option.bind_some, List.append_assoc, List.cons_append, List.length_append, List.length_cons, List.length_nil, Nat.zero_add, Nat.add_zero, Nat.reduceAdd, Nat.reduceMul, Nat.reduceLeDiff, mset_some, mset_none, set_at, set_at0, killL_nil, killL_cons, getC_succ2, getC_succ3, getC_succ4, getC_succ5, getC_succ6, loadCs_succ2, loadCs_succ3, loadCs_succ4, loadCs_succ5, loadCs_succ6, setCs_succ2, setCs_succ3, setCs_succ4, setCs_succ5, setCs_succ6, getC_at, getC_at0, getC_zero, getC_succ, loadCs_at, loadCs_at0, loadCs_zero, loadCs_succ, setCs_at, setCs_at0, setCs_zero, setCs_succ, splice, List.set_cons_succ, List.set_cons_zero, List.getElem?_cons_zero, List.getElem?_cons_succ, List.drop_zero, List.drop_succ_cons, List.take_succ_cons, List.take_zero, newB, vcs, flat_int, flat_bool, flat_string, flat_slice, flat_pointer, flat_func, flat_nilFunc, List.all_cons, List.all_nil, Bool.and_true, Bool.and_self, Ty.ld3, Ty.sz3, Ty.zc3, Ty.by3, Ty.ld9, Ty.sz9, Ty.st9, Ty.zc9, Ty.by9, Ty.ld40, Ty.sz40, Ty.sl40, Ty.zc40, Ty.by40, Ty.ld104, Ty.sz104, Ty.zc104, Ty.by104, *]; rfl
       · exact rfl
       skip)
    | (refine xd_do (v := ?_) (by exact rfl) (by decide +kernel) ?_ ?_; rotate_left 1)
    | (refine xd_gdo (v := ?_) (by exact rfl) (by decide +kernel) (by exact rfl) ?_ ?_ ?_
       rotate_left 1
       · simp only [ev, put_some, reduceIte, Nat.reduceEqDiff, Bool.not_true, Bool.not_false, *])
    | (refine xd_goff (by exact rfl) ?_ ?_
       · simp only [ev, put_some, reduceIte, Nat.reduceEqDiff, Bool.not_true, Bool.not_false, *])
    | (refine xd_gund (by exact rfl) ?_ ?_
       · simp only [ev, put_some, reduceIte, Nat.reduceEqDiff, Bool.not_true, Bool.not_false, *])
    | (refine xd_gif (b := ?_) (by exact rfl) ?_ (fun hb => ?_) (fun hb => ?_)
       rotate_left 1
       · simp only [ev, put_some, reduceIte, Nat.reduceEqDiff, Bool.not_true, Bool.not_false, *]; rfl)
    | (refine xr_gdo (v := ?_) (h' := ?_) (by exact rfl) (by exact rfl) ?_ ?_ ?_
       rotate_left 2
       · simp only [ev, put_some, reduceIte, Nat.reduceEqDiff, Bool.not_true, Bool.not_false, *])
    | (refine xr_gst (v := ?_) (h' := ?_) (by exact rfl) (by exact rfl) ?_ ?_ ?_
       rotate_left 2
       · simp only [ev, put_some, reduceIte, Nat.reduceEqDiff, Bool.not_true, Bool.not_false, *])
    | (refine xr_goff (by exact rfl) ?_ ?_
       · simp only [ev, put_some, reduceIte, Nat.reduceEqDiff, Bool.not_true, Bool.not_false, *])
    | (refine xr_gsoff (by exact rfl) ?_ ?_
       · simp only [ev, put_some, reduceIte, Nat.reduceEqDiff, Bool.not_true, Bool.not_false, *])
    | (refine xr_gund (by exact rfl) ?_ ?_
       · simp only [ev, put_some, reduceIte, Nat.reduceEqDiff, Bool.not_true, Bool.not_false, *])
    | (refine xr_gsund (by exact rfl) ?_ ?_
       · simp only [ev, put_some, reduceIte, Nat.reduceEqDiff, Bool.not_true, Bool.not_false, *])
    | (refine xr_gif (b := ?_) (by exact rfl) ?_ (fun hb => ?_) (fun hb => ?_)
       rotate_left 1
       · simp only [ev, put_some, reduceIte, Nat.reduceEqDiff, Bool.not_true, Bool.not_false, *]; rfl)
    | (refine aw_ift (by decide) ?_ ?_
       · simp only [ev, put_some, reduceIte, Nat.reduceEqDiff, *])
    | (refine aw_iff (by decide) ?_ ?_
       · simp only [ev, put_some, reduceIte, Nat.reduceEqDiff, *])
    | (refine aw_if (b := ?_) (by decide) ?_ (fun hb => ?_) (fun hb => ?_)
       rotate_left 1
       · simp only [ev, put_some, reduceIte, Nat.reduceEqDiff, *]; rfl)
    | (refine r_ret (vs := ?_) ?_ ?_
       rotate_left 1
       · simp only [resV, ev, put_some, reduceIte, Nat.reduceEqDiff, Option.map_some, *]; rfl)
    | (with_reducible exact withinE _ _ _ _)
    | (with_reducible refine frameOfE _ _ _ ?_ ?_
       · first | omega | (simp only [List.length_nil]; omega)
       · first | omega | (simp only [List.length_nil]; omega)
       )
    | (with_reducible refine atoi_yes _ ?_ _ ?_ ?_
       rotate_left 1
       · first | omega | (simp only [List.length_nil]; omega)
       · assumption
       )
    | (with_reducible exact hno _)
    | ((with_reducible refine HkTag.mk (n := 50) ?_); rintro _ _ ⟨rfl, hh⟩; replace hh := hh.symm; subst hh)
    | ((with_reducible refine HkTag.mk (n := 51) ?_); rintro _ _ ⟨rfl, hh⟩; replace hh := hh.symm; subst hh)
    | ((with_reducible refine HkTag.mk (n := 78) ?_); rintro _ _ ⟨rfl, hh⟩; replace hh := hh.symm; subst hh)
    )
  refine aw_loop (n := 99) (fun m T h' => ∃ L acc pos, m = 99 - acc.length ∧ acc.length ≤ 99 ∧ pos ≤ t.size ∧ h' = h ++ L ∧ T 0 = .string t ∧ T 5 = .int .i64 (pos : Nat) ∧ T 6 = .int .i64 ((acc.length + 1 : Nat) : Int) ∧ App h.length L (T 4) 1 (txs acc) acc.length ∧ rdF t (99 - acc.length) pos acc = R)
    ⟨[], [], 0, rfl, Nat.zero_le _, Nat.zero_le _, (List.append_nil h).symm, rfl, rfl, rfl, App.nil _ _ _, hR⟩ ?_
  rintro m T h' ⟨L, acc, pos, rfl, hal, hpos, rfl, h0, h5, h6, hap, hrd⟩
  clear hR
  obtain ⟨b, h4⟩ := app_slice hap
  have hfl := hap.flat
  rw [h4] at hap hfl
  have hcut := fun h => cut_str_lo (P := Tryd.prog) (h := h) Ty.st9 t (pos : Int) (by omega) (by omega) .i64
  simp only [Int.toNat_natCast] at hcut
  have hrs : (t.extract pos t.size).size = t.size - pos := by rw [ByteArray.size_extract]; omega
  by_cases ha : acc.length < 99
  · have ha' : ((acc.length + 1 : Nat) : Int) ≤ 99 := by omega
    have hfu : 99 - acc.length = (98 - acc.length) + 1 := by omega
    rw [hfu] at hrd
    clear hfu
    generalize hs : t.extract pos t.size = s at *
    have hrs' : s.size + pos ≤ t.size := by omega
    clear hrs
    have no_fit : (∀ n, ¬ fit s (acc.length + 1) n) → (acc, pos) = R := fun q => by
      subst hs
      rw [rdF_no q] at hrd; exact hrd
    by_cases h8 : s.size < 8
    · have h8' : (s.size : Int) < 8 := by omega
      have hd := no_fit fun n q => by have := q.2.1; omega
      clear no_fit hrd
      repeat' (first
        | ((with_reducible refine eq_go ?_); simp only [stp, ev, put_some, put_none, argT_list, List.getD_cons_zero, List.getD_cons_succ, reduceIte, Nat.reduceEqDiff, Option.map_some, Array.map_empty, List.map_toArray, List.map_cons, List.map_nil, List.append_toArray, Array.append_empty, Array.empty_append, List.nil_append, List.append_nil, and_self, if_true, decide_true, decide_false, Int.toNat_natCast, Int.natCast_nonneg, List.length_map, binV_add, binV_sub, binV_and, binV_shr, binV_shl, binV_str_eql, binV_str_neq, binV_mul, binV_eql, binV_neq, binV_lss, binV_leq, binV_gtr, binV_geq, unV_not, Bool.not_true, Bool.not_false, Bool.cond_true, Bool.cond_false, Option.map_none, List.getElem?_toArray, List.getElem?_cons_zero, List.getElem?_cons_succ, blt, lenV, List.size_toArray, List.length_cons, List.length_nil, Nat.zero_add, Array.getD_eq_getD_getElem?, List.getElem?_toArray, List.getElem?_cons_zero, List.getElem?_cons_succ, Option.getD_some, Option.isSome_some, Nat.add_assoc, List.toList_toArray, eq_self, Option.bind_some, List.append_assoc, List.cons_append, List.length_append, List.length_cons, List.length_nil, Nat.zero_add, Nat.add_zero, Nat.reduceAdd, Nat.reduceMul, Nat.reduceLeDiff, mset_some, mset_none, set_at, set_at0, killL_nil, killL_cons, getC_succ2, getC_succ3, getC_succ4, getC_succ5, getC_succ6, loadCs_succ2, loadCs_succ3, loadCs_succ4, loadCs_succ5, loadCs_succ6, setCs_succ2, setCs_succ3, setCs_succ4, setCs_succ5, setCs_succ6, getC_at, getC_at0, getC_zero, getC_succ, loadCs_at, loadCs_at0, loadCs_zero, loadCs_succ, setCs_at, setCs_at0, setCs_zero, setCs_succ, splice, List.set_cons_succ, List.set_cons_zero, List.getElem?_cons_zero, List.getElem?_cons_succ, List.drop_zero, List.drop_succ_cons, List.take_succ_cons, List.take_zero, newB, vcs, flat_int, flat_bool, flat_string, flat_slice, flat_pointer, flat_func, flat_nilFunc, List.all_cons, List.all_nil, Bool.and_true, Bool.and_self, Ty.ld3, Ty.sz3, Ty.zc3, Ty.by3, Ty.ld9, Ty.sz9, Ty.st9, Ty.zc9, Ty.by9, Ty.ld40, Ty.sz40, Ty.sl40, Ty.zc40, Ty.by40, Ty.ld104, Ty.sz104, Ty.zc104, Ty.by104, *]; rfl)
        | (with_reducible refine aw_then ?_) | (with_reducible refine aw_skip ?_) | (with_reducible refine aw_ret ?_) | (with_reducible refine aw_exit ?_) | (with_reducible refine aw_block ?_) | (with_reducible refine xr_reg (by decide +kernel) ?_)
        | (with_reducible refine xr_nil ?_) | (with_reducible refine k_norm ?_) | (with_reducible refine k_ret ?_) | (with_reducible refine k_exit ?_) | (with_reducible refine b_norm ?_) | (with_reducible refine b_ret ?_) | (with_reducible refine b_exit ?_) | (with_reducible refine b_past (by decide) ?_)
        | (with_reducible refine xd_nil ?_)
        | (refine xr_cl (f := ?_) (fs := ?_) (cs := ?_) (args := ?_) (K := ?_) ?_ ?_ ?_ ?_ ?_
           rotate_left 5
           · simp only [ev]; rfl
           first
           | (· with_reducible exact Ty.ok50
              rotate_left 2
              refine hk_tag 50 ?_
              rotate_right 2)
           | (· with_reducible exact Ty.ok51
              rotate_left 2
              refine hk_tag 51 ?_
              rotate_right 2)
           | (· with_reducible exact Ty.ok78
              rotate_left 2
              refine hk_tag 78 ?_
              rotate_right 2)
           )
        | (refine xr_gcl (f := ?_) (fs := ?_) (cs := ?_) (args := ?_) (K := ?_) (by exact rfl) ?_ ?_ ?_ ?_ ?_ ?_
           rotate_left 5
           · simp only [ev, put_some, reduceIte, Nat.reduceEqDiff, Bool.not_true, Bool.not_false, *]
           · simp only [ev]; rfl
           first
           | (· with_reducible exact Ty.ok50
              rotate_left 2
              refine hk_tag 50 ?_
              rotate_right 2)
           | (· with_reducible exact Ty.ok51
              rotate_left 2
              refine hk_tag 51 ?_
              rotate_right 2)
           | (· with_reducible exact Ty.ok78
              rotate_left 2
              refine hk_tag 78 ?_
              rotate_right 2)
           )
        | (refine xd_cl (f := ?_) (fs := ?_) (cs := ?_) (args := ?_) (v := ?_) ?_ ?_ ?_ ?_ ?_ ?_
           rotate_left 5
           · simp only [ev]; rfl
           · first | with_reducible exact Ty.ok50 | with_reducible exact Ty.ok51 | with_reducible exact Ty.ok78
           rotate_left 1
           · decide +kernel
           rotate_right 1)
        | (refine xd_gcl (f := ?_) (fs := ?_) (cs := ?_) (args := ?_) (v := ?_) (by exact rfl) ?_ ?_ ?_ ?_ ?_ ?_ ?_
           rotate_left 5
           · simp only [ev, put_some, reduceIte, Nat.reduceEqDiff, Bool.not_true, Bool.not_false, *]
           · simp only [ev]; rfl
           · first | with_reducible exact Ty.ok50 | with_reducible exact Ty.ok51 | with_reducible exact Ty.ok78
           rotate_left 1
           · decide +kernel
           rotate_right 1)
        | (refine xr_do (v := ?_) (h' := ?_) (by exact rfl) ?_ ?_; rotate_left 2)
        | (refine xr_st (v := ?_) (h' := ?_) (by exact rfl) ?_ ?_; rotate_left 2)
        | (refine xd_reg (ms := [0, 0, 3, 0, 0, 16, 56, 127]) Ty.mx (by decide +kernel) (by decide +kernel) ?_)
        | (refine xd_bs (v := ?_) (h' := ?_) (L := ?_) (by decide +kernel) ?_ ?_ ?_
           rotate_left 3
           · simp only [stp, ev, put_some, put_none, argT_list, List.getD_cons_zero, List.getD_cons_succ, reduceIte, Nat.reduceEqDiff, Option.map_some, Array.map_empty, List.map_toArray, List.map_cons, List.map_nil, List.append_toArray, Array.append_empty, Array.empty_append, List.nil_append, List.append_nil, and_self, if_true, decide_true, decide_false, Int.toNat_natCast, Int.natCast_nonneg, List.length_map, binV_add, binV_sub, binV_and, binV_shr, binV_shl, binV_str_eql, binV_str_neq, binV_mul, binV_eql, binV_neq, binV_lss, binV_leq, binV_gtr, binV_geq, unV_not, Bool.not_true, Bool.not_false, Bool.cond_true, Bool.cond_false, Option.map_none, List.getElem?_toArray, List.getElem?_cons_zero, List.getElem?_cons_succ, blt, lenV, List.size_toArray, List.length_cons, List.length_nil, Nat.zero_add, Array.getD_eq_getD_getElem?, List.getElem?_toArray, List.getElem?_cons_zero, List.getElem?_cons_succ, Option.getD_some, Option.isSome_some, Nat.add_assoc, List.toList_toArray, eq_self, Option.bind_some, List.append_assoc, List.cons_append, List.length_append, List.length_cons, List.length_nil, Nat.zero_add, Nat.add_zero, Nat.reduceAdd, Nat.reduceMul, Nat.reduceLeDiff, mset_some, mset_none, set_at, set_at0, killL_nil, killL_cons, getC_succ2, getC_succ3, getC_succ4, getC_succ5, getC_succ6, loadCs_succ2, loadCs_succ3, loadCs_succ4, loadCs_succ5, loadCs_succ6, setCs_succ2, setCs_succ3, setCs_succ4, setCs_succ5, setCs_succ6, getC_at, getC_at0, getC_zero, getC_succ, loadCs_at, loadCs_at0, loadCs_zero, loadCs_succ, setCs_at, setCs_at0, setCs_zero, setCs_succ, splice, List.set_cons_succ, List.set_cons_zero, List.getElem?_cons_zero, List.getElem?_cons_succ, List.drop_zero, List.drop_succ_cons, List.take_succ_cons, List.take_zero, newB, vcs, flat_int, flat_bool, flat_string, flat_slice, flat_pointer, flat_func, flat_nilFunc, List.all_cons, List.all_nil, Bool.and_true, Bool.and_self, Ty.ld3, Ty.sz3, Ty.zc3, Ty.by3, Ty.ld9, Ty.sz9, Ty.st9, Ty.zc9, Ty.by9, Ty.ld40, Ty.sz40, Ty.sl40, Ty.zc40, Ty.by40, Ty.ld104, Ty.sz104, Ty.zc104, Ty.by104, *]; rfl
           · exact rfl
           skip)
        | (refine xd_do (v := ?_) (by exact rfl) (by decide +kernel) ?_ ?_; rotate_left 1)
        | (refine xd_gdo (v := ?_) (by exact rfl) (by decide +kernel) (by exact rfl) ?_ ?_ ?_
           rotate_left 1
           · simp only [ev, put_some, reduceIte, Nat.reduceEqDiff, Bool.not_true, Bool.not_false, *])
        | (refine xd_goff (by exact rfl) ?_ ?_
           · simp only [ev, put_some, reduceIte, Nat.reduceEqDiff, Bool.not_true, Bool.not_false, *])
        | (refine xd_gund (by exact rfl) ?_ ?_
           · simp only [ev, put_some, reduceIte, Nat.reduceEqDiff, Bool.not_true, Bool.not_false, *])
        | (refine xd_gif (b := ?_) (by exact rfl) ?_ (fun hb => ?_) (fun hb => ?_)
           rotate_left 1
           · simp only [ev, put_some, reduceIte, Nat.reduceEqDiff, Bool.not_true, Bool.not_false, *]; rfl)
        | (refine xr_gdo (v := ?_) (h' := ?_) (by exact rfl) (by exact rfl) ?_ ?_ ?_
           rotate_left 2
           · simp only [ev, put_some, reduceIte, Nat.reduceEqDiff, Bool.not_true, Bool.not_false, *])
        | (refine xr_gst (v := ?_) (h' := ?_) (by exact rfl) (by exact rfl) ?_ ?_ ?_
           rotate_left 2
           · simp only [ev, put_some, reduceIte, Nat.reduceEqDiff, Bool.not_true, Bool.not_false, *])
        | (refine xr_goff (by exact rfl) ?_ ?_
           · simp only [ev, put_some, reduceIte, Nat.reduceEqDiff, Bool.not_true, Bool.not_false, *])
        | (refine xr_gsoff (by exact rfl) ?_ ?_
           · simp only [ev, put_some, reduceIte, Nat.reduceEqDiff, Bool.not_true, Bool.not_false, *])
        | (refine xr_gund (by exact rfl) ?_ ?_
           · simp only [ev, put_some, reduceIte, Nat.reduceEqDiff, Bool.not_true, Bool.not_false, *])
        | (refine xr_gsund (by exact rfl) ?_ ?_
           · simp only [ev, put_some, reduceIte, Nat.reduceEqDiff, Bool.not_true, Bool.not_false, *])
        | (refine xr_gif (b := ?_) (by exact rfl) ?_ (fun hb => ?_) (fun hb => ?_)
           rotate_left 1
           · simp only [ev, put_some, reduceIte, Nat.reduceEqDiff, Bool.not_true, Bool.not_false, *]; rfl)
        | (refine aw_ift (by decide) ?_ ?_
           · simp only [ev, put_some, reduceIte, Nat.reduceEqDiff, *])
        | (refine aw_iff (by decide) ?_ ?_
           · simp only [ev, put_some, reduceIte, Nat.reduceEqDiff, *])
        | (refine aw_if (b := ?_) (by decide) ?_ (fun hb => ?_) (fun hb => ?_)
           rotate_left 1
           · simp only [ev, put_some, reduceIte, Nat.reduceEqDiff, *]; rfl)
        | (refine r_ret (vs := ?_) ?_ ?_
           rotate_left 1
           · simp only [resV, ev, put_some, reduceIte, Nat.reduceEqDiff, Option.map_some, *]; rfl)
        | (with_reducible exact withinE _ _ _ _)
        | (with_reducible refine frameOfE _ _ _ ?_ ?_
           · first | omega | (simp only [List.length_nil]; omega)
           · first | omega | (simp only [List.length_nil]; omega)
           )
        | (with_reducible refine atoi_yes _ ?_ _ ?_ ?_
           rotate_left 1
           · first | omega | (simp only [List.length_nil]; omega)
           · assumption
           )
        | (with_reducible exact hno _)
        | ((with_reducible refine HkTag.mk (n := 50) ?_); rintro _ _ ⟨rfl, hh⟩; replace hh := hh.symm; subst hh)
        | ((with_reducible refine HkTag.mk (n := 51) ?_); rintro _ _ ⟨rfl, hh⟩; replace hh := hh.symm; subst hh)
        | ((with_reducible refine HkTag.mk (n := 78) ?_); rintro _ _ ⟨rfl, hh⟩; replace hh := hh.symm; subst hh)
        )
      exact fr_canon hd hap
    have h8' : ¬ (s.size : Int) < 8 := by omega
    have hc2 := fun h => cut_str (P := Tryd.prog) (h := h) Ty.st9 s 2 4 (by omega) (by omega) (by omega) .i64 .i64
    simp only [show (2 : Int).toNat = 2 from rfl, show (4 : Int).toNat = 4 from rfl] at hc2
    have hs2 : (s.extract 2 4).size = 2 := by rw [ByteArray.size_extract]; omega
    by_cases hok : ∃ z, Lib.atoiAll (s.extract 2 4).data.toList = .ok z
    · obtain ⟨z, hok⟩ := hok
      have fit_z : ∀ n, fit s (acc.length + 1) n → z = (n : Int) := fun n q => by
        have := atoi2 n q.1
        rw [← fit_two q, hok] at this
        cases this; rfl
      by_cases hz : 0 ≤ z ∧ z ≤ 60
      · obtain ⟨n, rfl⟩ : ∃ n : Nat, z = (n : Int) := ⟨z.toNat, by omega⟩
        have hn60 : (n : Int) ≤ 60 := hz.2
        clear hz
        have hw2 : IntKind.i64.wrap (8 + (n : Int)) = ((8 + n : Nat) : Int) := by rw [wrap_id (by omega)]; omega
        by_cases hl : s.size < 8 + n
        · have hl' : (s.size : Int) < ((8 + n : Nat) : Int) := by omega
          have hd := no_fit fun n' q => by have := q.2.1; have := fit_z n' q; omega
          clear no_fit hrd fit_z
          repeat' (first
            | ((with_reducible refine eq_go ?_); simp only [stp, ev, put_some, put_none, argT_list, List.getD_cons_zero, List.getD_cons_succ, reduceIte, Nat.reduceEqDiff, Option.map_some, Array.map_empty, List.map_toArray, List.map_cons, List.map_nil, List.append_toArray, Array.append_empty, Array.empty_append, List.nil_append, List.append_nil, and_self, if_true, decide_true, decide_false, Int.toNat_natCast, Int.natCast_nonneg, List.length_map, binV_add, binV_sub, binV_and, binV_shr, binV_shl, binV_str_eql, binV_str_neq, binV_mul, binV_eql, binV_neq, binV_lss, binV_leq, binV_gtr, binV_geq, unV_not, Bool.not_true, Bool.not_false, Bool.cond_true, Bool.cond_false, Option.map_none, List.getElem?_toArray, List.getElem?_cons_zero, List.getElem?_cons_succ, blt, lenV, List.size_toArray, List.length_cons, List.length_nil, Nat.zero_add, Array.getD_eq_getD_getElem?, List.getElem?_toArray, List.getElem?_cons_zero, List.getElem?_cons_succ, Option.getD_some, Option.isSome_some, Nat.add_assoc, List.toList_toArray, eq_self, Option.bind_some, List.append_assoc, List.cons_append, List.length_append, List.length_cons, List.length_nil, Nat.zero_add, Nat.add_zero, Nat.reduceAdd, Nat.reduceMul, Nat.reduceLeDiff, mset_some, mset_none, set_at, set_at0, killL_nil, killL_cons, getC_succ2, getC_succ3, getC_succ4, getC_succ5, getC_succ6, loadCs_succ2, loadCs_succ3, loadCs_succ4, loadCs_succ5, loadCs_succ6, setCs_succ2, setCs_succ3, setCs_succ4, setCs_succ5, setCs_succ6, getC_at, getC_at0, getC_zero, getC_succ, loadCs_at, loadCs_at0, loadCs_zero, loadCs_succ, setCs_at, setCs_at0, setCs_zero, setCs_succ, splice, List.set_cons_succ, List.set_cons_zero, List.getElem?_cons_zero, List.getElem?_cons_succ, List.drop_zero, List.drop_succ_cons, List.take_succ_cons, List.take_zero, newB, vcs, flat_int, flat_bool, flat_string, flat_slice, flat_pointer, flat_func, flat_nilFunc, List.all_cons, List.all_nil, Bool.and_true, Bool.and_self, Ty.ld3, Ty.sz3, Ty.zc3, Ty.by3, Ty.ld9, Ty.sz9, Ty.st9, Ty.zc9, Ty.by9, Ty.ld40, Ty.sz40, Ty.sl40, Ty.zc40, Ty.by40, Ty.ld104, Ty.sz104, Ty.zc104, Ty.by104, *]; rfl)
            | (with_reducible refine aw_then ?_) | (with_reducible refine aw_skip ?_) | (with_reducible refine aw_ret ?_) | (with_reducible refine aw_exit ?_) | (with_reducible refine aw_block ?_) | (with_reducible refine xr_reg (by decide +kernel) ?_)
            | (with_reducible refine xr_nil ?_) | (with_reducible refine k_norm ?_) | (with_reducible refine k_ret ?_) | (with_reducible refine k_exit ?_) | (with_reducible refine b_norm ?_) | (with_reducible refine b_ret ?_) | (with_reducible refine b_exit ?_) | (with_reducible refine b_past (by decide) ?_)
            | (with_reducible refine xd_nil ?_)
            | (refine xr_cl (f := ?_) (fs := ?_) (cs := ?_) (args := ?_) (K := ?_) ?_ ?_ ?_ ?_ ?_
               rotate_left 5
               · simp only [ev]; rfl
               first
               | (· with_reducible exact Ty.ok50
                  rotate_left 2
                  refine hk_tag 50 ?_
                  rotate_right 2)
               | (· with_reducible exact Ty.ok51
                  rotate_left 2
                  refine hk_tag 51 ?_
                  rotate_right 2)
               | (· with_reducible exact Ty.ok78
                  rotate_left 2
                  refine hk_tag 78 ?_
                  rotate_right 2)
               )
            | (refine xr_gcl (f := ?_) (fs := ?_) (cs := ?_) (args := ?_) (K := ?_) (by exact rfl) ?_ ?_ ?_ ?_ ?_ ?_
               rotate_left 5
               · simp only [ev, put_some, reduceIte, Nat.reduceEqDiff, Bool.not_true, Bool.not_false, *]
               · simp only [ev]; rfl
               first
               | (· with_reducible exact Ty.ok50
                  rotate_left 2
                  refine hk_tag 50 ?_
                  rotate_right 2)
               | (· with_reducible exact Ty.ok51
                  rotate_left 2
                  refine hk_tag 51 ?_
                  rotate_right 2)
               | (· with_reducible exact Ty.ok78
                  rotate_left 2
                  refine hk_tag 78 ?_
                  rotate_right 2)
               )
            | (refine xd_cl (f := ?_) (fs := ?_) (cs := ?_) (args := ?_) (v := ?_) ?_ ?_ ?_ ?_ ?_ ?_
               rotate_left 5
               · simp only [ev]; rfl
               · first | with_reducible exact Ty.ok50 | with_reducible exact Ty.ok51 | with_reducible exact Ty.ok78
               rotate_left 1
               · decide +kernel
               rotate_right 1)
            | (refine xd_gcl (f := ?_) (fs := ?_) (cs := ?_) (args := ?_) (v := ?_) (by exact rfl) ?_ ?_ ?_ ?_ ?_ ?_ ?_
               rotate_left 5
               · simp only [ev, put_some, reduceIte, Nat.reduceEqDiff, Bool.not_true, Bool.not_false, *]
               · simp only [ev]; rfl
               · first | with_reducible exact Ty.ok50 | with_reducible exact Ty.ok51 | with_reducible exact Ty.ok78
               rotate_left 1
               · decide +kernel
               rotate_right 1)
            | (refine xr_do (v := ?_) (h' := ?_) (by exact rfl) ?_ ?_; rotate_left 2)
            | (refine xr_st (v := ?_) (h' := ?_) (by exact rfl) ?_ ?_; rotate_left 2)
            | (refine xd_reg (ms := [0, 0, 3, 0, 0, 16, 56, 127]) Ty.mx (by decide +kernel) (by decide +kernel) ?_)
            | (refine xd_bs (v := ?_) (h' := ?_) (L := ?_) (by decide +kernel) ?_ ?_ ?_
               rotate_left 3
               · simp only [stp, ev, put_some, put_none, argT_list, List.getD_cons_zero, List.getD_cons_succ, reduceIte, Nat.reduceEqDiff, Option.map_some, Array.map_empty, List.map_toArray, List.map_cons, List.map_nil, List.append_toArray, Array.append_empty, Array.empty_append, List.nil_append, List.append_nil, and_self, if_true, decide_true, decide_false, Int.toNat_natCast, Int.natCast_nonneg, List.length_map, binV_add, binV_sub, binV_and, binV_shr, binV_shl, binV_str_eql, binV_str_neq, binV_mul, binV_eql, binV_neq, binV_lss, binV_leq, binV_gtr, binV_geq, unV_not, Bool.not_true, Bool.not_false, Bool.cond_true, Bool.cond_false, Option.map_none, List.getElem?_toArray, List.getElem?_cons_zero, List.getElem?_cons_succ, blt, lenV, List.size_toArray, List.length_cons, List.length_nil, Nat.zero_add, Array.getD_eq_getD_getElem?, List.getElem?_toArray, List.getElem?_cons_zero, List.getElem?_cons_succ, Option.getD_some, Option.isSome_some, Nat.add_assoc, List.toList_toArray, eq_self, Option.bind_some, List.append_assoc, List.cons_append, List.length_append, List.length_cons, List.length_nil, Nat.zero_add, Nat.add_zero, Nat.reduceAdd, Nat.reduceMul, Nat.reduceLeDiff, mset_some, mset_none, set_at, set_at0, killL_nil, killL_cons, getC_succ2, getC_succ3, getC_succ4, getC_succ5, getC_succ6, loadCs_succ2, loadCs_succ3, loadCs_succ4, loadCs_succ5, loadCs_succ6, setCs_succ2, setCs_succ3, setCs_succ4, setCs_succ5, setCs_succ6, getC_at, getC_at0, getC_zero, getC_succ, loadCs_at, loadCs_at0, loadCs_zero, loadCs_succ, setCs_at, setCs_at0, setCs_zero, setCs_succ, splice, List.set_cons_succ, List.set_cons_zero, List.getElem?_cons_zero, List.getElem?_cons_succ, List.drop_zero, List.drop_succ_cons, List.take_succ_cons, List.take_zero, newB, vcs, flat_int, flat_bool, flat_string, flat_slice, flat_pointer, flat_func, flat_nilFunc, List.all_cons, List.all_nil, Bool.and_true, Bool.and_self, Ty.ld3, Ty.sz3, Ty.zc3, Ty.by3, Ty.ld9, Ty.sz9, Ty.st9, Ty.zc9, Ty.by9, Ty.ld40, Ty.sz40, Ty.sl40, Ty.zc40, Ty.by40, Ty.ld104, Ty.sz104, Ty.zc104, Ty.by104, *]; rfl
               · exact rfl
               skip)
            | (refine xd_do (v := ?_) (by exact rfl) (by decide +kernel) ?_ ?_; rotate_left 1)
            | (refine xd_gdo (v := ?_) (by exact rfl) (by decide +kernel) (by exact rfl) ?_ ?_ ?_
               rotate_left 1
               · simp only [ev, put_some, reduceIte, Nat.reduceEqDiff, Bool.not_true, Bool.not_false, *])
            | (refine xd_goff (by exact rfl) ?_ ?_
               · simp only [ev, put_some, reduceIte, Nat.reduceEqDiff, Bool.not_true, Bool.not_false, *])
            | (refine xd_gund (by exact rfl) ?_ ?_
               · simp only [ev, put_some, reduceIte, Nat.reduceEqDiff, Bool.not_true, Bool.not_false, *])
            | (refine xd_gif (b := ?_) (by exact rfl) ?_ (fun hb => ?_) (fun hb => ?_)
               rotate_left 1
               · simp only [ev, put_some, reduceIte, Nat.reduceEqDiff, Bool.not_true, Bool.not_false, *]; rfl)
            | (refine xr_gdo (v := ?_) (h' := ?_) (by exact rfl) (by exact rfl) ?_ ?_ ?_
               rotate_left 2
               · simp only [ev, put_some, reduceIte, Nat.reduceEqDiff, Bool.not_true, Bool.not_false, *])
            | (refine xr_gst (v := ?_) (h' := ?_) (by exact rfl) (by exact rfl) ?_ ?_ ?_
               rotate_left 2
               · simp only [ev, put_some, reduceIte, Nat.reduceEqDiff, Bool.not_true, Bool.not_false, *])
            | (refine xr_goff (by exact rfl) ?_ ?_
               · simp only [ev, put_some, reduceIte, Nat.reduceEqDiff, Bool.not_true, Bool.not_false, *])
            | (refine xr_gsoff (by exact rfl) ?_ ?_
               · simp only [ev, put_some, reduceIte, Nat.reduceEqDiff, Bool.not_true, Bool.not_false, *])
            | (refine xr_gund (by exact rfl) ?_ ?_
               · simp only [ev, put_some, reduceIte, Nat.reduceEqDiff, Bool.not_true, Bool.not_false, *])
            | (refine xr_gsund (by exact rfl) ?_ ?_
               · simp only [ev, put_some, reduceIte, Nat.reduceEqDiff, Bool.not_true, Bool.not_false, *])
            | (refine xr_gif (b := ?_) (by exact rfl) ?_ (fun hb => ?_) (fun hb => ?_)
               rotate_left 1
               · simp only [ev, put_some, reduceIte, Nat.reduceEqDiff, Bool.not_true, Bool.not_false, *]; rfl)
            | (refine aw_ift (by decide) ?_ ?_
               · simp only [ev, put_some, reduceIte, Nat.reduceEqDiff, *])
            | (refine aw_iff (by decide) ?_ ?_
               · simp only [ev, put_some, reduceIte, Nat.reduceEqDiff, *])
            | (refine aw_if (b := ?_) (by decide) ?_ (fun hb => ?_) (fun hb => ?_)
               rotate_left 1
               · simp only [ev, put_some, reduceIte, Nat.reduceEqDiff, *]; rfl)
            | (refine r_ret (vs := ?_) ?_ ?_
               rotate_left 1
               · simp only [resV, ev, put_some, reduceIte, Nat.reduceEqDiff, Option.map_some, *]; rfl)
            | (with_reducible exact withinE _ _ _ _)
            | (with_reducible refine frameOfE _ _ _ ?_ ?_
               · first | omega | (simp only [List.length_nil]; omega)
               · first | omega | (simp only [List.length_nil]; omega)
               )
            | (with_reducible refine atoi_yes _ ?_ _ ?_ ?_
               rotate_left 1
               · first | omega | (simp only [List.length_nil]; omega)
               · assumption
               )
            | (with_reducible exact hno _)
            | ((with_reducible refine HkTag.mk (n := 50) ?_); rintro _ _ ⟨rfl, hh⟩; replace hh := hh.symm; subst hh)
            | ((with_reducible refine HkTag.mk (n := 51) ?_); rintro _ _ ⟨rfl, hh⟩; replace hh := hh.symm; subst hh)
            | ((with_reducible refine HkTag.mk (n := 78) ?_); rintro _ _ ⟨rfl, hh⟩; replace hh := hh.symm; subst hh)
            )
          exact fr_canon hd hap
        · have hl' : ¬ (s.size : Int) < ((8 + n : Nat) : Int) := by omega
          have hw4 : IntKind.i64.wrap (4 + (n : Int)) = ((4 + n : Nat) : Int) := by rw [wrap_id (by omega)]; omega
          have hc3 := fun h => cut_str (P := Tryd.prog) (h := h) Ty.st9 s 4 ((4 + n : Nat) : Int) (by omega) (by omega) (by omega) .i64 .i64
          have hc4 := fun h => cut_str_hi (P := Tryd.prog) (h := h) Ty.st9 s ((8 + n : Nat) : Int) (by omega) (by omega) .i64
          simp only [Int.toNat_natCast, show (4 : Int).toNat = 4 from rfl] at hc3 hc4
          have hxs : (s.extract 4 (4 + n)).size = n := by rw [ByteArray.size_extract]; omega
          by_cases hfr : frameT (acc.length + 1) (s.extract 4 (4 + n)) = s.extract 0 (8 + n)
          · have hfit : fit s (acc.length + 1) n := ⟨by omega, by omega, hfr⟩
            have hrd' : rdF t (98 - acc.length) (pos + (8 + n)) (acc ++ [s.extract 4 (4 + n)]) = R := by
              subst hs
              rw [rdF_yes hfit] at hrd; exact hrd
            clear hrd no_fit fit_z hfit
            generalize hx : s.extract 4 (4 + n) = x at *
            have hbs := bsl_one (h := h ++ L) (x := .string x) Ty.sl40 Ty.zc9 rfl rfl
            obtain ⟨v', L', hap', happ⟩ := app_step (h2 := h) (L := L) (E := [⟨2, 1, [.string x]⟩]) (j := 0) (ix := h.length + L.length)
              Ty.sl40 Ty.zc9 Ty.by9 hap rfl rfl (by omega) (by omega) (by omega)
            simp only [List.append_assoc, List.cons_append, List.nil_append, List.length_append, List.length_cons, List.length_nil, Nat.zero_add, Nat.add_assoc, Nat.reduceAdd] at hbs hap' happ
            have hw3 : IntKind.i64.wrap ((pos : Int) + ((8 + n : Nat) : Int)) = ((pos + (8 + n) : Nat) : Int) := by rw [wrap_id (by omega)]; omega
            have hw5 : IntKind.i64.wrap (((acc.length + 1 : Nat) : Int) + 1) = ((acc.length + 1 + 1 : Nat) : Int) := by rw [wrap_id (by omega)]; omega
            repeat' (first
              | ((with_reducible refine eq_go ?_); simp only [stp, ev, put_some, put_none, argT_list, List.getD_cons_zero, List.getD_cons_succ, reduceIte, Nat.reduceEqDiff, Option.map_some, Array.map_empty, List.map_toArray, List.map_cons, List.map_nil, List.append_toArray, Array.append_empty, Array.empty_append, List.nil_append, List.append_nil, and_self, if_true, decide_true, decide_false, Int.toNat_natCast, Int.natCast_nonneg, List.length_map, binV_add, binV_sub, binV_and, binV_shr, binV_shl, binV_str_eql, binV_str_neq, binV_mul, binV_eql, binV_neq, binV_lss, binV_leq, binV_gtr, binV_geq, unV_not, Bool.not_true, Bool.not_false, Bool.cond_true, Bool.cond_false, Option.map_none, List.getElem?_toArray, List.getElem?_cons_zero, List.getElem?_cons_succ, blt, lenV, List.size_toArray, List.length_cons, List.length_nil, Nat.zero_add, Array.getD_eq_getD_getElem?, List.getElem?_toArray, List.getElem?_cons_zero, List.getElem?_cons_succ, Option.getD_some, Option.isSome_some, Nat.add_assoc, List.toList_toArray, eq_self, Option.bind_some, List.append_assoc, List.cons_append, List.length_append, List.length_cons, List.length_nil, Nat.zero_add, Nat.add_zero, Nat.reduceAdd, Nat.reduceMul, Nat.reduceLeDiff, mset_some, mset_none, set_at, set_at0, killL_nil, killL_cons, getC_succ2, getC_succ3, getC_succ4, getC_succ5, getC_succ6, loadCs_succ2, loadCs_succ3, loadCs_succ4, loadCs_succ5, loadCs_succ6, setCs_succ2, setCs_succ3, setCs_succ4, setCs_succ5, setCs_succ6, getC_at, getC_at0, getC_zero, getC_succ, loadCs_at, loadCs_at0, loadCs_zero, loadCs_succ, setCs_at, setCs_at0, setCs_zero, setCs_succ, splice, List.set_cons_succ, List.set_cons_zero, List.getElem?_cons_zero, List.getElem?_cons_succ, List.drop_zero, List.drop_succ_cons, List.take_succ_cons, List.take_zero, newB, vcs, flat_int, flat_bool, flat_string, flat_slice, flat_pointer, flat_func, flat_nilFunc, List.all_cons, List.all_nil, Bool.and_true, Bool.and_self, Ty.ld3, Ty.sz3, Ty.zc3, Ty.by3, Ty.ld9, Ty.sz9, Ty.st9, Ty.zc9, Ty.by9, Ty.ld40, Ty.sz40, Ty.sl40, Ty.zc40, Ty.by40, Ty.ld104, Ty.sz104, Ty.zc104, Ty.by104, *]; rfl)
              | (with_reducible refine aw_then ?_) | (with_reducible refine aw_skip ?_) | (with_reducible refine aw_ret ?_) | (with_reducible refine aw_exit ?_) | (with_reducible refine aw_block ?_) | (with_reducible refine xr_reg (by decide +kernel) ?_)
              | (with_reducible refine xr_nil ?_) | (with_reducible refine k_norm ?_) | (with_reducible refine k_ret ?_) | (with_reducible refine k_exit ?_) | (with_reducible refine b_norm ?_) | (with_reducible refine b_ret ?_) | (with_reducible refine b_exit ?_) | (with_reducible refine b_past (by decide) ?_)
              | (with_reducible refine xd_nil ?_)
              | (refine xr_cl (f := ?_) (fs := ?_) (cs := ?_) (args := ?_) (K := ?_) ?_ ?_ ?_ ?_ ?_
                 rotate_left 5
                 · simp only [ev]; rfl
                 first
                 | (· with_reducible exact Ty.ok50
                    rotate_left 2
                    refine hk_tag 50 ?_
                    rotate_right 2)
                 | (· with_reducible exact Ty.ok51
                    rotate_left 2
                    refine hk_tag 51 ?_
                    rotate_right 2)
                 | (· with_reducible exact Ty.ok78
                    rotate_left 2
                    refine hk_tag 78 ?_
                    rotate_right 2)
                 )
              | (refine xr_gcl (f := ?_) (fs := ?_) (cs := ?_) (args := ?_) (K := ?_) (by exact rfl) ?_ ?_ ?_ ?_ ?_ ?_
                 rotate_left 5
                 · simp only [ev, put_some, reduceIte, Nat.reduceEqDiff, Bool.not_true, Bool.not_false, *]
                 · simp only [ev]; rfl
                 first
                 | (· with_reducible exact Ty.ok50
                    rotate_left 2
                    refine hk_tag 50 ?_
                    rotate_right 2)
                 | (· with_reducible exact Ty.ok51
                    rotate_left 2
                    refine hk_tag 51 ?_
                    rotate_right 2)
                 | (· with_reducible exact Ty.ok78
                    rotate_left 2
                    refine hk_tag 78 ?_
                    rotate_right 2)
                 )
              | (refine xd_cl (f := ?_) (fs := ?_) (cs := ?_) (args := ?_) (v := ?_) ?_ ?_ ?_ ?_ ?_ ?_
                 rotate_left 5
                 · simp only [ev]; rfl
                 · first | with_reducible exact Ty.ok50 | with_reducible exact Ty.ok51 | with_reducible exact Ty.ok78
                 rotate_left 1
                 · decide +kernel
                 rotate_right 1)
              | (refine xd_gcl (f := ?_) (fs := ?_) (cs := ?_) (args := ?_) (v := ?_) (by exact rfl) ?_ ?_ ?_ ?_ ?_ ?_ ?_
                 rotate_left 5
                 · simp only [ev, put_some, reduceIte, Nat.reduceEqDiff, Bool.not_true, Bool.not_false, *]
                 · simp only [ev]; rfl
                 · first | with_reducible exact Ty.ok50 | with_reducible exact Ty.ok51 | with_reducible exact Ty.ok78
                 rotate_left 1
                 · decide +kernel
                 rotate_right 1)
              | (refine xr_do (v := ?_) (h' := ?_) (by exact rfl) ?_ ?_; rotate_left 2)
              | (refine xr_st (v := ?_) (h' := ?_) (by exact rfl) ?_ ?_; rotate_left 2)
              | (refine xd_reg (ms := [0, 0, 3, 0, 0, 16, 56, 127]) Ty.mx (by decide +kernel) (by decide +kernel) ?_)
              | (refine xd_bs (v := ?_) (h' := ?_) (L := ?_) (by decide +kernel) ?_ ?_ ?_
                 rotate_left 3
                 · simp only [stp, ev, put_some, put_none, argT_list, List.getD_cons_zero, List.getD_cons_succ, reduceIte, Nat.reduceEqDiff, Option.map_some, Array.map_empty, List.map_toArray, List.map_cons, List.map_nil, List.append_toArray, Array.append_empty, Array.empty_append, List.nil_append, List.append_nil, and_self, if_true, decide_true, decide_false, Int.toNat_natCast, Int.natCast_nonneg, List.length_map, binV_add, binV_sub, binV_and, binV_shr, binV_shl, binV_str_eql, binV_str_neq, binV_mul, binV_eql, binV_neq, binV_lss, binV_leq, binV_gtr, binV_geq, unV_not, Bool.not_true, Bool.not_false, Bool.cond_true, Bool.cond_false, Option.map_none, List.getElem?_toArray, List.getElem?_cons_zero, List.getElem?_cons_succ, blt, lenV, List.size_toArray, List.length_cons, List.length_nil, Nat.zero_add, Array.getD_eq_getD_getElem?, List.getElem?_toArray, List.getElem?_cons_zero, List.getElem?_cons_succ, Option.getD_some, Option.isSome_some, Nat.add_assoc, List.toList_toArray, eq_self, Option.bind_some, List.append_assoc, List.cons_append, List.length_append, List.length_cons, List.length_nil, Nat.zero_add, Nat.add_zero, Nat.reduceAdd, Nat.reduceMul, Nat.reduceLeDiff, mset_some, mset_none, set_at, set_at0, killL_nil, killL_cons, getC_succ2, getC_succ3, getC_succ4, getC_succ5, getC_succ6, loadCs_succ2, loadCs_succ3, loadCs_succ4, loadCs_succ5, loadCs_succ6, setCs_succ2, setCs_succ3, setCs_succ4, setCs_succ5, setCs_succ6, getC_at, getC_at0, getC_zero, getC_succ, loadCs_at, loadCs_at0, loadCs_zero, loadCs_succ, setCs_at, setCs_at0, setCs_zero, setCs_succ, splice, List.set_cons_succ, List.set_cons_zero, List.getElem?_cons_zero, List.getElem?_cons_succ, List.drop_zero, List.drop_succ_cons, List.take_succ_cons, List.take_zero, newB, vcs, flat_int, flat_bool, flat_string, flat_slice, flat_pointer, flat_func, flat_nilFunc, List.all_cons, List.all_nil, Bool.and_true, Bool.and_self, Ty.ld3, Ty.sz3, Ty.zc3, Ty.by3, Ty.ld9, Ty.sz9, Ty.st9, Ty.zc9, Ty.by9, Ty.ld40, Ty.sz40, Ty.sl40, Ty.zc40, Ty.by40, Ty.ld104, Ty.sz104, Ty.zc104, Ty.by104, *]; rfl
                 · exact rfl
                 skip)
              | (refine xd_do (v := ?_) (by exact rfl) (by decide +kernel) ?_ ?_; rotate_left 1)
              | (refine xd_gdo (v := ?_) (by exact rfl) (by decide +kernel) (by exact rfl) ?_ ?_ ?_
                 rotate_left 1
                 · simp only [ev, put_some, reduceIte, Nat.reduceEqDiff, Bool.not_true, Bool.not_false, *])
              | (refine xd_goff (by exact rfl) ?_ ?_
                 · simp only [ev, put_some, reduceIte, Nat.reduceEqDiff, Bool.not_true, Bool.not_false, *])
              | (refine xd_gund (by exact rfl) ?_ ?_
                 · simp only [ev, put_some, reduceIte, Nat.reduceEqDiff, Bool.not_true, Bool.not_false, *])
              | (refine xd_gif (b := ?_) (by exact rfl) ?_ (fun hb => ?_) (fun hb => ?_)
                 rotate_left 1
                 · simp only [ev, put_some, reduceIte, Nat.reduceEqDiff, Bool.not_true, Bool.not_false, *]; rfl)
              | (refine xr_gdo (v := ?_) (h' := ?_) (by exact rfl) (by exact rfl) ?_ ?_ ?_
                 rotate_left 2
                 · simp only [ev, put_some, reduceIte, Nat.reduceEqDiff, Bool.not_true, Bool.not_false, *])
              | (refine xr_gst (v := ?_) (h' := ?_) (by exact rfl) (by exact rfl) ?_ ?_ ?_
                 rotate_left 2
                 · simp only [ev, put_some, reduceIte, Nat.reduceEqDiff, Bool.not_true, Bool.not_false, *])
              | (refine xr_goff (by exact rfl) ?_ ?_
                 · simp only [ev, put_some, reduceIte, Nat.reduceEqDiff, Bool.not_true, Bool.not_false, *])
              | (refine xr_gsoff (by exact rfl) ?_ ?_
                 · simp only [ev, put_some, reduceIte, Nat.reduceEqDiff, Bool.not_true, Bool.not_false, *])
              | (refine xr_gund (by exact rfl) ?_ ?_
                 · simp only [ev, put_some, reduceIte, Nat.reduceEqDiff, Bool.not_true, Bool.not_false, *])
              | (refine xr_gsund (by exact rfl) ?_ ?_
                 · simp only [ev, put_some, reduceIte, Nat.reduceEqDiff, Bool.not_true, Bool.not_false, *])
              | (refine xr_gif (b := ?_) (by exact rfl) ?_ (fun hb => ?_) (fun hb => ?_)
                 rotate_left 1
                 · simp only [ev, put_some, reduceIte, Nat.reduceEqDiff, Bool.not_true, Bool.not_false, *]; rfl)
              | (refine aw_ift (by decide) ?_ ?_
                 · simp only [ev, put_some, reduceIte, Nat.reduceEqDiff, *])
              | (refine aw_iff (by decide) ?_ ?_
                 · simp only [ev, put_some, reduceIte, Nat.reduceEqDiff, *])
              | (refine aw_if (b := ?_) (by decide) ?_ (fun hb => ?_) (fun hb => ?_)
                 rotate_left 1
                 · simp only [ev, put_some, reduceIte, Nat.reduceEqDiff, *]; rfl)
              | (refine r_ret (vs := ?_) ?_ ?_
                 rotate_left 1
                 · simp only [resV, ev, put_some, reduceIte, Nat.reduceEqDiff, Option.map_some, *]; rfl)
              | (with_reducible exact withinE _ _ _ _)
              | (with_reducible refine frameOfE _ _ _ ?_ ?_
                 · first | omega | (simp only [List.length_nil]; omega)
                 · first | omega | (simp only [List.length_nil]; omega)
                 )
              | (with_reducible refine atoi_yes _ ?_ _ ?_ ?_
                 rotate_left 1
                 · first | omega | (simp only [List.length_nil]; omega)
                 · assumption
                 )
              | (with_reducible exact hno _)
              | ((with_reducible refine HkTag.mk (n := 50) ?_); rintro _ _ ⟨rfl, hh⟩; replace hh := hh.symm; subst hh)
              | ((with_reducible refine HkTag.mk (n := 51) ?_); rintro _ _ ⟨rfl, hh⟩; replace hh := hh.symm; subst hh)
              | ((with_reducible refine HkTag.mk (n := 78) ?_); rintro _ _ ⟨rfl, hh⟩; replace hh := hh.symm; subst hh)
              )
            refine ⟨99 - (acc.length + 1), by omega, L', acc ++ [x], pos + (8 + n), by simp, by simp; omega, by omega, rfl, ?_, ?_, ?_, ?_, ?_⟩
            · simp only [put_some, reduceIte, Nat.reduceEqDiff]; exact h0
            · simp only [put_some, reduceIte, Nat.reduceEqDiff]
            · simp only [put_some, reduceIte, Nat.reduceEqDiff, List.length_append, List.length_cons, List.length_nil, Nat.zero_add]
            · simp only [put_some, reduceIte, Nat.reduceEqDiff]
              exact happ.cast rfl rfl rfl (by simp [txs]) (by simp)
            · rw [show 99 - (acc ++ [x]).length = 98 - acc.length by rw [List.length_append]; show 99 - (acc.length + 1) = _; omega]; exact hrd'
          · have hd := no_fit fun n' q => by
              have := fit_z n' q
              obtain rfl : n = n' := by omega
              exact hfr q.2.2
            clear no_fit hrd fit_z
            repeat' (first
              | ((with_reducible refine eq_go ?_); simp only [stp, ev, put_some, put_none, argT_list, List.getD_cons_zero, List.getD_cons_succ, reduceIte, Nat.reduceEqDiff, Option.map_some, Array.map_empty, List.map_toArray, List.map_cons, List.map_nil, List.append_toArray, Array.append_empty, Array.empty_append, List.nil_append, List.append_nil, and_self, if_true, decide_true, decide_false, Int.toNat_natCast, Int.natCast_nonneg, List.length_map, binV_add, binV_sub, binV_and, binV_shr, binV_shl, binV_str_eql, binV_str_neq, binV_mul, binV_eql, binV_neq, binV_lss, binV_leq, binV_gtr, binV_geq, unV_not, Bool.not_true, Bool.not_false, Bool.cond_true, Bool.cond_false, Option.map_none, List.getElem?_toArray, List.getElem?_cons_zero, List.getElem?_cons_succ, blt, lenV, List.size_toArray, List.length_cons, List.length_nil, Nat.zero_add, Array.getD_eq_getD_getElem?, List.getElem?_toArray, List.getElem?_cons_zero, List.getElem?_cons_succ, Option.getD_some, Option.isSome_some, Nat.add_assoc, List.toList_toArray, eq_self, Option.bind_some, List.append_assoc, List.cons_append, List.length_append, List.length_cons, List.length_nil, Nat.zero_add, Nat.add_zero, Nat.reduceAdd, Nat.reduceMul, Nat.reduceLeDiff, mset_some, mset_none, set_at, set_at0, killL_nil, killL_cons, getC_succ2, getC_succ3, getC_succ4, getC_succ5, getC_succ6, loadCs_succ2, loadCs_succ3, loadCs_succ4, loadCs_succ5, loadCs_succ6, setCs_succ2, setCs_succ3, setCs_succ4, setCs_succ5, setCs_succ6, getC_at, getC_at0, getC_zero, getC_succ, loadCs_at, loadCs_at0, loadCs_zero, loadCs_succ, setCs_at, setCs_at0, setCs_zero, setCs_succ, splice, List.set_cons_succ, List.set_cons_zero, List.getElem?_cons_zero, List.getElem?_cons_succ, List.drop_zero, List.drop_succ_cons, List.take_succ_cons, List.take_zero, newB, vcs, flat_int, flat_bool, flat_string, flat_slice, flat_pointer, flat_func, flat_nilFunc, List.all_cons, List.all_nil, Bool.and_true, Bool.and_self, Ty.ld3, Ty.sz3, Ty.zc3, Ty.by3, Ty.ld9, Ty.sz9, Ty.st9, Ty.zc9, Ty.by9, Ty.ld40, Ty.sz40, Ty.sl40, Ty.zc40, Ty.by40, Ty.ld104, Ty.sz104, Ty.zc104, Ty.by104, *]; rfl)
              | (with_reducible refine aw_then ?_) | (with_reducible refine aw_skip ?_) | (with_reducible refine aw_ret ?_) | (with_reducible refine aw_exit ?_) | (with_reducible refine aw_block ?_) | (with_reducible refine xr_reg (by decide +kernel) ?_)
              | (with_reducible refine xr_nil ?_) | (with_reducible refine k_norm ?_) | (with_reducible refine k_ret ?_) | (with_reducible refine k_exit ?_) | (with_reducible refine b_norm ?_) | (with_reducible refine b_ret ?_) | (with_reducible refine b_exit ?_) | (with_reducible refine b_past (by decide) ?_)
              | (with_reducible refine xd_nil ?_)
              | (refine xr_cl (f := ?_) (fs := ?_) (cs := ?_) (args := ?_) (K := ?_) ?_ ?_ ?_ ?_ ?_
                 rotate_left 5
                 · simp only [ev]; rfl
                 first
                 | (· with_reducible exact Ty.ok50
                    rotate_left 2
                    refine hk_tag 50 ?_
                    rotate_right 2)
                 | (· with_reducible exact Ty.ok51
                    rotate_left 2
                    refine hk_tag 51 ?_
                    rotate_right 2)
                 | (· with_reducible exact Ty.ok78
                    rotate_left 2
                    refine hk_tag 78 ?_
                    rotate_right 2)
                 )
              | (refine xr_gcl (f := ?_) (fs := ?_) (cs := ?_) (args := ?_) (K := ?_) (by exact rfl) ?_ ?_ ?_ ?_ ?_ ?_
                 rotate_left 5
                 · simp only [ev, put_some, reduceIte, Nat.reduceEqDiff, Bool.not_true, Bool.not_false, *]
                 · simp only [ev]; rfl
                 first
                 | (· with_reducible exact Ty.ok50
                    rotate_left 2
                    refine hk_tag 50 ?_
                    rotate_right 2)
                 | (· with_reducible exact Ty.ok51
                    rotate_left 2
                    refine hk_tag 51 ?_
                    rotate_right 2)
                 | (· with_reducible exact Ty.ok78
                    rotate_left 2
                    refine hk_tag 78 ?_
                    rotate_right 2)
                 )
              | (refine xd_cl (f := ?_) (fs := ?_) (cs := ?_) (args := ?_) (v := ?_) ?_ ?_ ?_ ?_ ?_ ?_
                 rotate_left 5
                 · simp only [ev]; rfl
                 · first | with_reducible exact Ty.ok50 | with_reducible exact Ty.ok51 | with_reducible exact Ty.ok78
                 rotate_left 1
                 · decide +kernel
                 rotate_right 1)
              | (refine xd_gcl (f := ?_) (fs := ?_) (cs := ?_) (args := ?_) (v := ?_) (by exact rfl) ?_ ?_ ?_ ?_ ?_ ?_ ?_
                 rotate_left 5
                 · simp only [ev, put_some, reduceIte, Nat.reduceEqDiff, Bool.not_true, Bool.not_false, *]
                 · simp only [ev]; rfl
                 · first | with_reducible exact Ty.ok50 | with_reducible exact Ty.ok51 | with_reducible exact Ty.ok78
                 rotate_left 1
                 · decide +kernel
                 rotate_right 1)
              | (refine xr_do (v := ?_) (h' := ?_) (by exact rfl) ?_ ?_; rotate_left 2)
              | (refine xr_st (v := ?_) (h' := ?_) (by exact rfl) ?_ ?_; rotate_left 2)
              | (refine xd_reg (ms := [0, 0, 3, 0, 0, 16, 56, 127]) Ty.mx (by decide +kernel) (by decide +kernel) ?_)
              | (refine xd_bs (v := ?_) (h' := ?_) (L := ?_) (by decide +kernel) ?_ ?_ ?_
                 rotate_left 3
                 · simp only [stp, ev, put_some, put_none, argT_list, List.getD_cons_zero, List.getD_cons_succ, reduceIte, Nat.reduceEqDiff, Option.map_some, Array.map_empty, List.map_toArray, List.map_cons, List.map_nil, List.append_toArray, Array.append_empty, Array.empty_append, List.nil_append, List.append_nil, and_self, if_true, decide_true, decide_false, Int.toNat_natCast, Int.natCast_nonneg, List.length_map, binV_add, binV_sub, binV_and, binV_shr, binV_shl, binV_str_eql, binV_str_neq, binV_mul, binV_eql, binV_neq, binV_lss, binV_leq, binV_gtr, binV_geq, unV_not, Bool.not_true, Bool.not_false, Bool.cond_true, Bool.cond_false, Option.map_none, List.getElem?_toArray, List.getElem?_cons_zero, List.getElem?_cons_succ, blt, lenV, List.size_toArray, List.length_cons, List.length_nil, Nat.zero_add, Array.getD_eq_getD_getElem?, List.getElem?_toArray, List.getElem?_cons_zero, List.getElem?_cons_succ, Option.getD_some, Option.isSome_some, Nat.add_assoc, List.toList_toArray, eq_self, Option.bind_some, List.append_assoc, List.cons_append, List.length_append, List.length_cons, List.length_nil, Nat.zero_add, Nat.add_zero, Nat.reduceAdd, Nat.reduceMul, Nat.reduceLeDiff, mset_some, mset_none, set_at, set_at0, killL_nil, killL_cons, getC_succ2, getC_succ3, getC_succ4, getC_succ5, getC_succ6, loadCs_succ2, loadCs_succ3, loadCs_succ4, loadCs_succ5, loadCs_succ6, setCs_succ2, setCs_succ3, setCs_succ4, setCs_succ5, setCs_succ6, getC_at, getC_at0, getC_zero, getC_succ, loadCs_at, loadCs_at0, loadCs_zero, loadCs_succ, setCs_at, setCs_at0, setCs_zero, setCs_succ, splice, List.set_cons_succ, List.set_cons_zero, List.getElem?_cons_zero, List.getElem?_cons_succ, List.drop_zero, List.drop_succ_cons, List.take_succ_cons, List.take_zero, newB, vcs, flat_int, flat_bool, flat_string, flat_slice, flat_pointer, flat_func, flat_nilFunc, List.all_cons, List.all_nil, Bool.and_true, Bool.and_self, Ty.ld3, Ty.sz3, Ty.zc3, Ty.by3, Ty.ld9, Ty.sz9, Ty.st9, Ty.zc9, Ty.by9, Ty.ld40, Ty.sz40, Ty.sl40, Ty.zc40, Ty.by40, Ty.ld104, Ty.sz104, Ty.zc104, Ty.by104, *]; rfl
                 · exact rfl
                 skip)
              | (refine xd_do (v := ?_) (by exact rfl) (by decide +kernel) ?_ ?_; rotate_left 1)
              | (refine xd_gdo (v := ?_) (by exact rfl) (by decide +kernel) (by exact rfl) ?_ ?_ ?_
                 rotate_left 1
                 · simp only [ev, put_some, reduceIte, Nat.reduceEqDiff, Bool.not_true, Bool.not_false, *])
              | (refine xd_goff (by exact rfl) ?_ ?_
                 · simp only [ev, put_some, reduceIte, Nat.reduceEqDiff, Bool.not_true, Bool.not_false, *])
              | (refine xd_gund (by exact rfl) ?_ ?_
                 · simp only [ev, put_some, reduceIte, Nat.reduceEqDiff, Bool.not_true, Bool.not_false, *])
              | (refine xd_gif (b := ?_) (by exact rfl) ?_ (fun hb => ?_) (fun hb => ?_)
                 rotate_left 1
                 · simp only [ev, put_some, reduceIte, Nat.reduceEqDiff, Bool.not_true, Bool.not_false, *]; rfl)
              | (refine xr_gdo (v := ?_) (h' := ?_) (by exact rfl) (by exact rfl) ?_ ?_ ?_
                 rotate_left 2
                 · simp only [ev, put_some, reduceIte, Nat.reduceEqDiff, Bool.not_true, Bool.not_false, *])
              | (refine xr_gst (v := ?_) (h' := ?_) (by exact rfl) (by exact rfl) ?_ ?_ ?_
                 rotate_left 2
                 · simp only [ev, put_some, reduceIte, Nat.reduceEqDiff, Bool.not_true, Bool.not_false, *])
              | (refine xr_goff (by exact rfl) ?_ ?_
                 · simp only [ev, put_some, reduceIte, Nat.reduceEqDiff, Bool.not_true, Bool.not_false, *])
              | (refine xr_gsoff (by exact rfl) ?_ ?_
                 · simp only [ev, put_some, reduceIte, Nat.reduceEqDiff, Bool.not_true, Bool.not_false, *])
              | (refine xr_gund (by exact rfl) ?_ ?_
                 · simp only [ev, put_some, reduceIte, Nat.reduceEqDiff, Bool.not_true, Bool.not_false, *])
              | (refine xr_gsund (by exact rfl) ?_ ?_
                 · simp only [ev, put_some, reduceIte, Nat.reduceEqDiff, Bool.not_true, Bool.not_false, *])
              | (refine xr_gif (b := ?_) (by exact rfl) ?_ (fun hb => ?_) (fun hb => ?_)
                 rotate_left 1
                 · simp only [ev, put_some, reduceIte, Nat.reduceEqDiff, Bool.not_true, Bool.not_false, *]; rfl)
              | (refine aw_ift (by decide) ?_ ?_
                 · simp only [ev, put_some, reduceIte, Nat.reduceEqDiff, *])
              | (refine aw_iff (by decide) ?_ ?_
                 · simp only [ev, put_some, reduceIte, Nat.reduceEqDiff, *])
              | (refine aw_if (b := ?_) (by decide) ?_ (fun hb => ?_) (fun hb => ?_)
                 rotate_left 1
                 · simp only [ev, put_some, reduceIte, Nat.reduceEqDiff, *]; rfl)
              | (refine r_ret (vs := ?_) ?_ ?_
                 rotate_left 1
                 · simp only [resV, ev, put_some, reduceIte, Nat.reduceEqDiff, Option.map_some, *]; rfl)
              | (with_reducible exact withinE _ _ _ _)
              | (with_reducible refine frameOfE _ _ _ ?_ ?_
                 · first | omega | (simp only [List.length_nil]; omega)
                 · first | omega | (simp only [List.length_nil]; omega)
                 )
              | (with_reducible refine atoi_yes _ ?_ _ ?_ ?_
                 rotate_left 1
                 · first | omega | (simp only [List.length_nil]; omega)
                 · assumption
                 )
              | (with_reducible exact hno _)
              | ((with_reducible refine HkTag.mk (n := 50) ?_); rintro _ _ ⟨rfl, hh⟩; replace hh := hh.symm; subst hh)
              | ((with_reducible refine HkTag.mk (n := 51) ?_); rintro _ _ ⟨rfl, hh⟩; replace hh := hh.symm; subst hh)
              | ((with_reducible refine HkTag.mk (n := 78) ?_); rintro _ _ ⟨rfl, hh⟩; replace hh := hh.symm; subst hh)
              )
            exact fr_canon hd hap
      · have hz' : ¬ (0 ≤ z ∧ z ≤ 60) := hz
        have hd := no_fit fun n' q => by have := q.1; have := fit_z n' q; omega
        clear no_fit hrd fit_z
        repeat' (first
          | ((with_reducible refine eq_go ?_); simp only [stp, ev, put_some, put_none, argT_list, List.getD_cons_zero, List.getD_cons_succ, reduceIte, Nat.reduceEqDiff, Option.map_some, Array.map_empty, List.map_toArray, List.map_cons, List.map_nil, List.append_toArray, Array.append_empty, Array.empty_append, List.nil_append, List.append_nil, and_self, if_true, decide_true, decide_false, Int.toNat_natCast, Int.natCast_nonneg, List.length_map, binV_add, binV_sub, binV_and, binV_shr, binV_shl, binV_str_eql, binV_str_neq, binV_mul, binV_eql, binV_neq, binV_lss, binV_leq, binV_gtr, binV_geq, unV_not, Bool.not_true, Bool.not_false, Bool.cond_true, Bool.cond_false, Option.map_none, List.getElem?_toArray, List.getElem?_cons_zero, List.getElem?_cons_succ, blt, lenV, List.size_toArray, List.length_cons, List.length_nil, Nat.zero_add, Array.getD_eq_getD_getElem?, List.getElem?_toArray, List.getElem?_cons_zero, List.getElem?_cons_succ, Option.getD_some, Option.isSome_some, Nat.add_assoc, List.toList_toArray, eq_self, Option.bind_some, List.append_assoc, List.cons_append, List.length_append, List.length_cons, List.length_nil, Nat.zero_add, Nat.add_zero, Nat.reduceAdd, Nat.reduceMul, Nat.reduceLeDiff, mset_some, mset_none, set_at, set_at0, killL_nil, killL_cons, getC_succ2, getC_succ3, getC_succ4, getC_succ5, getC_succ6, loadCs_succ2, loadCs_succ3, loadCs_succ4, loadCs_succ5, loadCs_succ6, setCs_succ2, setCs_succ3, setCs_succ4, setCs_succ5, setCs_succ6, getC_at, getC_at0, getC_zero, getC_succ, loadCs_at, loadCs_at0, loadCs_zero, loadCs_succ, setCs_at, setCs_at0, setCs_zero, setCs_succ, splice, List.set_cons_succ, List.set_cons_zero, List.getElem?_cons_zero, List.getElem?_cons_succ, List.drop_zero, List.drop_succ_cons, List.take_succ_cons, List.take_zero, newB, vcs, flat_int, flat_bool, flat_string, flat_slice, flat_pointer, flat_func, flat_nilFunc, List.all_cons, List.all_nil, Bool.and_true, Bool.and_self, Ty.ld3, Ty.sz3, Ty.zc3, Ty.by3, Ty.ld9, Ty.sz9, Ty.st9, Ty.zc9, Ty.by9, Ty.ld40, Ty.sz40, Ty.sl40, Ty.zc40, Ty.by40, Ty.ld104, Ty.sz104, Ty.zc104, Ty.by104, *]; rfl)
          | (with_reducible refine aw_then ?_) | (with_reducible refine aw_skip ?_) | (with_reducible refine aw_ret ?_) | (with_reducible refine aw_exit ?_) | (with_reducible refine aw_block ?_) | (with_reducible refine xr_reg (by decide +kernel) ?_)
          | (with_reducible refine xr_nil ?_) | (with_reducible refine k_norm ?_) | (with_reducible refine k_ret ?_) | (with_reducible refine k_exit ?_) | (with_reducible refine b_norm ?_) | (with_reducible refine b_ret ?_) | (with_reducible refine b_exit ?_) | (with_reducible refine b_past (by decide) ?_)
          | (with_reducible refine xd_nil ?_)
          | (refine xr_cl (f := ?_) (fs := ?_) (cs := ?_) (args := ?_) (K := ?_) ?_ ?_ ?_ ?_ ?_
             rotate_left 5
             · simp only [ev]; rfl
             first
             | (· with_reducible exact Ty.ok50
                rotate_left 2
                refine hk_tag 50 ?_
                rotate_right 2)
             | (· with_reducible exact Ty.ok51
                rotate_left 2
                refine hk_tag 51 ?_
                rotate_right 2)
             | (· with_reducible exact Ty.ok78
                rotate_left 2
                refine hk_tag 78 ?_
                rotate_right 2)
             )
          | (refine xr_gcl (f := ?_) (fs := ?_) (cs := ?_) (args := ?_) (K := ?_) (by exact rfl) ?_ ?_ ?_ ?_ ?_ ?_
             rotate_left 5
             · simp only [ev, put_some, reduceIte, Nat.reduceEqDiff, Bool.not_true, Bool.not_false, *]
             · simp only [ev]; rfl
             first
             | (· with_reducible exact Ty.ok50
                rotate_left 2
                refine hk_tag 50 ?_
                rotate_right 2)
             | (· with_reducible exact Ty.ok51
                rotate_left 2
                refine hk_tag 51 ?_
                rotate_right 2)
             | (· with_reducible exact Ty.ok78
                rotate_left 2
                refine hk_tag 78 ?_
                rotate_right 2)
             )
          | (refine xd_cl (f := ?_) (fs := ?_) (cs := ?_) (args := ?_) (v := ?_) ?_ ?_ ?_ ?_ ?_ ?_
             rotate_left 5
             · simp only [ev]; rfl
             · first | with_reducible exact Ty.ok50 | with_reducible exact Ty.ok51 | with_reducible exact Ty.ok78
             rotate_left 1
             · decide +kernel
             rotate_right 1)
          | (refine xd_gcl (f := ?_) (fs := ?_) (cs := ?_) (args := ?_) (v := ?_) (by exact rfl) ?_ ?_ ?_ ?_ ?_ ?_ ?_
             rotate_left 5
             · simp only [ev, put_some, reduceIte, Nat.reduceEqDiff, Bool.not_true, Bool.not_false, *]
             · simp only [ev]; rfl
             · first | with_reducible exact Ty.ok50 | with_reducible exact Ty.ok51 | with_reducible exact Ty.ok78
             rotate_left 1
             · decide +kernel
             rotate_right 1)
          | (refine xr_do (v := ?_) (h' := ?_) (by exact rfl) ?_ ?_; rotate_left 2)
          | (refine xr_st (v := ?_) (h' := ?_) (by exact rfl) ?_ ?_; rotate_left 2)
          | (refine xd_reg (ms := [0, 0, 3, 0, 0, 16, 56, 127]) Ty.mx (by decide +kernel) (by decide +kernel) ?_)
          | (refine xd_bs (v := ?_) (h' := ?_) (L := ?_) (by decide +kernel) ?_ ?_ ?_
             rotate_left 3
             · simp only [stp, ev, put_some, put_none, argT_list, List.getD_cons_zero, List.getD_cons_succ, reduceIte, Nat.reduceEqDiff, Option.map_some, Array.map_empty, List.map_toArray, List.map_cons, List.map_nil, List.append_toArray, Array.append_empty, Array.empty_append, List.nil_append, List.append_nil, and_self, if_true, decide_true, decide_false, Int.toNat_natCast, Int.natCast_nonneg, List.length_map, binV_add, binV_sub, binV_and, binV_shr, binV_shl, binV_str_eql, binV_str_neq, binV_mul, binV_eql, binV_neq, binV_lss, binV_leq, binV_gtr, binV_geq, unV_not, Bool.not_true, Bool.not_false, Bool.cond_true, Bool.cond_false, Option.map_none, List.getElem?_toArray, List.getElem?_cons_zero, List.getElem?_cons_succ, blt, lenV, List.size_toArray, List.length_cons, List.length_nil, Nat.zero_add, Array.getD_eq_getD_getElem?, List.getElem?_toArray, List.getElem?_cons_zero, List.getElem?_cons_succ, Option.getD_some, Option.isSome_some, Nat.add_assoc, List.toList_toArray, eq_self, Option.bind_some, List.append_assoc, List.cons_append, List.length_append, List.length_cons, List.length_nil, Nat.zero_add, Nat.add_zero, Nat.reduceAdd, Nat.reduceMul, Nat.reduceLeDiff, mset_some, mset_none, set_at, set_at0, killL_nil, killL_cons, getC_succ2, getC_succ3, getC_succ4, getC_succ5, getC_succ6, loadCs_succ2, loadCs_succ3, loadCs_succ4, loadCs_succ5, loadCs_succ6, setCs_succ2, setCs_succ3, setCs_succ4, setCs_succ5, setCs_succ6, getC_at, getC_at0, getC_zero, getC_succ, loadCs_at, loadCs_at0, loadCs_zero, loadCs_succ, setCs_at, setCs_at0, setCs_zero, setCs_succ, splice, List.set_cons_succ, List.set_cons_zero, List.getElem?_cons_zero, List.getElem?_cons_succ, List.drop_zero, List.drop_succ_cons, List.take_succ_cons, List.take_zero, newB, vcs, flat_int, flat_bool, flat_string, flat_slice, flat_pointer, flat_func, flat_nilFunc, List.all_cons, List.all_nil, Bool.and_true, Bool.and_self, Ty.ld3, Ty.sz3, Ty.zc3, Ty.by3, Ty.ld9, Ty.sz9, Ty.st9, Ty.zc9, Ty.by9, Ty.ld40, Ty.sz40, Ty.sl40, Ty.zc40, Ty.by40, Ty.ld104, Ty.sz104, Ty.zc104, Ty.by104, *]; rfl
             · exact rfl
             skip)
          | (refine xd_do (v := ?_) (by exact rfl) (by decide +kernel) ?_ ?_; rotate_left 1)
          | (refine xd_gdo (v := ?_) (by exact rfl) (by decide +kernel) (by exact rfl) ?_ ?_ ?_
             rotate_left 1
             · simp only [ev, put_some, reduceIte, Nat.reduceEqDiff, Bool.not_true, Bool.not_false, *])
          | (refine xd_goff (by exact rfl) ?_ ?_
             · simp only [ev, put_some, reduceIte, Nat.reduceEqDiff, Bool.not_true, Bool.not_false, *])
          | (refine xd_gund (by exact rfl) ?_ ?_
             · simp only [ev, put_some, reduceIte, Nat.reduceEqDiff, Bool.not_true, Bool.not_false, *])
          | (refine xd_gif (b := ?_) (by exact rfl) ?_ (fun hb => ?_) (fun hb => ?_)
             rotate_left 1
             · simp only [ev, put_some, reduceIte, Nat.reduceEqDiff, Bool.not_true, Bool.not_false, *]; rfl)
          | (refine xr_gdo (v := ?_) (h' := ?_) (by exact rfl) (by exact rfl) ?_ ?_ ?_
             rotate_left 2
             · simp only [ev, put_some, reduceIte, Nat.reduceEqDiff, Bool.not_true, Bool.not_false, *])
          | (refine xr_gst (v := ?_) (h' := ?_) (by exact rfl) (by exact rfl) ?_ ?_ ?_
             rotate_left 2
             · simp only [ev, put_some, reduceIte, Nat.reduceEqDiff, Bool.not_true, Bool.not_false, *])
          | (refine xr_goff (by exact rfl) ?_ ?_
             · simp only [ev, put_some, reduceIte, Nat.reduceEqDiff, Bool.not_true, Bool.not_false, *])
          | (refine xr_gsoff (by exact rfl) ?_ ?_
             · simp only [ev, put_some, reduceIte, Nat.reduceEqDiff, Bool.not_true, Bool.not_false, *])
          | (refine xr_gund (by exact rfl) ?_ ?_
             · simp only [ev, put_some, reduceIte, Nat.reduceEqDiff, Bool.not_true, Bool.not_false, *])
          | (refine xr_gsund (by exact rfl) ?_ ?_
             · simp only [ev, put_some, reduceIte, Nat.reduceEqDiff, Bool.not_true, Bool.not_false, *])
          | (refine xr_gif (b := ?_) (by exact rfl) ?_ (fun hb => ?_) (fun hb => ?_)
             rotate_left 1
             · simp only [ev, put_some, reduceIte, Nat.reduceEqDiff, Bool.not_true, Bool.not_false, *]; rfl)
          | (refine aw_ift (by decide) ?_ ?_
             · simp only [ev, put_some, reduceIte, Nat.reduceEqDiff, *])
          | (refine aw_iff (by decide) ?_ ?_
             · simp only [ev, put_some, reduceIte, Nat.reduceEqDiff, *])
          | (refine aw_if (b := ?_) (by decide) ?_ (fun hb => ?_) (fun hb => ?_)
             rotate_left 1
             · simp only [ev, put_some, reduceIte, Nat.reduceEqDiff, *]; rfl)
          | (refine r_ret (vs := ?_) ?_ ?_
             rotate_left 1
             · simp only [resV, ev, put_some, reduceIte, Nat.reduceEqDiff, Option.map_some, *]; rfl)
          | (with_reducible exact withinE _ _ _ _)
          | (with_reducible refine frameOfE _ _ _ ?_ ?_
             · first | omega | (simp only [List.length_nil]; omega)
             · first | omega | (simp only [List.length_nil]; omega)
             )
          | (with_reducible refine atoi_yes _ ?_ _ ?_ ?_
             rotate_left 1
             · first | omega | (simp only [List.length_nil]; omega)
             · assumption
             )
          | (with_reducible exact hno _)
          | ((with_reducible refine HkTag.mk (n := 50) ?_); rintro _ _ ⟨rfl, hh⟩; replace hh := hh.symm; subst hh)
          | ((with_reducible refine HkTag.mk (n := 51) ?_); rintro _ _ ⟨rfl, hh⟩; replace hh := hh.symm; subst hh)
          | ((with_reducible refine HkTag.mk (n := 78) ?_); rintro _ _ ⟨rfl, hh⟩; replace hh := hh.symm; subst hh)
          )
        exact fr_canon hd hap
    · have hd := no_fit fun n q => hok ⟨n, by rw [fit_two q]; exact atoi2 n q.1⟩
      clear no_fit hrd
      obtain ⟨q, hno⟩ := atoi_no (s.extract 2 4) (by omega) fun n q => hok ⟨n, q⟩
      repeat' (first
        | ((with_reducible refine eq_go ?_); simp only [stp, ev, put_some, put_none, argT_list, List.getD_cons_zero, List.getD_cons_succ, reduceIte, Nat.reduceEqDiff, Option.map_some, Array.map_empty, List.map_toArray, List.map_cons, List.map_nil, List.append_toArray, Array.append_empty, Array.empty_append, List.nil_append, List.append_nil, and_self, if_true, decide_true, decide_false, Int.toNat_natCast, Int.natCast_nonneg, List.length_map, binV_add, binV_sub, binV_and, binV_shr, binV_shl, binV_str_eql, binV_str_neq, binV_mul, binV_eql, binV_neq, binV_lss, binV_leq, binV_gtr, binV_geq, unV_not, Bool.not_true, Bool.not_false, Bool.cond_true, Bool.cond_false, Option.map_none, List.getElem?_toArray, List.getElem?_cons_zero, List.getElem?_cons_succ, blt, lenV, List.size_toArray, List.length_cons, List.length_nil, Nat.zero_add, Array.getD_eq_getD_getElem?, List.getElem?_toArray, List.getElem?_cons_zero, List.getElem?_cons_succ, Option.getD_some, Option.isSome_some, Nat.add_assoc, List.toList_toArray, eq_self, Option.bind_some, List.append_assoc, List.cons_append, List.length_append, List.length_cons, List.length_nil, Nat.zero_add, Nat.add_zero, Nat.reduceAdd, Nat.reduceMul, Nat.reduceLeDiff, mset_some, mset_none, set_at, set_at0, killL_nil, killL_cons, getC_succ2, getC_succ3, getC_succ4, getC_succ5, getC_succ6, loadCs_succ2, loadCs_succ3, loadCs_succ4, loadCs_succ5, loadCs_succ6, setCs_succ2, setCs_succ3, setCs_succ4, setCs_succ5, setCs_succ6, getC_at, getC_at0, getC_zero, getC_succ, loadCs_at, loadCs_at0, loadCs_zero, loadCs_succ, setCs_at, setCs_at0, setCs_zero, setCs_succ, splice, List.set_cons_succ, List.set_cons_zero, List.getElem?_cons_zero, List.getElem?_cons_succ, List.drop_zero, List.drop_succ_cons, List.take_succ_cons, List.take_zero, newB, vcs, flat_int, flat_bool, flat_string, flat_slice, flat_pointer, flat_func, flat_nilFunc, List.all_cons, List.all_nil, Bool.and_true, Bool.and_self, Ty.ld3, Ty.sz3, Ty.zc3, Ty.by3, Ty.ld9, Ty.sz9, Ty.st9, Ty.zc9, Ty.by9, Ty.ld40, Ty.sz40, Ty.sl40, Ty.zc40, Ty.by40, Ty.ld104, Ty.sz104, Ty.zc104, Ty.by104, *]; rfl)
        | (with_reducible refine aw_then ?_) | (with_reducible refine aw_skip ?_) | (with_reducible refine aw_ret ?_) | (with_reducible refine aw_exit ?_) | (with_reducible refine aw_block ?_) | (with_reducible refine xr_reg (by decide +kernel) ?_)
        | (with_reducible refine xr_nil ?_) | (with_reducible refine k_norm ?_) | (with_reducible refine k_ret ?_) | (with_reducible refine k_exit ?_) | (with_reducible refine b_norm ?_) | (with_reducible refine b_ret ?_) | (with_reducible refine b_exit ?_) | (with_reducible refine b_past (by decide) ?_)
        | (with_reducible refine xd_nil ?_)
        | (refine xr_cl (f := ?_) (fs := ?_) (cs := ?_) (args := ?_) (K := ?_) ?_ ?_ ?_ ?_ ?_
           rotate_left 5
           · simp only [ev]; rfl
           first
           | (· with_reducible exact Ty.ok50
              rotate_left 2
              refine hk_tag 50 ?_
              rotate_right 2)
           | (· with_reducible exact Ty.ok51
              rotate_left 2
              refine hk_tag 51 ?_
              rotate_right 2)
           | (· with_reducible exact Ty.ok78
              rotate_left 2
              refine hk_tag 78 ?_
              rotate_right 2)
           )
        | (refine xr_gcl (f := ?_) (fs := ?_) (cs := ?_) (args := ?_) (K := ?_) (by exact rfl) ?_ ?_ ?_ ?_ ?_ ?_
           rotate_left 5
           · simp only [ev, put_some, reduceIte, Nat.reduceEqDiff, Bool.not_true, Bool.not_false, *]
           · simp only [ev]; rfl
           first
           | (· with_reducible exact Ty.ok50
              rotate_left 2
              refine hk_tag 50 ?_
              rotate_right 2)
           | (· with_reducible exact Ty.ok51
              rotate_left 2
              refine hk_tag 51 ?_
              rotate_right 2)
           | (· with_reducible exact Ty.ok78
              rotate_left 2
              refine hk_tag 78 ?_
              rotate_right 2)
           )
        | (refine xd_cl (f := ?_) (fs := ?_) (cs := ?_) (args := ?_) (v := ?_) ?_ ?_ ?_ ?_ ?_ ?_
           rotate_left 5
           · simp only [ev]; rfl
           · first | with_reducible exact Ty.ok50 | with_reducible exact Ty.ok51 | with_reducible exact Ty.ok78
           rotate_left 1
           · decide +kernel
           rotate_right 1)
        | (refine xd_gcl (f := ?_) (fs := ?_) (cs := ?_) (args := ?_) (v := ?_) (by exact rfl) ?_ ?_ ?_ ?_ ?_ ?_ ?_
           rotate_left 5
           · simp only [ev, put_some, reduceIte, Nat.reduceEqDiff, Bool.not_true, Bool.not_false, *]
           · simp only [ev]; rfl
           · first | with_reducible exact Ty.ok50 | with_reducible exact Ty.ok51 | with_reducible exact Ty.ok78
           rotate_left 1
           · decide +kernel
           rotate_right 1)
        | (refine xr_do (v := ?_) (h' := ?_) (by exact rfl) ?_ ?_; rotate_left 2)
        | (refine xr_st (v := ?_) (h' := ?_) (by exact rfl) ?_ ?_; rotate_left 2)
        | (refine xd_reg (ms := [0, 0, 3, 0, 0, 16, 56, 127]) Ty.mx (by decide +kernel) (by decide +kernel) ?_)
        | (refine xd_bs (v := ?_) (h' := ?_) (L := ?_) (by decide +kernel) ?_ ?_ ?_
           rotate_left 3
           · simp only [stp, ev, put_some, put_none, argT_list, List.getD_cons_zero, List.getD_cons_succ, reduceIte, Nat.reduceEqDiff, Option.map_some, Array.map_empty, List.map_toArray, List.map_cons, List.map_nil, List.append_toArray, Array.append_empty, Array.empty_append, List.nil_append, List.append_nil, and_self, if_true, decide_true, decide_false, Int.toNat_natCast, Int.natCast_nonneg, List.length_map, binV_add, binV_sub, binV_and, binV_shr, binV_shl, binV_str_eql, binV_str_neq, binV_mul, binV_eql, binV_neq, binV_lss, binV_leq, binV_gtr, binV_geq, unV_not, Bool.not_true, Bool.not_false, Bool.cond_true, Bool.cond_false, Option.map_none, List.getElem?_toArray, List.getElem?_cons_zero, List.getElem?_cons_succ, blt, lenV, List.size_toArray, List.length_cons, List.length_nil, Nat.zero_add, Array.getD_eq_getD_getElem?, List.getElem?_toArray, List.getElem?_cons_zero, List.getElem?_cons_succ, Option.getD_some, Option.isSome_some, Nat.add_assoc, List.toList_toArray, eq_self, Option.bind_some, List.append_assoc, List.cons_append, List.length_append, List.length_cons, List.length_nil, Nat.zero_add, Nat.add_zero, Nat.reduceAdd, Nat.reduceMul, Nat.reduceLeDiff, mset_some, mset_none, set_at, set_at0, killL_nil, killL_cons, getC_succ2, getC_succ3, getC_succ4, getC_succ5, getC_succ6, loadCs_succ2, loadCs_succ3, loadCs_succ4, loadCs_succ5, loadCs_succ6, setCs_succ2, setCs_succ3, setCs_succ4, setCs_succ5, setCs_succ6, getC_at, getC_at0, getC_zero, getC_succ, loadCs_at, loadCs_at0, loadCs_zero, loadCs_succ, setCs_at, setCs_at0, setCs_zero, setCs_succ, splice, List.set_cons_succ, List.set_cons_zero, List.getElem?_cons_zero, List.getElem?_cons_succ, List.drop_zero, List.drop_succ_cons, List.take_succ_cons, List.take_zero, newB, vcs, flat_int, flat_bool, flat_string, flat_slice, flat_pointer, flat_func, flat_nilFunc, List.all_cons, List.all_nil, Bool.and_true, Bool.and_self, Ty.ld3, Ty.sz3, Ty.zc3, Ty.by3, Ty.ld9, Ty.sz9, Ty.st9, Ty.zc9, Ty.by9, Ty.ld40, Ty.sz40, Ty.sl40, Ty.zc40, Ty.by40, Ty.ld104, Ty.sz104, Ty.zc104, Ty.by104, *]; rfl
           · exact rfl
           skip)
        | (refine xd_do (v := ?_) (by exact rfl) (by decide +kernel) ?_ ?_; rotate_left 1)
        | (refine xd_gdo (v := ?_) (by exact rfl) (by decide +kernel) (by exact rfl) ?_ ?_ ?_
           rotate_left 1
           · simp only [ev, put_some, reduceIte, Nat.reduceEqDiff, Bool.not_true, Bool.not_false, *])
        | (refine xd_goff (by exact rfl) ?_ ?_
           · simp only [ev, put_some, reduceIte, Nat.reduceEqDiff, Bool.not_true, Bool.not_false, *])
        | (refine xd_gund (by exact rfl) ?_ ?_
           · simp only [ev, put_some, reduceIte, Nat.reduceEqDiff, Bool.not_true, Bool.not_false, *])
        | (refine xd_gif (b := ?_) (by exact rfl) ?_ (fun hb => ?_) (fun hb => ?_)
           rotate_left 1
           · simp only [ev, put_some, reduceIte, Nat.reduceEqDiff, Bool.not_true, Bool.not_false, *]; rfl)
        | (refine xr_gdo (v := ?_) (h' := ?_) (by exact rfl) (by exact rfl) ?_ ?_ ?_
           rotate_left 2
           · simp only [ev, put_some, reduceIte, Nat.reduceEqDiff, Bool.not_true, Bool.not_false, *])
        | (refine xr_gst (v := ?_) (h' := ?_) (by exact rfl) (by exact rfl) ?_ ?_ ?_
           rotate_left 2
           · simp only [ev, put_some, reduceIte, Nat.reduceEqDiff, Bool.not_true, Bool.not_false, *])
        | (refine xr_goff (by exact rfl) ?_ ?_
           · simp only [ev, put_some, reduceIte, Nat.reduceEqDiff, Bool.not_true, Bool.not_false, *])
        | (refine xr_gsoff (by exact rfl) ?_ ?_
           · simp only [ev, put_some, reduceIte, Nat.reduceEqDiff, Bool.not_true, Bool.not_false, *])
        | (refine xr_gund (by exact rfl) ?_ ?_
           · simp only [ev, put_some, reduceIte, Nat.reduceEqDiff, Bool.not_true, Bool.not_false, *])
        | (refine xr_gsund (by exact rfl) ?_ ?_
           · simp only [ev, put_some, reduceIte, Nat.reduceEqDiff, Bool.not_true, Bool.not_false, *])
        | (refine xr_gif (b := ?_) (by exact rfl) ?_ (fun hb => ?_) (fun hb => ?_)
           rotate_left 1
           · simp only [ev, put_some, reduceIte, Nat.reduceEqDiff, Bool.not_true, Bool.not_false, *]; rfl)
        | (refine aw_ift (by decide) ?_ ?_
           · simp only [ev, put_some, reduceIte, Nat.reduceEqDiff, *])
        | (refine aw_iff (by decide) ?_ ?_
           · simp only [ev, put_some, reduceIte, Nat.reduceEqDiff, *])
        | (refine aw_if (b := ?_) (by decide) ?_ (fun hb => ?_) (fun hb => ?_)
           rotate_left 1
           · simp only [ev, put_some, reduceIte, Nat.reduceEqDiff, *]; rfl)
        | (refine r_ret (vs := ?_) ?_ ?_
           rotate_left 1
           · simp only [resV, ev, put_some, reduceIte, Nat.reduceEqDiff, Option.map_some, *]; rfl)
        | (with_reducible exact withinE _ _ _ _)
        | (with_reducible refine frameOfE _ _ _ ?_ ?_
           · first | omega | (simp only [List.length_nil]; omega)
           · first | omega | (simp only [List.length_nil]; omega)
           )
        | (with_reducible refine atoi_yes _ ?_ _ ?_ ?_
           rotate_left 1
           · first | omega | (simp only [List.length_nil]; omega)
           · assumption
           )
        | (with_reducible exact hno _)
        | ((with_reducible refine HkTag.mk (n := 50) ?_); rintro _ _ ⟨rfl, hh⟩; replace hh := hh.symm; subst hh)
        | ((with_reducible refine HkTag.mk (n := 51) ?_); rintro _ _ ⟨rfl, hh⟩; replace hh := hh.symm; subst hh)
        | ((with_reducible refine HkTag.mk (n := 78) ?_); rintro _ _ ⟨rfl, hh⟩; replace hh := hh.symm; subst hh)
        )
      exact fr_canon hd (hap.more _)
  · have ha' : ¬ ((acc.length + 1 : Nat) : Int) ≤ 99 := by omega
    rw [show 99 - acc.length = 0 by omega] at hrd
    repeat' (first
      | ((with_reducible refine eq_go ?_); simp only [stp, ev, put_some, put_none, argT_list, List.getD_cons_zero, List.getD_cons_succ, reduceIte, Nat.reduceEqDiff, Option.map_some, Array.map_empty, List.map_toArray, List.map_cons, List.map_nil, List.append_toArray, Array.append_empty, Array.empty_append, List.nil_append, List.append_nil, and_self, if_true, decide_true, decide_false, Int.toNat_natCast, Int.natCast_nonneg, List.length_map, binV_add, binV_sub, binV_and, binV_shr, binV_shl, binV_str_eql, binV_str_neq, binV_mul, binV_eql, binV_neq, binV_lss, binV_leq, binV_gtr, binV_geq, unV_not, Bool.not_true, Bool.not_false, Bool.cond_true, Bool.cond_false, Option.map_none, List.getElem?_toArray, List.getElem?_cons_zero, List.getElem?_cons_succ, blt, lenV, List.size_toArray, List.length_cons, List.length_nil, Nat.zero_add, Array.getD_eq_getD_getElem?, List.getElem?_toArray, List.getElem?_cons_zero, List.getElem?_cons_succ, Option.getD_some, Option.isSome_some, Nat.add_assoc, List.toList_toArray, eq_self, Option.bind_some, List.append_assoc, List.cons_append, List.length_append, List.length_cons, List.length_nil, Nat.zero_add, Nat.add_zero, Nat.reduceAdd, Nat.reduceMul, Nat.reduceLeDiff, mset_some, mset_none, set_at, set_at0, killL_nil, killL_cons, getC_succ2, getC_succ3, getC_succ4, getC_succ5, getC_succ6, loadCs_succ2, loadCs_succ3, loadCs_succ4, loadCs_succ5, loadCs_succ6, setCs_succ2, setCs_succ3, setCs_succ4, setCs_succ5, setCs_succ6, getC_at, getC_at0, getC_zero, getC_succ, loadCs_at, loadCs_at0, loadCs_zero, loadCs_succ, setCs_at, setCs_at0, setCs_zero, setCs_succ, splice, List.set_cons_succ, List.set_cons_zero, List.getElem?_cons_zero, List.getElem?_cons_succ, List.drop_zero, List.drop_succ_cons, List.take_succ_cons, List.take_zero, newB, vcs, flat_int, flat_bool, flat_string, flat_slice, flat_pointer, flat_func, flat_nilFunc, List.all_cons, List.all_nil, Bool.and_true, Bool.and_self, Ty.ld3, Ty.sz3, Ty.zc3, Ty.by3, Ty.ld9, Ty.sz9, Ty.st9, Ty.zc9, Ty.by9, Ty.ld40, Ty.sz40, Ty.sl40, Ty.zc40, Ty.by40, Ty.ld104, Ty.sz104, Ty.zc104, Ty.by104, *]; rfl)
      | (with_reducible refine aw_then ?_) | (with_reducible refine aw_skip ?_) | (with_reducible refine aw_ret ?_) | (with_reducible refine aw_exit ?_) | (with_reducible refine aw_block ?_) | (with_reducible refine xr_reg (by decide +kernel) ?_)
      | (with_reducible refine xr_nil ?_) | (with_reducible refine k_norm ?_) | (with_reducible refine k_ret ?_) | (with_reducible refine k_exit ?_) | (with_reducible refine b_norm ?_) | (with_reducible refine b_ret ?_) | (with_reducible refine b_exit ?_) | (with_reducible refine b_past (by decide) ?_)
      | (with_reducible refine xd_nil ?_)
      | (refine xr_cl (f := ?_) (fs := ?_) (cs := ?_) (args := ?_) (K := ?_) ?_ ?_ ?_ ?_ ?_
         rotate_left 5
         · simp only [ev]; rfl
         first
         | (· with_reducible exact Ty.ok50
            rotate_left 2
            refine hk_tag 50 ?_
            rotate_right 2)
         | (· with_reducible exact Ty.ok51
            rotate_left 2
            refine hk_tag 51 ?_
            rotate_right 2)
         | (· with_reducible exact Ty.ok78
            rotate_left 2
            refine hk_tag 78 ?_
            rotate_right 2)
         )
      | (refine xr_gcl (f := ?_) (fs := ?_) (cs := ?_) (args := ?_) (K := ?_) (by exact rfl) ?_ ?_ ?_ ?_ ?_ ?_
         rotate_left 5
         · simp only [ev, put_some, reduceIte, Nat.reduceEqDiff, Bool.not_true, Bool.not_false, *]
         · simp only [ev]; rfl
         first
         | (· with_reducible exact Ty.ok50
            rotate_left 2
            refine hk_tag 50 ?_
            rotate_right 2)
         | (· with_reducible exact Ty.ok51
            rotate_left 2
            refine hk_tag 51 ?_
            rotate_right 2)
         | (· with_reducible exact Ty.ok78
            rotate_left 2
            refine hk_tag 78 ?_
            rotate_right 2)
         )
      | (refine xd_cl (f := ?_) (fs := ?_) (cs := ?_) (args := ?_) (v := ?_) ?_ ?_ ?_ ?_ ?_ ?_
         rotate_left 5
         · simp only [ev]; rfl
         · first | with_reducible exact Ty.ok50 | with_reducible exact Ty.ok51 | with_reducible exact Ty.ok78
         rotate_left 1
         · decide +kernel
         rotate_right 1)
      | (refine xd_gcl (f := ?_) (fs := ?_) (cs := ?_) (args := ?_) (v := ?_) (by exact rfl) ?_ ?_ ?_ ?_ ?_ ?_ ?_
         rotate_left 5
         · simp only [ev, put_some, reduceIte, Nat.reduceEqDiff, Bool.not_true, Bool.not_false, *]
         · simp only [ev]; rfl
         · first | with_reducible exact Ty.ok50 | with_reducible exact Ty.ok51 | with_reducible exact Ty.ok78
         rotate_left 1
         · decide +kernel
         rotate_right 1)
      | (refine xr_do (v := ?_) (h' := ?_) (by exact rfl) ?_ ?_; rotate_left 2)
      | (refine xr_st (v := ?_) (h' := ?_) (by exact rfl) ?_ ?_; rotate_left 2)
      | (refine xd_reg (ms := [0, 0, 3, 0, 0, 16, 56, 127]) Ty.mx (by decide +kernel) (by decide +kernel) ?_)
      | (refine xd_bs (v := ?_) (h' := ?_) (L := ?_) (by decide +kernel) ?_ ?_ ?_
         rotate_left 3
         · simp only [stp, ev, put_some, put_none, argT_list, List.getD_cons_zero, List.getD_cons_succ, reduceIte, Nat.reduceEqDiff, Option.map_some, Array.map_empty, List.map_toArray, List.map_cons, List.map_nil, List.append_toArray, Array.append_empty, Array.empty_append, List.nil_append, List.append_nil, and_self, if_true, decide_true, decide_false, Int.toNat_natCast, Int.natCast_nonneg, List.length_map, binV_add, binV_sub, binV_and, binV_shr, binV_shl, binV_str_eql, binV_str_neq, binV_mul, binV_eql, binV_neq, binV_lss, binV_leq, binV_gtr, binV_geq, unV_not, Bool.not_true, Bool.not_false, Bool.cond_true, Bool.cond_false, Option.map_none, List.getElem?_toArray, List.getElem?_cons_zero, List.getElem?_cons_succ, blt, lenV, List.size_toArray, List.length_cons, List.length_nil, Nat.zero_add, Array.getD_eq_getD_getElem?, List.getElem?_toArray, List.getElem?_cons_zero, List.getElem?_cons_succ, Option.getD_some, Option.isSome_some, Nat.add_assoc, List.toList_toArray, eq_self, Option.bind_some, List.append_assoc, List.cons_append, List.length_append, List.length_cons, List.length_nil, Nat.zero_add, Nat.add_zero, Nat.reduceAdd, Nat.reduceMul, Nat.reduceLeDiff, mset_some, mset_none, set_at, set_at0, killL_nil, killL_cons, getC_succ2, getC_succ3, getC_succ4, getC_succ5, getC_succ6, loadCs_succ2, loadCs_succ3, loadCs_succ4, loadCs_succ5, loadCs_succ6, setCs_succ2, setCs_succ3, setCs_succ4, setCs_succ5, setCs_succ6, getC_at, getC_at0, getC_zero, getC_succ, loadCs_at, loadCs_at0, loadCs_zero, loadCs_succ, setCs_at, setCs_at0, setCs_zero, setCs_succ, splice, List.set_cons_succ, List.set_cons_zero, List.getElem?_cons_zero, List.getElem?_cons_succ, List.drop_zero, List.drop_succ_cons, List.take_succ_cons, List.take_zero, newB, vcs, flat_int, flat_bool, flat_string, flat_slice, flat_pointer, flat_func, flat_nilFunc, List.all_cons, List.all_nil, Bool.and_true, Bool.and_self, Ty.ld3, Ty.sz3, Ty.zc3, Ty.by3, Ty.ld9, Ty.sz9, Ty.st9, Ty.zc9, Ty.by9, Ty.ld40, Ty.sz40, Ty.sl40, Ty.zc40, Ty.by40, Ty.ld104, Ty.sz104, Ty.zc104, Ty.by104, *]; rfl
         · exact rfl
         skip)
      | (refine xd_do (v := ?_) (by exact rfl) (by decide +kernel) ?_ ?_; rotate_left 1)
      | (refine xd_gdo (v := ?_) (by exact rfl) (by decide +kernel) (by exact rfl) ?_ ?_ ?_
         rotate_left 1
         · simp only [ev, put_some, reduceIte, Nat.reduceEqDiff, Bool.not_true, Bool.not_false, *])
      | (refine xd_goff (by exact rfl) ?_ ?_
         · simp only [ev, put_some, reduceIte, Nat.reduceEqDiff, Bool.not_true, Bool.not_false, *])
      | (refine xd_gund (by exact rfl) ?_ ?_
         · simp only [ev, put_some, reduceIte, Nat.reduceEqDiff, Bool.not_true, Bool.not_false, *])
      | (refine xd_gif (b := ?_) (by exact rfl) ?_ (fun hb => ?_) (fun hb => ?_)
         rotate_left 1
         · simp only [ev, put_some, reduceIte, Nat.reduceEqDiff, Bool.not_true, Bool.not_false, *]; rfl)
      | (refine xr_gdo (v := ?_) (h' := ?_) (by exact rfl) (by exact rfl) ?_ ?_ ?_
         rotate_left 2
         · simp only [ev, put_some, reduceIte, Nat.reduceEqDiff, Bool.not_true, Bool.not_false, *])
      | (refine xr_gst (v := ?_) (h' := ?_) (by exact rfl) (by exact rfl) ?_ ?_ ?_
         rotate_left 2
         · simp only [ev, put_some, reduceIte, Nat.reduceEqDiff, Bool.not_true, Bool.not_false, *])
      | (refine xr_goff (by exact rfl) ?_ ?_
         · simp only [ev, put_some, reduceIte, Nat.reduceEqDiff, Bool.not_true, Bool.not_false, *])
      | (refine xr_gsoff (by exact rfl) ?_ ?_
         · simp only [ev, put_some, reduceIte, Nat.reduceEqDiff, Bool.not_true, Bool.not_false, *])
      | (refine xr_gund (by exact rfl) ?_ ?_
         · simp only [ev, put_some, reduceIte, Nat.reduceEqDiff, Bool.not_true, Bool.not_false, *])
      | (refine xr_gsund (by exact rfl) ?_ ?_
         · simp only [ev, put_some, reduceIte, Nat.reduceEqDiff, Bool.not_true, Bool.not_false, *])
      | (refine xr_gif (b := ?_) (by exact rfl) ?_ (fun hb => ?_) (fun hb => ?_)
         rotate_left 1
         · simp only [ev, put_some, reduceIte, Nat.reduceEqDiff, Bool.not_true, Bool.not_false, *]; rfl)
      | (refine aw_ift (by decide) ?_ ?_
         · simp only [ev, put_some, reduceIte, Nat.reduceEqDiff, *])
      | (refine aw_iff (by decide) ?_ ?_
         · simp only [ev, put_some, reduceIte, Nat.reduceEqDiff, *])
      | (refine aw_if (b := ?_) (by decide) ?_ (fun hb => ?_) (fun hb => ?_)
         rotate_left 1
         · simp only [ev, put_some, reduceIte, Nat.reduceEqDiff, *]; rfl)
      | (refine r_ret (vs := ?_) ?_ ?_
         rotate_left 1
         · simp only [resV, ev, put_some, reduceIte, Nat.reduceEqDiff, Option.map_some, *]; rfl)
      | (with_reducible exact withinE _ _ _ _)
      | (with_reducible refine frameOfE _ _ _ ?_ ?_
         · first | omega | (simp only [List.length_nil]; omega)
         · first | omega | (simp only [List.length_nil]; omega)
         )
      | (with_reducible refine atoi_yes _ ?_ _ ?_ ?_
         rotate_left 1
         · first | omega | (simp only [List.length_nil]; omega)
         · assumption
         )
      | (with_reducible exact hno _)
      | ((with_reducible refine HkTag.mk (n := 50) ?_); rintro _ _ ⟨rfl, hh⟩; replace hh := hh.symm; subst hh)
      | ((with_reducible refine HkTag.mk (n := 51) ?_); rintro _ _ ⟨rfl, hh⟩; replace hh := hh.symm; subst hh)
      | ((with_reducible refine HkTag.mk (n := 78) ?_); rintro _ _ ⟨rfl, hh⟩; replace hh := hh.symm; subst hh)
      )
    exact fr_canon hrd hap

theorem l17ReadE (t : ByteArray) (h : Heap) (ht : t.size ≤ 1048576) : ACalls Tryd.prog dE 58 #[.string t] h fun v h' => v = frV h.length (rdF t 99 0 []) ∧ h' = h ++ frL (rdF t 99 0 []) := upPE (l17Read_ok t h ht)

/-- What ReadFrames gives. -/
def rfR (t : ByteArray) : List ByteArray × Nat := if 4000 < t.size then ([], 0) else rdF t 99 0 []
def rfV (n : Nat) (t : ByteArray) : Value := .tuple #[cV n (rfR t).1.length, .int .i64 (rfR t).2, .bool (decide (t.size ≤ 4000))]
def rfL (t : ByteArray) : Heap := cL 1 (txs (rfR t).1) (rfR t).1.length
theorem rdF_len (t : ByteArray) : ∀ (f pos : Nat) (acc : List ByteArray), pos ≤ t.size → (rdF t f pos acc).1.length ≤ acc.length + f ∧ (rdF t f pos acc).2 ≤ t.size
  | 0, pos, acc, h => ⟨Nat.le_refl _, h⟩
  | f + 1, pos, acc, h => by
      by_cases hf : ∃ n, fit (t.extract pos t.size) (acc.length + 1) n
      · obtain ⟨n, hf⟩ := hf
        rw [rdF_yes hf]
        have h8 := hf.2.1
        rw [ByteArray.size_extract] at h8
        have i := rdF_len t f (pos + (8 + n)) (acc ++ [(t.extract pos t.size).extract 4 (4 + n)]) (by omega)
        rw [List.length_append] at i
        exact ⟨by have := i.1; simp only [List.length_cons, List.length_nil] at this; omega, i.2⟩
      · rw [rdF_no fun n q => hf ⟨n, q⟩]
        exact ⟨by simp, h⟩
theorem cV_app (n : Nat) (l : List ByteArray) : App n (cL 1 (txs l) l.length) (cV n l.length) 1 (txs l) l.length := by
  unfold cV cL
  by_cases h : l.length = 0
  · rw [if_pos h, if_pos h]
    obtain rfl := List.length_eq_zero_iff.1 h
    exact App.nil _ _ _
  · rw [if_neg h, if_neg h]
    exact .inr ⟨h, txs_len l, 0, rfl, rfl⟩

theorem implReadFrames_ok (t : ByteArray) (h : Heap) (ht : t.size ≤ 1048576) : ACalls Tryd.prog dE 24 #[.string t] h fun v h' => v = rfV h.length t ∧ h' = h ++ rfL t := by
  refine acalls_canon _ _ ?_
  by_cases c : 4000 < t.size
  · have c' : (4000 : Int) < (t.size : Int) := by omega
    have c2 : decide (t.size ≤ 4000) = false := decide_eq_false (by omega)
    simp only [rfV, rfL, rfR, if_pos c, c2]
    clear c
    refine acalls_fn Tryd.func24 rfl Tryd.ntmps24 (by simp) (by dsimp only [Tryd.f24]) ?_
    repeat' (first
      | ((with_reducible refine eq_go ?_); simp only [stp, ev, put_some, put_none, argT_list, List.getD_cons_zero, List.getD_cons_succ, reduceIte, Nat.reduceEqDiff, Option.map_some, Array.map_empty, List.map_toArray, List.map_cons, List.map_nil, List.append_toArray, Array.append_empty, Array.empty_append, List.nil_append, List.append_nil, and_self, if_true, decide_true, decide_false, Int.toNat_natCast, Int.natCast_nonneg, List.length_map, binV_add, binV_sub, binV_and, binV_shr, binV_shl, binV_str_eql, binV_str_neq, binV_mul, binV_eql, binV_neq, binV_lss, binV_leq, binV_gtr, binV_geq, unV_not, Bool.not_true, Bool.not_false, Bool.cond_true, Bool.cond_false, List.getElem?_toArray, List.getElem?_cons_zero, List.getElem?_cons_succ, blt, lenV, List.size_toArray, List.length_cons, List.length_nil, Nat.zero_add, Array.getD_eq_getD_getElem?, List.getElem?_toArray, List.getElem?_cons_zero, List.getElem?_cons_succ, Option.getD_some, Option.isSome_some, Ty.ld3, Ty.sz3, Ty.zc3, Ty.by3, Ty.ld9, Ty.sz9, Ty.st9, Ty.zc9, Ty.by9, *]; rfl)
      | (with_reducible refine aw_then ?_) | (with_reducible refine aw_skip ?_) | (with_reducible refine aw_ret ?_) | (with_reducible refine aw_exit ?_) | (with_reducible refine aw_block ?_) | (with_reducible refine xr_reg (by decide +kernel) ?_)
      | (with_reducible refine xr_nil ?_) | (with_reducible refine k_norm ?_) | (with_reducible refine k_ret ?_) | (with_reducible refine k_exit ?_) | (with_reducible refine b_norm ?_) | (with_reducible refine b_ret ?_) | (with_reducible refine b_exit ?_) | (with_reducible refine b_past (by decide) ?_)
      | (refine xr_cl (f := ?_) (fs := ?_) (cs := ?_) (args := ?_) (K := ?_) ?_ ?_ ?_ ?_ ?_
         rotate_left 5
         · simp only [ev]; rfl
         first
         | (· with_reducible exact Ty.ok59
            rotate_left 2
            refine hk_tag 59 ?_
            rotate_right 2)
         )
      | (refine xr_do (v := ?_) (h' := ?_) (by exact rfl) ?_ ?_; rotate_left 2)
      | (refine xr_st (v := ?_) (h' := ?_) (by exact rfl) ?_ ?_; rotate_left 2)
      | (refine aw_ift (by decide) ?_ ?_
         · simp only [ev, put_some, reduceIte, Nat.reduceEqDiff, *])
      | (refine aw_iff (by decide) ?_ ?_
         · simp only [ev, put_some, reduceIte, Nat.reduceEqDiff, *])
      | (refine aw_if (b := ?_) (by decide) ?_ (fun hb => ?_) (fun hb => ?_)
         rotate_left 1
         · simp only [ev, put_some, reduceIte, Nat.reduceEqDiff, *]; rfl)
      | (refine r_ret (vs := ?_) ?_ ?_
         rotate_left 1
         · simp only [resV, ev, put_some, reduceIte, Nat.reduceEqDiff, Option.map_some, *]; rfl)
      | (with_reducible refine readFrames_ok _ _ ?_
         · first | omega | (simp only [List.length_nil]; omega)
         )
      | ((with_reducible refine HkTag.mk (n := 59) ?_); rintro _ _ ⟨rfl, hh⟩; replace hh := hh.symm; subst hh)
      )
    exact ⟨[], [], (List.append_nil h).symm, Inj.nil, rfl, BsOk.nil _ _, RVl.tuple (l := [_, _, _]) (l' := [_, _, _]) ⟨.plain _ rfl, .plain _ rfl, .plain _ rfl, trivial⟩⟩
  · have c' : ¬ (4000 : Int) < (t.size : Int) := by omega
    have c2 : decide (t.size ≤ 4000) = true := decide_eq_true (by omega)
    simp only [rfV, rfL, rfR, if_neg c, c2]
    clear c
    generalize hR : rdF t 99 0 [] = R
    obtain ⟨l, p⟩ := R
    have hap := cV_app h.length l
    obtain ⟨b, hb⟩ := app_slice hap
    refine acalls_fn Tryd.func24 rfl Tryd.ntmps24 (by simp) (by dsimp only [Tryd.f24]) ?_
    repeat' (first
      | ((with_reducible refine eq_go ?_); simp only [stp, ev, put_some, put_none, argT_list, List.getD_cons_zero, List.getD_cons_succ, reduceIte, Nat.reduceEqDiff, Option.map_some, Array.map_empty, List.map_toArray, List.map_cons, List.map_nil, List.append_toArray, Array.append_empty, Array.empty_append, List.nil_append, List.append_nil, and_self, if_true, decide_true, decide_false, Int.toNat_natCast, Int.natCast_nonneg, List.length_map, binV_add, binV_sub, binV_and, binV_shr, binV_shl, binV_str_eql, binV_str_neq, binV_mul, binV_eql, binV_neq, binV_lss, binV_leq, binV_gtr, binV_geq, unV_not, Bool.not_true, Bool.not_false, Bool.cond_true, Bool.cond_false, List.getElem?_toArray, List.getElem?_cons_zero, List.getElem?_cons_succ, blt, lenV, List.size_toArray, List.length_cons, List.length_nil, Nat.zero_add, Array.getD_eq_getD_getElem?, List.getElem?_toArray, List.getElem?_cons_zero, List.getElem?_cons_succ, Option.getD_some, Option.isSome_some, Ty.ld3, Ty.sz3, Ty.zc3, Ty.by3, Ty.ld9, Ty.sz9, Ty.st9, Ty.zc9, Ty.by9, frV, frL, *]; rfl)
      | (with_reducible refine aw_then ?_) | (with_reducible refine aw_skip ?_) | (with_reducible refine aw_ret ?_) | (with_reducible refine aw_exit ?_) | (with_reducible refine aw_block ?_) | (with_reducible refine xr_reg (by decide +kernel) ?_)
      | (with_reducible refine xr_nil ?_) | (with_reducible refine k_norm ?_) | (with_reducible refine k_ret ?_) | (with_reducible refine k_exit ?_) | (with_reducible refine b_norm ?_) | (with_reducible refine b_ret ?_) | (with_reducible refine b_exit ?_) | (with_reducible refine b_past (by decide) ?_)
      | (refine xr_cl (f := ?_) (fs := ?_) (cs := ?_) (args := ?_) (K := ?_) ?_ ?_ ?_ ?_ ?_
         rotate_left 5
         · simp only [ev]; rfl
         first
         | (· with_reducible exact Ty.ok59
            rotate_left 2
            refine hk_tag 59 ?_
            rotate_right 2)
         )
      | (refine xr_do (v := ?_) (h' := ?_) (by exact rfl) ?_ ?_; rotate_left 2)
      | (refine xr_st (v := ?_) (h' := ?_) (by exact rfl) ?_ ?_; rotate_left 2)
      | (refine aw_ift (by decide) ?_ ?_
         · simp only [ev, put_some, reduceIte, Nat.reduceEqDiff, *])
      | (refine aw_iff (by decide) ?_ ?_
         · simp only [ev, put_some, reduceIte, Nat.reduceEqDiff, *])
      | (refine aw_if (b := ?_) (by decide) ?_ (fun hb => ?_) (fun hb => ?_)
         rotate_left 1
         · simp only [ev, put_some, reduceIte, Nat.reduceEqDiff, *]; rfl)
      | (refine r_ret (vs := ?_) ?_ ?_
         rotate_left 1
         · simp only [resV, ev, put_some, reduceIte, Nat.reduceEqDiff, Option.map_some, *]; rfl)
      | (with_reducible refine readFrames_ok _ _ ?_
         · first | omega | (simp only [List.length_nil]; omega)
         )
      | ((with_reducible refine HkTag.mk (n := 59) ?_); rintro _ _ ⟨rfl, hh⟩; replace hh := hh.symm; subst hh)
      )
    rw [hb] at hap
    have hcan := canon_fr [.int .i64 (p : Nat), .bool true] hap.fr (txs_af _) (by simp [af1])
    exact hcan

theorem specReadFrames_ok (t : ByteArray) (h : Heap) (ht : t.size ≤ 1048576) : ACalls Tryd.prog dE 23 #[.string t] h fun v h' => v = rfV h.length t ∧ h' = h ++ rfL t := by
  refine acalls_canon _ _ ?_
  by_cases c : 4000 < t.size
  · have c' : (4000 : Int) < (t.size : Int) := by omega
    have c2 : decide (t.size ≤ 4000) = false := decide_eq_false (by omega)
    simp only [rfV, rfL, rfR, if_pos c, c2]
    clear c
    refine acalls_fn Tryd.func23 rfl Tryd.ntmps23 (by simp) (by dsimp only [Tryd.f23]) ?_
    repeat' (first
      | ((with_reducible refine eq_go ?_); simp only [stp, ev, put_some, put_none, argT_list, List.getD_cons_zero, List.getD_cons_succ, reduceIte, Nat.reduceEqDiff, Option.map_some, Array.map_empty, List.map_toArray, List.map_cons, List.map_nil, List.append_toArray, Array.append_empty, Array.empty_append, List.nil_append, List.append_nil, and_self, if_true, decide_true, decide_false, Int.toNat_natCast, Int.natCast_nonneg, List.length_map, binV_add, binV_sub, binV_and, binV_shr, binV_shl, binV_str_eql, binV_str_neq, binV_mul, binV_eql, binV_neq, binV_lss, binV_leq, binV_gtr, binV_geq, unV_not, Bool.not_true, Bool.not_false, Bool.cond_true, Bool.cond_false, List.getElem?_toArray, List.getElem?_cons_zero, List.getElem?_cons_succ, blt, lenV, List.size_toArray, List.length_cons, List.length_nil, Nat.zero_add, Array.getD_eq_getD_getElem?, List.getElem?_toArray, List.getElem?_cons_zero, List.getElem?_cons_succ, Option.getD_some, Option.isSome_some, Ty.ld3, Ty.sz3, Ty.zc3, Ty.by3, Ty.ld9, Ty.sz9, Ty.st9, Ty.zc9, Ty.by9, *]; rfl)
      | (with_reducible refine aw_then ?_) | (with_reducible refine aw_skip ?_) | (with_reducible refine aw_ret ?_) | (with_reducible refine aw_exit ?_) | (with_reducible refine aw_block ?_) | (with_reducible refine xr_reg (by decide +kernel) ?_)
      | (with_reducible refine xr_nil ?_) | (with_reducible refine k_norm ?_) | (with_reducible refine k_ret ?_) | (with_reducible refine k_exit ?_) | (with_reducible refine b_norm ?_) | (with_reducible refine b_ret ?_) | (with_reducible refine b_exit ?_) | (with_reducible refine b_past (by decide) ?_)
      | (refine xr_cl (f := ?_) (fs := ?_) (cs := ?_) (args := ?_) (K := ?_) ?_ ?_ ?_ ?_ ?_
         rotate_left 5
         · simp only [ev]; rfl
         first
         | (· with_reducible exact Ty.ok58
            rotate_left 2
            refine hk_tag 58 ?_
            rotate_right 2)
         )
      | (refine xr_do (v := ?_) (h' := ?_) (by exact rfl) ?_ ?_; rotate_left 2)
      | (refine xr_st (v := ?_) (h' := ?_) (by exact rfl) ?_ ?_; rotate_left 2)
      | (refine aw_ift (by decide) ?_ ?_
         · simp only [ev, put_some, reduceIte, Nat.reduceEqDiff, *])
      | (refine aw_iff (by decide) ?_ ?_
         · simp only [ev, put_some, reduceIte, Nat.reduceEqDiff, *])
      | (refine aw_if (b := ?_) (by decide) ?_ (fun hb => ?_) (fun hb => ?_)
         rotate_left 1
         · simp only [ev, put_some, reduceIte, Nat.reduceEqDiff, *]; rfl)
      | (refine r_ret (vs := ?_) ?_ ?_
         rotate_left 1
         · simp only [resV, ev, put_some, reduceIte, Nat.reduceEqDiff, Option.map_some, *]; rfl)
      | (with_reducible refine l17ReadE _ _ ?_
         · first | omega | (simp only [List.length_nil]; omega)
         )
      | ((with_reducible refine HkTag.mk (n := 58) ?_); rintro _ _ ⟨rfl, hh⟩; replace hh := hh.symm; subst hh)
      )
    exact ⟨[], [], (List.append_nil h).symm, Inj.nil, rfl, BsOk.nil _ _, RVl.tuple (l := [_, _, _]) (l' := [_, _, _]) ⟨.plain _ rfl, .plain _ rfl, .plain _ rfl, trivial⟩⟩
  · have c' : ¬ (4000 : Int) < (t.size : Int) := by omega
    have c2 : decide (t.size ≤ 4000) = true := decide_eq_true (by omega)
    simp only [rfV, rfL, rfR, if_neg c, c2]
    clear c
    generalize hR : rdF t 99 0 [] = R
    obtain ⟨l, p⟩ := R
    have hap := cV_app h.length l
    obtain ⟨b, hb⟩ := app_slice hap
    refine acalls_fn Tryd.func23 rfl Tryd.ntmps23 (by simp) (by dsimp only [Tryd.f23]) ?_
    repeat' (first
      | ((with_reducible refine eq_go ?_); simp only [stp, ev, put_some, put_none, argT_list, List.getD_cons_zero, List.getD_cons_succ, reduceIte, Nat.reduceEqDiff, Option.map_some, Array.map_empty, List.map_toArray, List.map_cons, List.map_nil, List.append_toArray, Array.append_empty, Array.empty_append, List.nil_append, List.append_nil, and_self, if_true, decide_true, decide_false, Int.toNat_natCast, Int.natCast_nonneg, List.length_map, binV_add, binV_sub, binV_and, binV_shr, binV_shl, binV_str_eql, binV_str_neq, binV_mul, binV_eql, binV_neq, binV_lss, binV_leq, binV_gtr, binV_geq, unV_not, Bool.not_true, Bool.not_false, Bool.cond_true, Bool.cond_false, List.getElem?_toArray, List.getElem?_cons_zero, List.getElem?_cons_succ, blt, lenV, List.size_toArray, List.length_cons, List.length_nil, Nat.zero_add, Array.getD_eq_getD_getElem?, List.getElem?_toArray, List.getElem?_cons_zero, List.getElem?_cons_succ, Option.getD_some, Option.isSome_some, Ty.ld3, Ty.sz3, Ty.zc3, Ty.by3, Ty.ld9, Ty.sz9, Ty.st9, Ty.zc9, Ty.by9, frV, frL, *]; rfl)
      | (with_reducible refine aw_then ?_) | (with_reducible refine aw_skip ?_) | (with_reducible refine aw_ret ?_) | (with_reducible refine aw_exit ?_) | (with_reducible refine aw_block ?_) | (with_reducible refine xr_reg (by decide +kernel) ?_)
      | (with_reducible refine xr_nil ?_) | (with_reducible refine k_norm ?_) | (with_reducible refine k_ret ?_) | (with_reducible refine k_exit ?_) | (with_reducible refine b_norm ?_) | (with_reducible refine b_ret ?_) | (with_reducible refine b_exit ?_) | (with_reducible refine b_past (by decide) ?_)
      | (refine xr_cl (f := ?_) (fs := ?_) (cs := ?_) (args := ?_) (K := ?_) ?_ ?_ ?_ ?_ ?_
         rotate_left 5
         · simp only [ev]; rfl
         first
         | (· with_reducible exact Ty.ok58
            rotate_left 2
            refine hk_tag 58 ?_
            rotate_right 2)
         )
      | (refine xr_do (v := ?_) (h' := ?_) (by exact rfl) ?_ ?_; rotate_left 2)
      | (refine xr_st (v := ?_) (h' := ?_) (by exact rfl) ?_ ?_; rotate_left 2)
      | (refine aw_ift (by decide) ?_ ?_
         · simp only [ev, put_some, reduceIte, Nat.reduceEqDiff, *])
      | (refine aw_iff (by decide) ?_ ?_
         · simp only [ev, put_some, reduceIte, Nat.reduceEqDiff, *])
      | (refine aw_if (b := ?_) (by decide) ?_ (fun hb => ?_) (fun hb => ?_)
         rotate_left 1
         · simp only [ev, put_some, reduceIte, Nat.reduceEqDiff, *]; rfl)
      | (refine r_ret (vs := ?_) ?_ ?_
         rotate_left 1
         · simp only [resV, ev, put_some, reduceIte, Nat.reduceEqDiff, Option.map_some, *]; rfl)
      | (with_reducible refine l17ReadE _ _ ?_
         · first | omega | (simp only [List.length_nil]; omega)
         )
      | ((with_reducible refine HkTag.mk (n := 58) ?_); rintro _ _ ⟨rfl, hh⟩; replace hh := hh.symm; subst hh)
      )
    rw [hb] at hap
    have hcan := canon_fr [.int .i64 (p : Nat), .bool true] hap.fr (txs_af _) (by simp [af1])
    exact hcan
end Go.Proofs.YtkmenomglhddlaaDoor.Am

