/- Frames put into stores. Conditions: none. -/
import Derived.Test.YtkmenomglhddlaaDoorD9
namespace Go.Proofs.YtkmenomglhddlaaDoor.Am
open Go Go.Proofs Go.RowKit
set_option linter.unusedVariables false
set_option linter.unusedSimpArgs false
set_option maxRecDepth 100000
set_option maxHeartbeats 8000000

theorem l17FrameE (r : Nat) (s : ByteArray) (h : Heap) (hr : r ≤ 99) (hs : s.size ≤ 60) : ACalls Tryd.prog dE 49 #[.int .i64 (r : Nat), .string s] h fun v h' => v = .string (frameT r s) ∧ h' = h := upPE (l17Frame_ok r s h hr hs)
theorem frameT_size (r : Nat) (s : ByteArray) : (frameT r s).size = s.size + 8 := by
  rw [frameT, ByteArray.size_append, headT_size, S_size, digL_len]

/-- A call that leaves the memory as it was, in a region whose order is open. -/
theorem xe_pure {P : Program} {G : Glo} {Q : Exit → Tmps → Heap → Prop} {ops : Array Oper} {ms : List Nat} {D : List (List Nat)} {T : Tmps} {h : Heap} {rest : List Oper} {j : Nat} {al : List Bool} {fo : Operand} {f : FuncId} {fs cs args : Array Value} {xs : Array Operand} {ats : Array TypeId} {d ty : Nat} {pos : String} {aft : Array Edge} {v : Value} {ids : List Nat}
    (hv : ev T fo = .func (.func f) fs cs) (hc : callOk P f = true) (hargs : fs ++ xs.map (ev T) ++ cs = args) (ho : ordAll ms al j = true) (hids : deadOf D ms ops.size j = ids) (hD : D.getD j [] = [])
    (hca : ACalls P G f args (killL h ids) fun v' h' => v' = v ∧ h' = killL h ids) (hk : XE P G ops ms D Q rest (j + 1) (put T (some d) v) h (al ++ [false])) : XE P G ops ms D Q (⟨some d, .call ⟨.value fo, xs, ats⟩, ty, pos, aft, none⟩ :: rest) j T h al :=
  xe_cl (L := []) (a := false) hv hc hargs ho hids hD (fun _ => rfl) (by rw [List.append_nil]; exact hca) (by rw [List.append_nil]; exact hk)
theorem Store.set2 (s : Store) (x : ByteArray) : s.cells.set 2 (.string x) = (⟨s.room, s.sure, x⟩ : Store).cells := rfl
theorem cV_slice (len : Nat) : ∃ b : Nat → Option Addr, ∀ n, cV n len = .slice (b n) len len := by
  by_cases h : len = 0
  · exact ⟨fun _ => none, fun n => by unfold cV; rw [if_pos h, h]⟩
  · exact ⟨fun n => some ⟨n, 0, some 0⟩, fun n => by unfold cV; rw [if_neg h]⟩
/-- What is put, and how it ends. -/
def putC (s : Store) (t : ByteArray) : Int :=
  if 60 < t.size then 1 else if (rdF (s.sure ++ s.later) 99 0 []).2 < s.sure.size + s.later.size then 2
  else if (rdF (s.sure ++ s.later) 99 0 []).1.length = 99 then 3 else if s.room < ((rdF (s.sure ++ s.later) 99 0 []).2 : Int) + 8 + t.size then 4 else 0
def putS (s : Store) (t : ByteArray) : Store :=
  if 60 < t.size then s else if (rdF (s.sure ++ s.later) 99 0 []).2 < s.sure.size + s.later.size then s
  else if (rdF (s.sure ++ s.later) 99 0 []).1.length = 99 then s else if s.room < ((rdF (s.sure ++ s.later) 99 0 []).2 : Int) + 8 + t.size then s
  else ⟨s.room, s.sure, s.later ++ frameT ((rdF (s.sure ++ s.later) 99 0 []).1.length + 1) t⟩

theorem putFrame_ok (s : Store) (t : ByteArray) (h : Heap) (hk : storeOk s = true) (ht : t.size ≤ 1048576) : ACalls Tryd.prog dE 64 #[.agg s.cells.toArray, .string t] h fun v h' => v = .tuple #[.agg (putS s t).cells.toArray, .int .i64 (putC s t)] ∧ h' = h := by
  refine acalls_pure (.inr ⟨_, rfl, by simp [af, af1, Store.cells]⟩) ?_
  have hz := storeOk_sz hk
  have hadd : ∀ xo yo, binV Tryd.prog .add 9 xo yo (.string s.sure) (.string s.later) = some (.string (s.sure ++ s.later)) := fun xo yo => binV_str_add _ _ _ _ _ (by omega)
  have hus : (s.sure ++ s.later).size = s.sure.size + s.later.size := ByteArray.size_append
  have hrl := rdF_len (s.sure ++ s.later) 99 0 [] (Nat.zero_le _)
  have hroom : s.room ≤ 4000 := by
    simp only [storeOk, Bool.and_eq_true, decide_eq_true_eq] at hk
    omega
  simp only [putS, putC]
  generalize hR : rdF (s.sure ++ s.later) 99 0 [] = R at hrl ⊢
  obtain ⟨l, p⟩ := R
  simp only [List.length_nil, Nat.zero_add] at hrl ⊢
  obtain ⟨hl99, hp⟩ := hrl
  obtain ⟨b, hcv⟩ := cV_slice l.length
  rw [hus] at hp
  have hu4 : (s.sure ++ s.later).size ≤ 1048576 := by omega
  generalize s.sure ++ s.later = u at *
  have hw1 : IntKind.i64.wrap ((s.sure.size : Int) + s.later.size) = ((s.sure.size + s.later.size : Nat) : Int) := by rw [wrap_id (by omega)]; omega
  by_cases c1 : 60 < t.size
  · have c1' : (60 : Int) < (t.size : Int) := by omega
    simp only [if_pos c1]
    clear c1
    refine acalls_fn Tryd.func64 rfl Tryd.ntmps64 (by simp) (by dsimp only [Tryd.f64]) ?_
    repeat' (first
      | ((with_reducible refine eq_go ?_); simp only [stp, ev, put_some, put_none, argT_list, List.getD_cons_zero, List.getD_cons_succ, reduceIte, Nat.reduceEqDiff, Option.map_some, Array.map_empty, List.map_toArray, List.map_cons, List.map_nil, List.append_toArray, Array.append_empty, Array.empty_append, List.nil_append, List.append_nil, and_self, if_true, decide_true, decide_false, Int.toNat_natCast, Int.natCast_nonneg, List.length_map, binV_add, binV_sub, binV_and, binV_shr, binV_shl, binV_str_eql, binV_str_neq, binV_mul, binV_eql, binV_neq, binV_lss, binV_leq, binV_gtr, binV_geq, unV_not, Bool.not_true, Bool.not_false, Bool.cond_true, Bool.cond_false, List.getElem?_toArray, List.getElem?_cons_zero, List.getElem?_cons_succ, ldv, stv, vcs, fldA, blt, lenV, List.size_toArray, List.length_cons, List.length_nil, Nat.zero_add, Array.getD_eq_getD_getElem?, List.getElem?_toArray, List.getElem?_cons_zero, List.getElem?_cons_succ, Option.getD_some, Option.isSome_some, Nat.add_assoc, List.toList_toArray, eq_self, Option.bind_some, List.append_assoc, List.cons_append, List.length_append, List.length_cons, List.length_nil, Nat.zero_add, Nat.add_zero, Nat.reduceAdd, Nat.reduceMul, Nat.reduceLeDiff, mset_some, mset_none, set_at, set_at0, killL_nil, killL_cons, getC_succ2, getC_succ3, getC_succ4, getC_succ5, getC_succ6, loadCs_succ2, loadCs_succ3, loadCs_succ4, loadCs_succ5, loadCs_succ6, setCs_succ2, setCs_succ3, setCs_succ4, setCs_succ5, setCs_succ6, getC_at, getC_at0, getC_zero, getC_succ, loadCs_at, loadCs_at0, loadCs_zero, loadCs_succ, setCs_at, setCs_at0, setCs_zero, setCs_succ, splice, List.set_cons_succ, List.set_cons_zero, List.getElem?_cons_zero, List.getElem?_cons_succ, List.drop_zero, List.drop_succ_cons, List.take_succ_cons, List.take_zero, newB, vcs, flat_int, flat_bool, flat_string, flat_slice, flat_pointer, flat_func, flat_nilFunc, List.all_cons, List.all_nil, Bool.and_true, Bool.and_self, Ty.ld3, Ty.sz3, Ty.zc3, Ty.by3, Ty.ld9, Ty.sz9, Ty.st9, Ty.zc9, Ty.by9, Ty.ld40, Ty.sz40, Ty.sl40, Ty.zc40, Ty.by40, Ty.ld51, Ty.sz51, Ty.zc51, Ty.by51, Ty.fl51_0, Ty.fl51_1, Ty.fl51_2, Store.cells_length, Store.cells_flat, Store.cells_take, Store.cells_splice, Store.get0, Store.get1, Store.get2, Store.set2, frV, frL, *]; rfl)
      | (with_reducible refine aw_then ?_) | (with_reducible refine aw_skip ?_) | (with_reducible refine aw_ret ?_) | (with_reducible refine aw_exit ?_) | (with_reducible refine aw_block ?_) | (with_reducible refine xr_reg (by decide +kernel) ?_)
      | (with_reducible refine xr_nil ?_) | (with_reducible refine k_norm ?_) | (with_reducible refine k_ret ?_) | (with_reducible refine k_exit ?_) | (with_reducible refine b_norm ?_) | (with_reducible refine b_ret ?_) | (with_reducible refine b_exit ?_) | (with_reducible refine b_past (by decide) ?_)
      | (refine xr_cl (f := ?_) (fs := ?_) (cs := ?_) (args := ?_) (K := ?_) ?_ ?_ ?_ ?_ ?_
         rotate_left 5
         · simp only [ev]; rfl
         first
         | (· with_reducible exact Ty.ok51
            rotate_left 2
            refine hk_tag 51 ?_
            rotate_right 2)
         | (· with_reducible exact Ty.ok59
            rotate_left 2
            refine hk_tag 59 ?_
            rotate_right 2)
         )
      | (refine xr_do (v := ?_) (h' := ?_) (by exact rfl) ?_ ?_; rotate_left 2)
      | (refine xr_st (v := ?_) (h' := ?_) (by exact rfl) ?_ ?_; rotate_left 2)
      | (refine aw_ift (by decide) ?_ ?_
         · simp only [ev, put_some, reduceIte, Nat.reduceEqDiff, *])
      | (refine aw_iff (by decide) ?_ ?_
         · simp only [ev, put_some, reduceIte, Nat.reduceEqDiff, *])
      | (refine aw_if (b := ?_) (by decide) ?_ (fun hb => ?_) (fun hb => ?_)
         rotate_left 1
         · simp only [ev, put_some, reduceIte, Nat.reduceEqDiff, *]; rfl)
      | (refine r_ret (vs := ?_) ?_ ?_
         rotate_left 1
         · simp only [resV, oneOf, stp, ev, put_some, put_none, argT_list, List.getD_cons_zero, List.getD_cons_succ, reduceIte, Nat.reduceEqDiff, Option.map_some, Array.map_empty, List.map_toArray, List.map_cons, List.map_nil, List.append_toArray, Array.append_empty, Array.empty_append, List.nil_append, List.append_nil, and_self, if_true, decide_true, decide_false, Int.toNat_natCast, Int.natCast_nonneg, List.length_map, binV_add, binV_sub, binV_and, binV_shr, binV_shl, binV_str_eql, binV_str_neq, binV_mul, binV_eql, binV_neq, binV_lss, binV_leq, binV_gtr, binV_geq, unV_not, Bool.not_true, Bool.not_false, Bool.cond_true, Bool.cond_false, List.getElem?_toArray, List.getElem?_cons_zero, List.getElem?_cons_succ, ldv, stv, vcs, fldA, blt, lenV, List.size_toArray, List.length_cons, List.length_nil, Nat.zero_add, Array.getD_eq_getD_getElem?, List.getElem?_toArray, List.getElem?_cons_zero, List.getElem?_cons_succ, Option.getD_some, Option.isSome_some, Nat.add_assoc, List.toList_toArray, eq_self, Option.bind_some, List.append_assoc, List.cons_append, List.length_append, List.length_cons, List.length_nil, Nat.zero_add, Nat.add_zero, Nat.reduceAdd, Nat.reduceMul, Nat.reduceLeDiff, mset_some, mset_none, set_at, set_at0, killL_nil, killL_cons, getC_succ2, getC_succ3, getC_succ4, getC_succ5, getC_succ6, loadCs_succ2, loadCs_succ3, loadCs_succ4, loadCs_succ5, loadCs_succ6, setCs_succ2, setCs_succ3, setCs_succ4, setCs_succ5, setCs_succ6, getC_at, getC_at0, getC_zero, getC_succ, loadCs_at, loadCs_at0, loadCs_zero, loadCs_succ, setCs_at, setCs_at0, setCs_zero, setCs_succ, splice, List.set_cons_succ, List.set_cons_zero, List.getElem?_cons_zero, List.getElem?_cons_succ, List.drop_zero, List.drop_succ_cons, List.take_succ_cons, List.take_zero, newB, vcs, flat_int, flat_bool, flat_string, flat_slice, flat_pointer, flat_func, flat_nilFunc, List.all_cons, List.all_nil, Bool.and_true, Bool.and_self, Ty.ld3, Ty.sz3, Ty.zc3, Ty.by3, Ty.ld9, Ty.sz9, Ty.st9, Ty.zc9, Ty.by9, Ty.ld40, Ty.sz40, Ty.sl40, Ty.zc40, Ty.by40, Ty.ld51, Ty.sz51, Ty.zc51, Ty.by51, Ty.fl51_0, Ty.fl51_1, Ty.fl51_2, Store.cells_length, Store.cells_flat, Store.cells_take, Store.cells_splice, Store.get0, Store.get1, Store.get2, Store.set2, frV, frL, *]; rfl)
      | (with_reducible refine frameOfE _ _ _ ?_ ?_
         · first | omega | (simp only [List.length_nil]; omega)
         · first | omega | (simp only [List.length_nil]; omega)
         )
      | (with_reducible refine readFrames_ok _ _ ?_
         · first | omega | (simp only [List.length_nil]; omega)
         )
      | ((with_reducible refine HkTag.mk (n := 51) ?_); rintro _ _ ⟨rfl, hh⟩; replace hh := hh.symm; subst hh)
      | ((with_reducible refine HkTag.mk (n := 59) ?_); rintro _ _ ⟨rfl, hh⟩; replace hh := hh.symm; subst hh)
      )
    exact ⟨rfl, _, rfl⟩
  have c1' : ¬ (60 : Int) < (t.size : Int) := by omega
  have ht60 : t.size ≤ 60 := by omega
  simp only [if_neg c1]
  clear c1
  by_cases c2 : p < s.sure.size + s.later.size
  · have c2' : (p : Int) < ((s.sure.size + s.later.size : Nat) : Int) := by omega
    simp only [if_pos c2]
    clear c2
    refine acalls_fn Tryd.func64 rfl Tryd.ntmps64 (by simp) (by dsimp only [Tryd.f64]) ?_
    repeat' (first
      | ((with_reducible refine eq_go ?_); simp only [stp, ev, put_some, put_none, argT_list, List.getD_cons_zero, List.getD_cons_succ, reduceIte, Nat.reduceEqDiff, Option.map_some, Array.map_empty, List.map_toArray, List.map_cons, List.map_nil, List.append_toArray, Array.append_empty, Array.empty_append, List.nil_append, List.append_nil, and_self, if_true, decide_true, decide_false, Int.toNat_natCast, Int.natCast_nonneg, List.length_map, binV_add, binV_sub, binV_and, binV_shr, binV_shl, binV_str_eql, binV_str_neq, binV_mul, binV_eql, binV_neq, binV_lss, binV_leq, binV_gtr, binV_geq, unV_not, Bool.not_true, Bool.not_false, Bool.cond_true, Bool.cond_false, List.getElem?_toArray, List.getElem?_cons_zero, List.getElem?_cons_succ, ldv, stv, vcs, fldA, blt, lenV, List.size_toArray, List.length_cons, List.length_nil, Nat.zero_add, Array.getD_eq_getD_getElem?, List.getElem?_toArray, List.getElem?_cons_zero, List.getElem?_cons_succ, Option.getD_some, Option.isSome_some, Nat.add_assoc, List.toList_toArray, eq_self, Option.bind_some, List.append_assoc, List.cons_append, List.length_append, List.length_cons, List.length_nil, Nat.zero_add, Nat.add_zero, Nat.reduceAdd, Nat.reduceMul, Nat.reduceLeDiff, mset_some, mset_none, set_at, set_at0, killL_nil, killL_cons, getC_succ2, getC_succ3, getC_succ4, getC_succ5, getC_succ6, loadCs_succ2, loadCs_succ3, loadCs_succ4, loadCs_succ5, loadCs_succ6, setCs_succ2, setCs_succ3, setCs_succ4, setCs_succ5, setCs_succ6, getC_at, getC_at0, getC_zero, getC_succ, loadCs_at, loadCs_at0, loadCs_zero, loadCs_succ, setCs_at, setCs_at0, setCs_zero, setCs_succ, splice, List.set_cons_succ, List.set_cons_zero, List.getElem?_cons_zero, List.getElem?_cons_succ, List.drop_zero, List.drop_succ_cons, List.take_succ_cons, List.take_zero, newB, vcs, flat_int, flat_bool, flat_string, flat_slice, flat_pointer, flat_func, flat_nilFunc, List.all_cons, List.all_nil, Bool.and_true, Bool.and_self, Ty.ld3, Ty.sz3, Ty.zc3, Ty.by3, Ty.ld9, Ty.sz9, Ty.st9, Ty.zc9, Ty.by9, Ty.ld40, Ty.sz40, Ty.sl40, Ty.zc40, Ty.by40, Ty.ld51, Ty.sz51, Ty.zc51, Ty.by51, Ty.fl51_0, Ty.fl51_1, Ty.fl51_2, Store.cells_length, Store.cells_flat, Store.cells_take, Store.cells_splice, Store.get0, Store.get1, Store.get2, Store.set2, frV, frL, *]; rfl)
      | (with_reducible refine aw_then ?_) | (with_reducible refine aw_skip ?_) | (with_reducible refine aw_ret ?_) | (with_reducible refine aw_exit ?_) | (with_reducible refine aw_block ?_) | (with_reducible refine xr_reg (by decide +kernel) ?_)
      | (with_reducible refine xr_nil ?_) | (with_reducible refine k_norm ?_) | (with_reducible refine k_ret ?_) | (with_reducible refine k_exit ?_) | (with_reducible refine b_norm ?_) | (with_reducible refine b_ret ?_) | (with_reducible refine b_exit ?_) | (with_reducible refine b_past (by decide) ?_)
      | (refine xr_cl (f := ?_) (fs := ?_) (cs := ?_) (args := ?_) (K := ?_) ?_ ?_ ?_ ?_ ?_
         rotate_left 5
         · simp only [ev]; rfl
         first
         | (· with_reducible exact Ty.ok51
            rotate_left 2
            refine hk_tag 51 ?_
            rotate_right 2)
         | (· with_reducible exact Ty.ok59
            rotate_left 2
            refine hk_tag 59 ?_
            rotate_right 2)
         )
      | (refine xr_do (v := ?_) (h' := ?_) (by exact rfl) ?_ ?_; rotate_left 2)
      | (refine xr_st (v := ?_) (h' := ?_) (by exact rfl) ?_ ?_; rotate_left 2)
      | (refine aw_ift (by decide) ?_ ?_
         · simp only [ev, put_some, reduceIte, Nat.reduceEqDiff, *])
      | (refine aw_iff (by decide) ?_ ?_
         · simp only [ev, put_some, reduceIte, Nat.reduceEqDiff, *])
      | (refine aw_if (b := ?_) (by decide) ?_ (fun hb => ?_) (fun hb => ?_)
         rotate_left 1
         · simp only [ev, put_some, reduceIte, Nat.reduceEqDiff, *]; rfl)
      | (refine r_ret (vs := ?_) ?_ ?_
         rotate_left 1
         · simp only [resV, oneOf, stp, ev, put_some, put_none, argT_list, List.getD_cons_zero, List.getD_cons_succ, reduceIte, Nat.reduceEqDiff, Option.map_some, Array.map_empty, List.map_toArray, List.map_cons, List.map_nil, List.append_toArray, Array.append_empty, Array.empty_append, List.nil_append, List.append_nil, and_self, if_true, decide_true, decide_false, Int.toNat_natCast, Int.natCast_nonneg, List.length_map, binV_add, binV_sub, binV_and, binV_shr, binV_shl, binV_str_eql, binV_str_neq, binV_mul, binV_eql, binV_neq, binV_lss, binV_leq, binV_gtr, binV_geq, unV_not, Bool.not_true, Bool.not_false, Bool.cond_true, Bool.cond_false, List.getElem?_toArray, List.getElem?_cons_zero, List.getElem?_cons_succ, ldv, stv, vcs, fldA, blt, lenV, List.size_toArray, List.length_cons, List.length_nil, Nat.zero_add, Array.getD_eq_getD_getElem?, List.getElem?_toArray, List.getElem?_cons_zero, List.getElem?_cons_succ, Option.getD_some, Option.isSome_some, Nat.add_assoc, List.toList_toArray, eq_self, Option.bind_some, List.append_assoc, List.cons_append, List.length_append, List.length_cons, List.length_nil, Nat.zero_add, Nat.add_zero, Nat.reduceAdd, Nat.reduceMul, Nat.reduceLeDiff, mset_some, mset_none, set_at, set_at0, killL_nil, killL_cons, getC_succ2, getC_succ3, getC_succ4, getC_succ5, getC_succ6, loadCs_succ2, loadCs_succ3, loadCs_succ4, loadCs_succ5, loadCs_succ6, setCs_succ2, setCs_succ3, setCs_succ4, setCs_succ5, setCs_succ6, getC_at, getC_at0, getC_zero, getC_succ, loadCs_at, loadCs_at0, loadCs_zero, loadCs_succ, setCs_at, setCs_at0, setCs_zero, setCs_succ, splice, List.set_cons_succ, List.set_cons_zero, List.getElem?_cons_zero, List.getElem?_cons_succ, List.drop_zero, List.drop_succ_cons, List.take_succ_cons, List.take_zero, newB, vcs, flat_int, flat_bool, flat_string, flat_slice, flat_pointer, flat_func, flat_nilFunc, List.all_cons, List.all_nil, Bool.and_true, Bool.and_self, Ty.ld3, Ty.sz3, Ty.zc3, Ty.by3, Ty.ld9, Ty.sz9, Ty.st9, Ty.zc9, Ty.by9, Ty.ld40, Ty.sz40, Ty.sl40, Ty.zc40, Ty.by40, Ty.ld51, Ty.sz51, Ty.zc51, Ty.by51, Ty.fl51_0, Ty.fl51_1, Ty.fl51_2, Store.cells_length, Store.cells_flat, Store.cells_take, Store.cells_splice, Store.get0, Store.get1, Store.get2, Store.set2, frV, frL, *]; rfl)
      | (with_reducible refine frameOfE _ _ _ ?_ ?_
         · first | omega | (simp only [List.length_nil]; omega)
         · first | omega | (simp only [List.length_nil]; omega)
         )
      | (with_reducible refine readFrames_ok _ _ ?_
         · first | omega | (simp only [List.length_nil]; omega)
         )
      | ((with_reducible refine HkTag.mk (n := 51) ?_); rintro _ _ ⟨rfl, hh⟩; replace hh := hh.symm; subst hh)
      | ((with_reducible refine HkTag.mk (n := 59) ?_); rintro _ _ ⟨rfl, hh⟩; replace hh := hh.symm; subst hh)
      )
    exact ⟨rfl, _, rfl⟩
  have c2' : ¬ (p : Int) < ((s.sure.size + s.later.size : Nat) : Int) := by omega
  simp only [if_neg c2]
  clear c2
  by_cases c3 : l.length = 99
  · have c3'' : (99 : Int) ≤ (l.length : Int) := by omega
    simp only [if_pos c3]
    clear c3
    refine acalls_fn Tryd.func64 rfl Tryd.ntmps64 (by simp) (by dsimp only [Tryd.f64]) ?_
    repeat' (first
      | ((with_reducible refine eq_go ?_); simp only [stp, ev, put_some, put_none, argT_list, List.getD_cons_zero, List.getD_cons_succ, reduceIte, Nat.reduceEqDiff, Option.map_some, Array.map_empty, List.map_toArray, List.map_cons, List.map_nil, List.append_toArray, Array.append_empty, Array.empty_append, List.nil_append, List.append_nil, and_self, if_true, decide_true, decide_false, Int.toNat_natCast, Int.natCast_nonneg, List.length_map, binV_add, binV_sub, binV_and, binV_shr, binV_shl, binV_str_eql, binV_str_neq, binV_mul, binV_eql, binV_neq, binV_lss, binV_leq, binV_gtr, binV_geq, unV_not, Bool.not_true, Bool.not_false, Bool.cond_true, Bool.cond_false, List.getElem?_toArray, List.getElem?_cons_zero, List.getElem?_cons_succ, ldv, stv, vcs, fldA, blt, lenV, List.size_toArray, List.length_cons, List.length_nil, Nat.zero_add, Array.getD_eq_getD_getElem?, List.getElem?_toArray, List.getElem?_cons_zero, List.getElem?_cons_succ, Option.getD_some, Option.isSome_some, Nat.add_assoc, List.toList_toArray, eq_self, Option.bind_some, List.append_assoc, List.cons_append, List.length_append, List.length_cons, List.length_nil, Nat.zero_add, Nat.add_zero, Nat.reduceAdd, Nat.reduceMul, Nat.reduceLeDiff, mset_some, mset_none, set_at, set_at0, killL_nil, killL_cons, getC_succ2, getC_succ3, getC_succ4, getC_succ5, getC_succ6, loadCs_succ2, loadCs_succ3, loadCs_succ4, loadCs_succ5, loadCs_succ6, setCs_succ2, setCs_succ3, setCs_succ4, setCs_succ5, setCs_succ6, getC_at, getC_at0, getC_zero, getC_succ, loadCs_at, loadCs_at0, loadCs_zero, loadCs_succ, setCs_at, setCs_at0, setCs_zero, setCs_succ, splice, List.set_cons_succ, List.set_cons_zero, List.getElem?_cons_zero, List.getElem?_cons_succ, List.drop_zero, List.drop_succ_cons, List.take_succ_cons, List.take_zero, newB, vcs, flat_int, flat_bool, flat_string, flat_slice, flat_pointer, flat_func, flat_nilFunc, List.all_cons, List.all_nil, Bool.and_true, Bool.and_self, Ty.ld3, Ty.sz3, Ty.zc3, Ty.by3, Ty.ld9, Ty.sz9, Ty.st9, Ty.zc9, Ty.by9, Ty.ld40, Ty.sz40, Ty.sl40, Ty.zc40, Ty.by40, Ty.ld51, Ty.sz51, Ty.zc51, Ty.by51, Ty.fl51_0, Ty.fl51_1, Ty.fl51_2, Store.cells_length, Store.cells_flat, Store.cells_take, Store.cells_splice, Store.get0, Store.get1, Store.get2, Store.set2, frV, frL, *]; rfl)
      | (with_reducible refine aw_then ?_) | (with_reducible refine aw_skip ?_) | (with_reducible refine aw_ret ?_) | (with_reducible refine aw_exit ?_) | (with_reducible refine aw_block ?_) | (with_reducible refine xr_reg (by decide +kernel) ?_)
      | (with_reducible refine xr_nil ?_) | (with_reducible refine k_norm ?_) | (with_reducible refine k_ret ?_) | (with_reducible refine k_exit ?_) | (with_reducible refine b_norm ?_) | (with_reducible refine b_ret ?_) | (with_reducible refine b_exit ?_) | (with_reducible refine b_past (by decide) ?_)
      | (refine xr_cl (f := ?_) (fs := ?_) (cs := ?_) (args := ?_) (K := ?_) ?_ ?_ ?_ ?_ ?_
         rotate_left 5
         · simp only [ev]; rfl
         first
         | (· with_reducible exact Ty.ok51
            rotate_left 2
            refine hk_tag 51 ?_
            rotate_right 2)
         | (· with_reducible exact Ty.ok59
            rotate_left 2
            refine hk_tag 59 ?_
            rotate_right 2)
         )
      | (refine xr_do (v := ?_) (h' := ?_) (by exact rfl) ?_ ?_; rotate_left 2)
      | (refine xr_st (v := ?_) (h' := ?_) (by exact rfl) ?_ ?_; rotate_left 2)
      | (refine aw_ift (by decide) ?_ ?_
         · simp only [ev, put_some, reduceIte, Nat.reduceEqDiff, *])
      | (refine aw_iff (by decide) ?_ ?_
         · simp only [ev, put_some, reduceIte, Nat.reduceEqDiff, *])
      | (refine aw_if (b := ?_) (by decide) ?_ (fun hb => ?_) (fun hb => ?_)
         rotate_left 1
         · simp only [ev, put_some, reduceIte, Nat.reduceEqDiff, *]; rfl)
      | (refine r_ret (vs := ?_) ?_ ?_
         rotate_left 1
         · simp only [resV, oneOf, stp, ev, put_some, put_none, argT_list, List.getD_cons_zero, List.getD_cons_succ, reduceIte, Nat.reduceEqDiff, Option.map_some, Array.map_empty, List.map_toArray, List.map_cons, List.map_nil, List.append_toArray, Array.append_empty, Array.empty_append, List.nil_append, List.append_nil, and_self, if_true, decide_true, decide_false, Int.toNat_natCast, Int.natCast_nonneg, List.length_map, binV_add, binV_sub, binV_and, binV_shr, binV_shl, binV_str_eql, binV_str_neq, binV_mul, binV_eql, binV_neq, binV_lss, binV_leq, binV_gtr, binV_geq, unV_not, Bool.not_true, Bool.not_false, Bool.cond_true, Bool.cond_false, List.getElem?_toArray, List.getElem?_cons_zero, List.getElem?_cons_succ, ldv, stv, vcs, fldA, blt, lenV, List.size_toArray, List.length_cons, List.length_nil, Nat.zero_add, Array.getD_eq_getD_getElem?, List.getElem?_toArray, List.getElem?_cons_zero, List.getElem?_cons_succ, Option.getD_some, Option.isSome_some, Nat.add_assoc, List.toList_toArray, eq_self, Option.bind_some, List.append_assoc, List.cons_append, List.length_append, List.length_cons, List.length_nil, Nat.zero_add, Nat.add_zero, Nat.reduceAdd, Nat.reduceMul, Nat.reduceLeDiff, mset_some, mset_none, set_at, set_at0, killL_nil, killL_cons, getC_succ2, getC_succ3, getC_succ4, getC_succ5, getC_succ6, loadCs_succ2, loadCs_succ3, loadCs_succ4, loadCs_succ5, loadCs_succ6, setCs_succ2, setCs_succ3, setCs_succ4, setCs_succ5, setCs_succ6, getC_at, getC_at0, getC_zero, getC_succ, loadCs_at, loadCs_at0, loadCs_zero, loadCs_succ, setCs_at, setCs_at0, setCs_zero, setCs_succ, splice, List.set_cons_succ, List.set_cons_zero, List.getElem?_cons_zero, List.getElem?_cons_succ, List.drop_zero, List.drop_succ_cons, List.take_succ_cons, List.take_zero, newB, vcs, flat_int, flat_bool, flat_string, flat_slice, flat_pointer, flat_func, flat_nilFunc, List.all_cons, List.all_nil, Bool.and_true, Bool.and_self, Ty.ld3, Ty.sz3, Ty.zc3, Ty.by3, Ty.ld9, Ty.sz9, Ty.st9, Ty.zc9, Ty.by9, Ty.ld40, Ty.sz40, Ty.sl40, Ty.zc40, Ty.by40, Ty.ld51, Ty.sz51, Ty.zc51, Ty.by51, Ty.fl51_0, Ty.fl51_1, Ty.fl51_2, Store.cells_length, Store.cells_flat, Store.cells_take, Store.cells_splice, Store.get0, Store.get1, Store.get2, Store.set2, frV, frL, *]; rfl)
      | (with_reducible refine frameOfE _ _ _ ?_ ?_
         · first | omega | (simp only [List.length_nil]; omega)
         · first | omega | (simp only [List.length_nil]; omega)
         )
      | (with_reducible refine readFrames_ok _ _ ?_
         · first | omega | (simp only [List.length_nil]; omega)
         )
      | ((with_reducible refine HkTag.mk (n := 51) ?_); rintro _ _ ⟨rfl, hh⟩; replace hh := hh.symm; subst hh)
      | ((with_reducible refine HkTag.mk (n := 59) ?_); rintro _ _ ⟨rfl, hh⟩; replace hh := hh.symm; subst hh)
      )
    exact ⟨rfl, _, rfl⟩
  have c3' : ¬ (l.length : Int) = 99 := by omega
  have c3'' : ¬ (99 : Int) ≤ (l.length : Int) := by omega
  have hl98 : l.length + 1 ≤ 99 := by omega
  simp only [if_neg c3]
  clear c3
  have hw2 : IntKind.i64.wrap ((l.length : Int) + 1) = ((l.length + 1 : Nat) : Int) := by rw [wrap_id (by omega)]; omega
  have hfs := frameT_size (l.length + 1) t
  have hadd2 : ∀ xo yo, binV Tryd.prog .add 9 xo yo (.string s.later) (.string (frameT (l.length + 1) t)) = some (.string (s.later ++ frameT (l.length + 1) t)) := fun xo yo => binV_str_add _ _ _ _ _ (by omega)
  have hw3 : IntKind.i64.wrap ((p : Int) + ((t.size + 8 : Nat) : Int)) = ((p + (t.size + 8) : Nat) : Int) := by rw [wrap_id (by omega)]; omega
  by_cases c4 : s.room < (p : Int) + 8 + t.size
  · have c4' : s.room < ((p + (t.size + 8) : Nat) : Int) := by omega
    simp only [if_pos c4]
    clear c4
    refine acalls_fn Tryd.func64 rfl Tryd.ntmps64 (by simp) (by dsimp only [Tryd.f64]) ?_
    repeat' (first
      | ((with_reducible refine eq_go ?_); simp only [stp, ev, put_some, put_none, argT_list, List.getD_cons_zero, List.getD_cons_succ, reduceIte, Nat.reduceEqDiff, Option.map_some, Array.map_empty, List.map_toArray, List.map_cons, List.map_nil, List.append_toArray, Array.append_empty, Array.empty_append, List.nil_append, List.append_nil, and_self, if_true, decide_true, decide_false, Int.toNat_natCast, Int.natCast_nonneg, List.length_map, binV_add, binV_sub, binV_and, binV_shr, binV_shl, binV_str_eql, binV_str_neq, binV_mul, binV_eql, binV_neq, binV_lss, binV_leq, binV_gtr, binV_geq, unV_not, Bool.not_true, Bool.not_false, Bool.cond_true, Bool.cond_false, List.getElem?_toArray, List.getElem?_cons_zero, List.getElem?_cons_succ, ldv, stv, vcs, fldA, blt, lenV, List.size_toArray, List.length_cons, List.length_nil, Nat.zero_add, Array.getD_eq_getD_getElem?, List.getElem?_toArray, List.getElem?_cons_zero, List.getElem?_cons_succ, Option.getD_some, Option.isSome_some, Nat.add_assoc, List.toList_toArray, eq_self, Option.bind_some, List.append_assoc, List.cons_append, List.length_append, List.length_cons, List.length_nil, Nat.zero_add, Nat.add_zero, Nat.reduceAdd, Nat.reduceMul, Nat.reduceLeDiff, mset_some, mset_none, set_at, set_at0, killL_nil, killL_cons, getC_succ2, getC_succ3, getC_succ4, getC_succ5, getC_succ6, loadCs_succ2, loadCs_succ3, loadCs_succ4, loadCs_succ5, loadCs_succ6, setCs_succ2, setCs_succ3, setCs_succ4, setCs_succ5, setCs_succ6, getC_at, getC_at0, getC_zero, getC_succ, loadCs_at, loadCs_at0, loadCs_zero, loadCs_succ, setCs_at, setCs_at0, setCs_zero, setCs_succ, splice, List.set_cons_succ, List.set_cons_zero, List.getElem?_cons_zero, List.getElem?_cons_succ, List.drop_zero, List.drop_succ_cons, List.take_succ_cons, List.take_zero, newB, vcs, flat_int, flat_bool, flat_string, flat_slice, flat_pointer, flat_func, flat_nilFunc, List.all_cons, List.all_nil, Bool.and_true, Bool.and_self, Ty.ld3, Ty.sz3, Ty.zc3, Ty.by3, Ty.ld9, Ty.sz9, Ty.st9, Ty.zc9, Ty.by9, Ty.ld40, Ty.sz40, Ty.sl40, Ty.zc40, Ty.by40, Ty.ld51, Ty.sz51, Ty.zc51, Ty.by51, Ty.fl51_0, Ty.fl51_1, Ty.fl51_2, Store.cells_length, Store.cells_flat, Store.cells_take, Store.cells_splice, Store.get0, Store.get1, Store.get2, Store.set2, frV, frL, *]; rfl)
      | (with_reducible refine aw_then ?_) | (with_reducible refine aw_skip ?_) | (with_reducible refine aw_ret ?_) | (with_reducible refine aw_exit ?_) | (with_reducible refine aw_block ?_) | (with_reducible refine xr_reg (by decide +kernel) ?_)
      | (with_reducible refine xr_nil ?_) | (with_reducible refine k_norm ?_) | (with_reducible refine k_ret ?_) | (with_reducible refine k_exit ?_) | (with_reducible refine b_norm ?_) | (with_reducible refine b_ret ?_) | (with_reducible refine b_exit ?_) | (with_reducible refine b_past (by decide) ?_)
      | (refine xr_cl (f := ?_) (fs := ?_) (cs := ?_) (args := ?_) (K := ?_) ?_ ?_ ?_ ?_ ?_
         rotate_left 5
         · simp only [ev]; rfl
         first
         | (· with_reducible exact Ty.ok51
            rotate_left 2
            refine hk_tag 51 ?_
            rotate_right 2)
         | (· with_reducible exact Ty.ok59
            rotate_left 2
            refine hk_tag 59 ?_
            rotate_right 2)
         )
      | (refine xr_do (v := ?_) (h' := ?_) (by exact rfl) ?_ ?_; rotate_left 2)
      | (refine xr_st (v := ?_) (h' := ?_) (by exact rfl) ?_ ?_; rotate_left 2)
      | (refine aw_ift (by decide) ?_ ?_
         · simp only [ev, put_some, reduceIte, Nat.reduceEqDiff, *])
      | (refine aw_iff (by decide) ?_ ?_
         · simp only [ev, put_some, reduceIte, Nat.reduceEqDiff, *])
      | (refine aw_if (b := ?_) (by decide) ?_ (fun hb => ?_) (fun hb => ?_)
         rotate_left 1
         · simp only [ev, put_some, reduceIte, Nat.reduceEqDiff, *]; rfl)
      | (refine r_ret (vs := ?_) ?_ ?_
         rotate_left 1
         · simp only [resV, oneOf, stp, ev, put_some, put_none, argT_list, List.getD_cons_zero, List.getD_cons_succ, reduceIte, Nat.reduceEqDiff, Option.map_some, Array.map_empty, List.map_toArray, List.map_cons, List.map_nil, List.append_toArray, Array.append_empty, Array.empty_append, List.nil_append, List.append_nil, and_self, if_true, decide_true, decide_false, Int.toNat_natCast, Int.natCast_nonneg, List.length_map, binV_add, binV_sub, binV_and, binV_shr, binV_shl, binV_str_eql, binV_str_neq, binV_mul, binV_eql, binV_neq, binV_lss, binV_leq, binV_gtr, binV_geq, unV_not, Bool.not_true, Bool.not_false, Bool.cond_true, Bool.cond_false, List.getElem?_toArray, List.getElem?_cons_zero, List.getElem?_cons_succ, ldv, stv, vcs, fldA, blt, lenV, List.size_toArray, List.length_cons, List.length_nil, Nat.zero_add, Array.getD_eq_getD_getElem?, List.getElem?_toArray, List.getElem?_cons_zero, List.getElem?_cons_succ, Option.getD_some, Option.isSome_some, Nat.add_assoc, List.toList_toArray, eq_self, Option.bind_some, List.append_assoc, List.cons_append, List.length_append, List.length_cons, List.length_nil, Nat.zero_add, Nat.add_zero, Nat.reduceAdd, Nat.reduceMul, Nat.reduceLeDiff, mset_some, mset_none, set_at, set_at0, killL_nil, killL_cons, getC_succ2, getC_succ3, getC_succ4, getC_succ5, getC_succ6, loadCs_succ2, loadCs_succ3, loadCs_succ4, loadCs_succ5, loadCs_succ6, setCs_succ2, setCs_succ3, setCs_succ4, setCs_succ5, setCs_succ6, getC_at, getC_at0, getC_zero, getC_succ, loadCs_at, loadCs_at0, loadCs_zero, loadCs_succ, setCs_at, setCs_at0, setCs_zero, setCs_succ, splice, List.set_cons_succ, List.set_cons_zero, List.getElem?_cons_zero, List.getElem?_cons_succ, List.drop_zero, List.drop_succ_cons, List.take_succ_cons, List.take_zero, newB, vcs, flat_int, flat_bool, flat_string, flat_slice, flat_pointer, flat_func, flat_nilFunc, List.all_cons, List.all_nil, Bool.and_true, Bool.and_self, Ty.ld3, Ty.sz3, Ty.zc3, Ty.by3, Ty.ld9, Ty.sz9, Ty.st9, Ty.zc9, Ty.by9, Ty.ld40, Ty.sz40, Ty.sl40, Ty.zc40, Ty.by40, Ty.ld51, Ty.sz51, Ty.zc51, Ty.by51, Ty.fl51_0, Ty.fl51_1, Ty.fl51_2, Store.cells_length, Store.cells_flat, Store.cells_take, Store.cells_splice, Store.get0, Store.get1, Store.get2, Store.set2, frV, frL, *]; rfl)
      | (with_reducible refine frameOfE _ _ _ ?_ ?_
         · first | omega | (simp only [List.length_nil]; omega)
         · first | omega | (simp only [List.length_nil]; omega)
         )
      | (with_reducible refine readFrames_ok _ _ ?_
         · first | omega | (simp only [List.length_nil]; omega)
         )
      | ((with_reducible refine HkTag.mk (n := 51) ?_); rintro _ _ ⟨rfl, hh⟩; replace hh := hh.symm; subst hh)
      | ((with_reducible refine HkTag.mk (n := 59) ?_); rintro _ _ ⟨rfl, hh⟩; replace hh := hh.symm; subst hh)
      )
    all_goals first | exact ⟨rfl, _, rfl⟩ | trace_state
    all_goals sorry
  · have c4' : ¬ s.room < ((p + (t.size + 8) : Nat) : Int) := by omega
    simp only [if_neg c4]
    clear c4
    refine acalls_fn Tryd.func64 rfl Tryd.ntmps64 (by simp) (by dsimp only [Tryd.f64]) ?_
    repeat' (first
      | ((with_reducible refine eq_go ?_); simp only [stp, ev, put_some, put_none, argT_list, List.getD_cons_zero, List.getD_cons_succ, reduceIte, Nat.reduceEqDiff, Option.map_some, Array.map_empty, List.map_toArray, List.map_cons, List.map_nil, List.append_toArray, Array.append_empty, Array.empty_append, List.nil_append, List.append_nil, and_self, if_true, decide_true, decide_false, Int.toNat_natCast, Int.natCast_nonneg, List.length_map, binV_add, binV_sub, binV_and, binV_shr, binV_shl, binV_str_eql, binV_str_neq, binV_mul, binV_eql, binV_neq, binV_lss, binV_leq, binV_gtr, binV_geq, unV_not, Bool.not_true, Bool.not_false, Bool.cond_true, Bool.cond_false, List.getElem?_toArray, List.getElem?_cons_zero, List.getElem?_cons_succ, ldv, stv, vcs, fldA, blt, lenV, List.size_toArray, List.length_cons, List.length_nil, Nat.zero_add, Array.getD_eq_getD_getElem?, List.getElem?_toArray, List.getElem?_cons_zero, List.getElem?_cons_succ, Option.getD_some, Option.isSome_some, Nat.add_assoc, List.toList_toArray, eq_self, Option.bind_some, List.append_assoc, List.cons_append, List.length_append, List.length_cons, List.length_nil, Nat.zero_add, Nat.add_zero, Nat.reduceAdd, Nat.reduceMul, Nat.reduceLeDiff, mset_some, mset_none, set_at, set_at0, killL_nil, killL_cons, getC_succ2, getC_succ3, getC_succ4, getC_succ5, getC_succ6, loadCs_succ2, loadCs_succ3, loadCs_succ4, loadCs_succ5, loadCs_succ6, setCs_succ2, setCs_succ3, setCs_succ4, setCs_succ5, setCs_succ6, getC_at, getC_at0, getC_zero, getC_succ, loadCs_at, loadCs_at0, loadCs_zero, loadCs_succ, setCs_at, setCs_at0, setCs_zero, setCs_succ, splice, List.set_cons_succ, List.set_cons_zero, List.getElem?_cons_zero, List.getElem?_cons_succ, List.drop_zero, List.drop_succ_cons, List.take_succ_cons, List.take_zero, newB, vcs, flat_int, flat_bool, flat_string, flat_slice, flat_pointer, flat_func, flat_nilFunc, List.all_cons, List.all_nil, Bool.and_true, Bool.and_self, Ty.ld3, Ty.sz3, Ty.zc3, Ty.by3, Ty.ld9, Ty.sz9, Ty.st9, Ty.zc9, Ty.by9, Ty.ld40, Ty.sz40, Ty.sl40, Ty.zc40, Ty.by40, Ty.ld51, Ty.sz51, Ty.zc51, Ty.by51, Ty.fl51_0, Ty.fl51_1, Ty.fl51_2, Store.cells_length, Store.cells_flat, Store.cells_take, Store.cells_splice, Store.get0, Store.get1, Store.get2, Store.set2, frV, frL, *]; rfl)
      | (with_reducible refine aw_then ?_) | (with_reducible refine aw_skip ?_) | (with_reducible refine aw_ret ?_) | (with_reducible refine aw_exit ?_) | (with_reducible refine aw_block ?_) | (with_reducible refine xr_reg (by decide +kernel) ?_)
      | (with_reducible refine xr_nil ?_) | (with_reducible refine k_norm ?_) | (with_reducible refine k_ret ?_) | (with_reducible refine k_exit ?_) | (with_reducible refine b_norm ?_) | (with_reducible refine b_ret ?_) | (with_reducible refine b_exit ?_) | (with_reducible refine b_past (by decide) ?_)
      | (refine xr_cl (f := ?_) (fs := ?_) (cs := ?_) (args := ?_) (K := ?_) ?_ ?_ ?_ ?_ ?_
         rotate_left 5
         · simp only [ev]; rfl
         first
         | (· with_reducible exact Ty.ok51
            rotate_left 2
            refine hk_tag 51 ?_
            rotate_right 2)
         | (· with_reducible exact Ty.ok59
            rotate_left 2
            refine hk_tag 59 ?_
            rotate_right 2)
         )
      | (refine xr_do (v := ?_) (h' := ?_) (by exact rfl) ?_ ?_; rotate_left 2)
      | (refine xr_st (v := ?_) (h' := ?_) (by exact rfl) ?_ ?_; rotate_left 2)
      | (refine aw_ift (by decide) ?_ ?_
         · simp only [ev, put_some, reduceIte, Nat.reduceEqDiff, *])
      | (refine aw_iff (by decide) ?_ ?_
         · simp only [ev, put_some, reduceIte, Nat.reduceEqDiff, *])
      | (refine aw_if (b := ?_) (by decide) ?_ (fun hb => ?_) (fun hb => ?_)
         rotate_left 1
         · simp only [ev, put_some, reduceIte, Nat.reduceEqDiff, *]; rfl)
      | (refine r_ret (vs := ?_) ?_ ?_
         rotate_left 1
         · simp only [resV, oneOf, stp, ev, put_some, put_none, argT_list, List.getD_cons_zero, List.getD_cons_succ, reduceIte, Nat.reduceEqDiff, Option.map_some, Array.map_empty, List.map_toArray, List.map_cons, List.map_nil, List.append_toArray, Array.append_empty, Array.empty_append, List.nil_append, List.append_nil, and_self, if_true, decide_true, decide_false, Int.toNat_natCast, Int.natCast_nonneg, List.length_map, binV_add, binV_sub, binV_and, binV_shr, binV_shl, binV_str_eql, binV_str_neq, binV_mul, binV_eql, binV_neq, binV_lss, binV_leq, binV_gtr, binV_geq, unV_not, Bool.not_true, Bool.not_false, Bool.cond_true, Bool.cond_false, List.getElem?_toArray, List.getElem?_cons_zero, List.getElem?_cons_succ, ldv, stv, vcs, fldA, blt, lenV, List.size_toArray, List.length_cons, List.length_nil, Nat.zero_add, Array.getD_eq_getD_getElem?, List.getElem?_toArray, List.getElem?_cons_zero, List.getElem?_cons_succ, Option.getD_some, Option.isSome_some, Nat.add_assoc, List.toList_toArray, eq_self, Option.bind_some, List.append_assoc, List.cons_append, List.length_append, List.length_cons, List.length_nil, Nat.zero_add, Nat.add_zero, Nat.reduceAdd, Nat.reduceMul, Nat.reduceLeDiff, mset_some, mset_none, set_at, set_at0, killL_nil, killL_cons, getC_succ2, getC_succ3, getC_succ4, getC_succ5, getC_succ6, loadCs_succ2, loadCs_succ3, loadCs_succ4, loadCs_succ5, loadCs_succ6, setCs_succ2, setCs_succ3, setCs_succ4, setCs_succ5, setCs_succ6, getC_at, getC_at0, getC_zero, getC_succ, loadCs_at, loadCs_at0, loadCs_zero, loadCs_succ, setCs_at, setCs_at0, setCs_zero, setCs_succ, splice, List.set_cons_succ, List.set_cons_zero, List.getElem?_cons_zero, List.getElem?_cons_succ, List.drop_zero, List.drop_succ_cons, List.take_succ_cons, List.take_zero, newB, vcs, flat_int, flat_bool, flat_string, flat_slice, flat_pointer, flat_func, flat_nilFunc, List.all_cons, List.all_nil, Bool.and_true, Bool.and_self, Ty.ld3, Ty.sz3, Ty.zc3, Ty.by3, Ty.ld9, Ty.sz9, Ty.st9, Ty.zc9, Ty.by9, Ty.ld40, Ty.sz40, Ty.sl40, Ty.zc40, Ty.by40, Ty.ld51, Ty.sz51, Ty.zc51, Ty.by51, Ty.fl51_0, Ty.fl51_1, Ty.fl51_2, Store.cells_length, Store.cells_flat, Store.cells_take, Store.cells_splice, Store.get0, Store.get1, Store.get2, Store.set2, frV, frL, *]; rfl)
      | (with_reducible refine frameOfE _ _ _ ?_ ?_
         · first | omega | (simp only [List.length_nil]; omega)
         · first | omega | (simp only [List.length_nil]; omega)
         )
      | (with_reducible refine readFrames_ok _ _ ?_
         · first | omega | (simp only [List.length_nil]; omega)
         )
      | ((with_reducible refine HkTag.mk (n := 51) ?_); rintro _ _ ⟨rfl, hh⟩; replace hh := hh.symm; subst hh)
      | ((with_reducible refine HkTag.mk (n := 59) ?_); rintro _ _ ⟨rfl, hh⟩; replace hh := hh.symm; subst hh)
      )
    all_goals first | exact ⟨rfl, _, rfl⟩ | trace_state
    all_goals sorry

theorem l17Put_ok (s : Store) (t : ByteArray) (h : Heap) (hk : storeOk s = true) (ht : t.size ≤ 1048576) : ACalls Tryd.prog dE 63 #[.agg s.cells.toArray, .string t] h fun v h' => v = .tuple #[.agg (putS s t).cells.toArray, .int .i64 (putC s t)] ∧ h' = h := by
  refine acalls_pure (.inr ⟨_, rfl, by simp [af, af1, Store.cells]⟩) ?_
  have hz := storeOk_sz hk
  have hadd : ∀ xo yo, binV Tryd.prog .add 9 xo yo (.string s.sure) (.string s.later) = some (.string (s.sure ++ s.later)) := fun xo yo => binV_str_add _ _ _ _ _ (by omega)
  have hus : (s.sure ++ s.later).size = s.sure.size + s.later.size := ByteArray.size_append
  have hrl := rdF_len (s.sure ++ s.later) 99 0 [] (Nat.zero_le _)
  have hroom : s.room ≤ 4000 := by
    simp only [storeOk, Bool.and_eq_true, decide_eq_true_eq] at hk
    omega
  simp only [putS, putC]
  generalize hR : rdF (s.sure ++ s.later) 99 0 [] = R at hrl ⊢
  obtain ⟨l, p⟩ := R
  simp only [List.length_nil, Nat.zero_add] at hrl ⊢
  obtain ⟨hl99, hp⟩ := hrl
  obtain ⟨b, hcv⟩ := cV_slice l.length
  rw [hus] at hp
  have hu4 : (s.sure ++ s.later).size ≤ 1048576 := by omega
  generalize s.sure ++ s.later = u at *
  have hw1 : IntKind.i64.wrap ((s.sure.size : Int) + s.later.size) = ((s.sure.size + s.later.size : Nat) : Int) := by rw [wrap_id (by omega)]; omega
  by_cases c1 : 60 < t.size
  · have c1' : (60 : Int) < (t.size : Int) := by omega
    simp only [if_pos c1]
    clear c1
    refine acalls_fn Tryd.func63 rfl Tryd.ntmps63 (by simp) (by dsimp only [Tryd.f63]) ?_
    repeat' (first
      | ((with_reducible refine eq_go ?_); simp only [stp, ev, put_some, put_none, argT_list, List.getD_cons_zero, List.getD_cons_succ, reduceIte, Nat.reduceEqDiff, Option.map_some, Array.map_empty, List.map_toArray, List.map_cons, List.map_nil, List.append_toArray, Array.append_empty, Array.empty_append, List.nil_append, List.append_nil, and_self, if_true, decide_true, decide_false, Int.toNat_natCast, Int.natCast_nonneg, List.length_map, binV_add, binV_sub, binV_and, binV_shr, binV_shl, binV_str_eql, binV_str_neq, binV_mul, binV_eql, binV_neq, binV_lss, binV_leq, binV_gtr, binV_geq, unV_not, Bool.not_true, Bool.not_false, Bool.cond_true, Bool.cond_false, List.getElem?_toArray, List.getElem?_cons_zero, List.getElem?_cons_succ, ldv, stv, vcs, fldA, blt, lenV, List.size_toArray, List.length_cons, List.length_nil, Nat.zero_add, Array.getD_eq_getD_getElem?, List.getElem?_toArray, List.getElem?_cons_zero, List.getElem?_cons_succ, Option.getD_some, Option.isSome_some, Nat.add_assoc, List.toList_toArray, eq_self, Option.bind_some, List.append_assoc, List.cons_append, List.length_append, List.length_cons, List.length_nil, Nat.zero_add, Nat.add_zero, Nat.reduceAdd, Nat.reduceMul, Nat.reduceLeDiff, mset_some, mset_none, set_at, set_at0, killL_nil, killL_cons, getC_succ2, getC_succ3, getC_succ4, getC_succ5, getC_succ6, loadCs_succ2, loadCs_succ3, loadCs_succ4, loadCs_succ5, loadCs_succ6, setCs_succ2, setCs_succ3, setCs_succ4, setCs_succ5, setCs_succ6, getC_at, getC_at0, getC_zero, getC_succ, loadCs_at, loadCs_at0, loadCs_zero, loadCs_succ, setCs_at, setCs_at0, setCs_zero, setCs_succ, splice, List.set_cons_succ, List.set_cons_zero, List.getElem?_cons_zero, List.getElem?_cons_succ, List.drop_zero, List.drop_succ_cons, List.take_succ_cons, List.take_zero, newB, vcs, flat_int, flat_bool, flat_string, flat_slice, flat_pointer, flat_func, flat_nilFunc, List.all_cons, List.all_nil, Bool.and_true, Bool.and_self, Ty.ld3, Ty.sz3, Ty.zc3, Ty.by3, Ty.ld9, Ty.sz9, Ty.st9, Ty.zc9, Ty.by9, Ty.ld40, Ty.sz40, Ty.sl40, Ty.zc40, Ty.by40, Ty.ld51, Ty.sz51, Ty.zc51, Ty.by51, Ty.fl51_0, Ty.fl51_1, Ty.fl51_2, Store.cells_length, Store.cells_flat, Store.cells_take, Store.cells_splice, Store.get0, Store.get1, Store.get2, Store.set2, frV, frL, *]; rfl)
      | (with_reducible refine aw_then ?_) | (with_reducible refine aw_skip ?_) | (with_reducible refine aw_ret ?_) | (with_reducible refine aw_exit ?_) | (with_reducible refine aw_block ?_) | (with_reducible refine xr_reg (by decide +kernel) ?_)
      | (with_reducible refine xr_nil ?_) | (with_reducible refine k_norm ?_) | (with_reducible refine k_ret ?_) | (with_reducible refine k_exit ?_) | (with_reducible refine b_norm ?_) | (with_reducible refine b_ret ?_) | (with_reducible refine b_exit ?_) | (with_reducible refine b_past (by decide) ?_)
      | (with_reducible refine xd_nil ?_)
      | (refine xr_cl (f := ?_) (fs := ?_) (cs := ?_) (args := ?_) (K := ?_) ?_ ?_ ?_ ?_ ?_
         rotate_left 5
         · simp only [ev]; rfl
         first
         | (· with_reducible exact Ty.ok49
            rotate_left 2
            refine hk_tag 49 ?_
            rotate_right 2)
         | (· with_reducible exact Ty.ok58
            rotate_left 2
            refine hk_tag 58 ?_
            rotate_right 2)
         )
      | (refine xd_clnew (f := ?_) (fs := ?_) (cs := ?_) (args := ?_) (v := ?_) (L := ?_) ?_ ?_ ?_ ?_ ?_ ?_
         rotate_left 6
         · simp only [ev]; rfl
         · first | with_reducible exact Ty.ok58
         rotate_left 1
         · decide +kernel
         rotate_right 1)
      | (refine xd_cl (f := ?_) (fs := ?_) (cs := ?_) (args := ?_) (v := ?_) ?_ ?_ ?_ ?_ ?_ ?_
         rotate_left 5
         · simp only [ev]; rfl
         · first | with_reducible exact Ty.ok49
         rotate_left 1
         · decide +kernel
         rotate_right 1)
      | (refine xr_do (v := ?_) (h' := ?_) (by exact rfl) ?_ ?_; rotate_left 2)
      | (refine xr_st (v := ?_) (h' := ?_) (by exact rfl) ?_ ?_; rotate_left 2)
      | (refine xd_reg (ms := [0, 1, 0, 4, 12, 0, 60, 127, 255, 511]) Ty.mx (by decide +kernel) (by decide +kernel) ?_)
      | (refine xd_do (v := ?_) (by exact rfl) (by decide +kernel) ?_ ?_; rotate_left 1)
      | (refine aw_ift (by decide) ?_ ?_
         · simp only [ev, put_some, reduceIte, Nat.reduceEqDiff, *])
      | (refine aw_iff (by decide) ?_ ?_
         · simp only [ev, put_some, reduceIte, Nat.reduceEqDiff, *])
      | (refine aw_if (b := ?_) (by decide) ?_ (fun hb => ?_) (fun hb => ?_)
         rotate_left 1
         · simp only [ev, put_some, reduceIte, Nat.reduceEqDiff, *]; rfl)
      | (refine r_ret (vs := ?_) ?_ ?_
         rotate_left 1
         · simp only [resV, oneOf, stp, ev, put_some, put_none, argT_list, List.getD_cons_zero, List.getD_cons_succ, reduceIte, Nat.reduceEqDiff, Option.map_some, Array.map_empty, List.map_toArray, List.map_cons, List.map_nil, List.append_toArray, Array.append_empty, Array.empty_append, List.nil_append, List.append_nil, and_self, if_true, decide_true, decide_false, Int.toNat_natCast, Int.natCast_nonneg, List.length_map, binV_add, binV_sub, binV_and, binV_shr, binV_shl, binV_str_eql, binV_str_neq, binV_mul, binV_eql, binV_neq, binV_lss, binV_leq, binV_gtr, binV_geq, unV_not, Bool.not_true, Bool.not_false, Bool.cond_true, Bool.cond_false, List.getElem?_toArray, List.getElem?_cons_zero, List.getElem?_cons_succ, ldv, stv, vcs, fldA, blt, lenV, List.size_toArray, List.length_cons, List.length_nil, Nat.zero_add, Array.getD_eq_getD_getElem?, List.getElem?_toArray, List.getElem?_cons_zero, List.getElem?_cons_succ, Option.getD_some, Option.isSome_some, Nat.add_assoc, List.toList_toArray, eq_self, Option.bind_some, List.append_assoc, List.cons_append, List.length_append, List.length_cons, List.length_nil, Nat.zero_add, Nat.add_zero, Nat.reduceAdd, Nat.reduceMul, Nat.reduceLeDiff, mset_some, mset_none, set_at, set_at0, killL_nil, killL_cons, getC_succ2, getC_succ3, getC_succ4, getC_succ5, getC_succ6, loadCs_succ2, loadCs_succ3, loadCs_succ4, loadCs_succ5, loadCs_succ6, setCs_succ2, setCs_succ3, setCs_succ4, setCs_succ5, setCs_succ6, getC_at, getC_at0, getC_zero, getC_succ, loadCs_at, loadCs_at0, loadCs_zero, loadCs_succ, setCs_at, setCs_at0, setCs_zero, setCs_succ, splice, List.set_cons_succ, List.set_cons_zero, List.getElem?_cons_zero, List.getElem?_cons_succ, List.drop_zero, List.drop_succ_cons, List.take_succ_cons, List.take_zero, newB, vcs, flat_int, flat_bool, flat_string, flat_slice, flat_pointer, flat_func, flat_nilFunc, List.all_cons, List.all_nil, Bool.and_true, Bool.and_self, Ty.ld3, Ty.sz3, Ty.zc3, Ty.by3, Ty.ld9, Ty.sz9, Ty.st9, Ty.zc9, Ty.by9, Ty.ld40, Ty.sz40, Ty.sl40, Ty.zc40, Ty.by40, Ty.ld51, Ty.sz51, Ty.zc51, Ty.by51, Ty.fl51_0, Ty.fl51_1, Ty.fl51_2, Store.cells_length, Store.cells_flat, Store.cells_take, Store.cells_splice, Store.get0, Store.get1, Store.get2, Store.set2, frV, frL, *]; rfl)
      | (with_reducible refine l17FrameE _ _ _ ?_ ?_
         · first | omega | (simp only [List.length_nil]; omega)
         · first | omega | (simp only [List.length_nil]; omega)
         )
      | (with_reducible refine l17ReadE _ _ ?_
         · first | omega | (simp only [List.length_nil]; omega)
         )
      | ((with_reducible refine HkTag.mk (n := 49) ?_); rintro _ _ ⟨rfl, hh⟩; replace hh := hh.symm; subst hh)
      | ((with_reducible refine HkTag.mk (n := 58) ?_); rintro _ _ ⟨rfl, hh⟩; replace hh := hh.symm; subst hh)
      )
    exact ⟨rfl, _, rfl⟩
  have c1' : ¬ (60 : Int) < (t.size : Int) := by omega
  have ht60 : t.size ≤ 60 := by omega
  simp only [if_neg c1]
  clear c1
  by_cases c2 : p < s.sure.size + s.later.size
  · have c2' : (p : Int) < ((s.sure.size + s.later.size : Nat) : Int) := by omega
    simp only [if_pos c2]
    clear c2
    refine acalls_fn Tryd.func63 rfl Tryd.ntmps63 (by simp) (by dsimp only [Tryd.f63]) ?_
    repeat' (first
      | ((with_reducible refine eq_go ?_); simp only [stp, ev, put_some, put_none, argT_list, List.getD_cons_zero, List.getD_cons_succ, reduceIte, Nat.reduceEqDiff, Option.map_some, Array.map_empty, List.map_toArray, List.map_cons, List.map_nil, List.append_toArray, Array.append_empty, Array.empty_append, List.nil_append, List.append_nil, and_self, if_true, decide_true, decide_false, Int.toNat_natCast, Int.natCast_nonneg, List.length_map, binV_add, binV_sub, binV_and, binV_shr, binV_shl, binV_str_eql, binV_str_neq, binV_mul, binV_eql, binV_neq, binV_lss, binV_leq, binV_gtr, binV_geq, unV_not, Bool.not_true, Bool.not_false, Bool.cond_true, Bool.cond_false, List.getElem?_toArray, List.getElem?_cons_zero, List.getElem?_cons_succ, ldv, stv, vcs, fldA, blt, lenV, List.size_toArray, List.length_cons, List.length_nil, Nat.zero_add, Array.getD_eq_getD_getElem?, List.getElem?_toArray, List.getElem?_cons_zero, List.getElem?_cons_succ, Option.getD_some, Option.isSome_some, Nat.add_assoc, List.toList_toArray, eq_self, Option.bind_some, List.append_assoc, List.cons_append, List.length_append, List.length_cons, List.length_nil, Nat.zero_add, Nat.add_zero, Nat.reduceAdd, Nat.reduceMul, Nat.reduceLeDiff, mset_some, mset_none, set_at, set_at0, killL_nil, killL_cons, getC_succ2, getC_succ3, getC_succ4, getC_succ5, getC_succ6, loadCs_succ2, loadCs_succ3, loadCs_succ4, loadCs_succ5, loadCs_succ6, setCs_succ2, setCs_succ3, setCs_succ4, setCs_succ5, setCs_succ6, getC_at, getC_at0, getC_zero, getC_succ, loadCs_at, loadCs_at0, loadCs_zero, loadCs_succ, setCs_at, setCs_at0, setCs_zero, setCs_succ, splice, List.set_cons_succ, List.set_cons_zero, List.getElem?_cons_zero, List.getElem?_cons_succ, List.drop_zero, List.drop_succ_cons, List.take_succ_cons, List.take_zero, newB, vcs, flat_int, flat_bool, flat_string, flat_slice, flat_pointer, flat_func, flat_nilFunc, List.all_cons, List.all_nil, Bool.and_true, Bool.and_self, Ty.ld3, Ty.sz3, Ty.zc3, Ty.by3, Ty.ld9, Ty.sz9, Ty.st9, Ty.zc9, Ty.by9, Ty.ld40, Ty.sz40, Ty.sl40, Ty.zc40, Ty.by40, Ty.ld51, Ty.sz51, Ty.zc51, Ty.by51, Ty.fl51_0, Ty.fl51_1, Ty.fl51_2, Store.cells_length, Store.cells_flat, Store.cells_take, Store.cells_splice, Store.get0, Store.get1, Store.get2, Store.set2, frV, frL, *]; rfl)
      | (with_reducible refine aw_then ?_) | (with_reducible refine aw_skip ?_) | (with_reducible refine aw_ret ?_) | (with_reducible refine aw_exit ?_) | (with_reducible refine aw_block ?_) | (with_reducible refine xr_reg (by decide +kernel) ?_)
      | (with_reducible refine xr_nil ?_) | (with_reducible refine k_norm ?_) | (with_reducible refine k_ret ?_) | (with_reducible refine k_exit ?_) | (with_reducible refine b_norm ?_) | (with_reducible refine b_ret ?_) | (with_reducible refine b_exit ?_) | (with_reducible refine b_past (by decide) ?_)
      | (with_reducible refine xd_nil ?_)
      | (refine xr_cl (f := ?_) (fs := ?_) (cs := ?_) (args := ?_) (K := ?_) ?_ ?_ ?_ ?_ ?_
         rotate_left 5
         · simp only [ev]; rfl
         first
         | (· with_reducible exact Ty.ok49
            rotate_left 2
            refine hk_tag 49 ?_
            rotate_right 2)
         | (· with_reducible exact Ty.ok58
            rotate_left 2
            refine hk_tag 58 ?_
            rotate_right 2)
         )
      | (refine xd_clnew (f := ?_) (fs := ?_) (cs := ?_) (args := ?_) (v := ?_) (L := ?_) ?_ ?_ ?_ ?_ ?_ ?_
         rotate_left 6
         · simp only [ev]; rfl
         · first | with_reducible exact Ty.ok58
         rotate_left 1
         · decide +kernel
         rotate_right 1)
      | (refine xd_cl (f := ?_) (fs := ?_) (cs := ?_) (args := ?_) (v := ?_) ?_ ?_ ?_ ?_ ?_ ?_
         rotate_left 5
         · simp only [ev]; rfl
         · first | with_reducible exact Ty.ok49
         rotate_left 1
         · decide +kernel
         rotate_right 1)
      | (refine xr_do (v := ?_) (h' := ?_) (by exact rfl) ?_ ?_; rotate_left 2)
      | (refine xr_st (v := ?_) (h' := ?_) (by exact rfl) ?_ ?_; rotate_left 2)
      | (refine xd_reg (ms := [0, 1, 0, 4, 12, 0, 60, 127, 255, 511]) Ty.mx (by decide +kernel) (by decide +kernel) ?_)
      | (refine xd_do (v := ?_) (by exact rfl) (by decide +kernel) ?_ ?_; rotate_left 1)
      | (refine aw_ift (by decide) ?_ ?_
         · simp only [ev, put_some, reduceIte, Nat.reduceEqDiff, *])
      | (refine aw_iff (by decide) ?_ ?_
         · simp only [ev, put_some, reduceIte, Nat.reduceEqDiff, *])
      | (refine aw_if (b := ?_) (by decide) ?_ (fun hb => ?_) (fun hb => ?_)
         rotate_left 1
         · simp only [ev, put_some, reduceIte, Nat.reduceEqDiff, *]; rfl)
      | (refine r_ret (vs := ?_) ?_ ?_
         rotate_left 1
         · simp only [resV, oneOf, stp, ev, put_some, put_none, argT_list, List.getD_cons_zero, List.getD_cons_succ, reduceIte, Nat.reduceEqDiff, Option.map_some, Array.map_empty, List.map_toArray, List.map_cons, List.map_nil, List.append_toArray, Array.append_empty, Array.empty_append, List.nil_append, List.append_nil, and_self, if_true, decide_true, decide_false, Int.toNat_natCast, Int.natCast_nonneg, List.length_map, binV_add, binV_sub, binV_and, binV_shr, binV_shl, binV_str_eql, binV_str_neq, binV_mul, binV_eql, binV_neq, binV_lss, binV_leq, binV_gtr, binV_geq, unV_not, Bool.not_true, Bool.not_false, Bool.cond_true, Bool.cond_false, List.getElem?_toArray, List.getElem?_cons_zero, List.getElem?_cons_succ, ldv, stv, vcs, fldA, blt, lenV, List.size_toArray, List.length_cons, List.length_nil, Nat.zero_add, Array.getD_eq_getD_getElem?, List.getElem?_toArray, List.getElem?_cons_zero, List.getElem?_cons_succ, Option.getD_some, Option.isSome_some, Nat.add_assoc, List.toList_toArray, eq_self, Option.bind_some, List.append_assoc, List.cons_append, List.length_append, List.length_cons, List.length_nil, Nat.zero_add, Nat.add_zero, Nat.reduceAdd, Nat.reduceMul, Nat.reduceLeDiff, mset_some, mset_none, set_at, set_at0, killL_nil, killL_cons, getC_succ2, getC_succ3, getC_succ4, getC_succ5, getC_succ6, loadCs_succ2, loadCs_succ3, loadCs_succ4, loadCs_succ5, loadCs_succ6, setCs_succ2, setCs_succ3, setCs_succ4, setCs_succ5, setCs_succ6, getC_at, getC_at0, getC_zero, getC_succ, loadCs_at, loadCs_at0, loadCs_zero, loadCs_succ, setCs_at, setCs_at0, setCs_zero, setCs_succ, splice, List.set_cons_succ, List.set_cons_zero, List.getElem?_cons_zero, List.getElem?_cons_succ, List.drop_zero, List.drop_succ_cons, List.take_succ_cons, List.take_zero, newB, vcs, flat_int, flat_bool, flat_string, flat_slice, flat_pointer, flat_func, flat_nilFunc, List.all_cons, List.all_nil, Bool.and_true, Bool.and_self, Ty.ld3, Ty.sz3, Ty.zc3, Ty.by3, Ty.ld9, Ty.sz9, Ty.st9, Ty.zc9, Ty.by9, Ty.ld40, Ty.sz40, Ty.sl40, Ty.zc40, Ty.by40, Ty.ld51, Ty.sz51, Ty.zc51, Ty.by51, Ty.fl51_0, Ty.fl51_1, Ty.fl51_2, Store.cells_length, Store.cells_flat, Store.cells_take, Store.cells_splice, Store.get0, Store.get1, Store.get2, Store.set2, frV, frL, *]; rfl)
      | (with_reducible refine l17FrameE _ _ _ ?_ ?_
         · first | omega | (simp only [List.length_nil]; omega)
         · first | omega | (simp only [List.length_nil]; omega)
         )
      | (with_reducible refine l17ReadE _ _ ?_
         · first | omega | (simp only [List.length_nil]; omega)
         )
      | ((with_reducible refine HkTag.mk (n := 49) ?_); rintro _ _ ⟨rfl, hh⟩; replace hh := hh.symm; subst hh)
      | ((with_reducible refine HkTag.mk (n := 58) ?_); rintro _ _ ⟨rfl, hh⟩; replace hh := hh.symm; subst hh)
      )
    exact ⟨rfl, _, rfl⟩
  have c2' : ¬ (p : Int) < ((s.sure.size + s.later.size : Nat) : Int) := by omega
  simp only [if_neg c2]
  clear c2
  by_cases c3 : l.length = 99
  · have c3' : (l.length : Int) = 99 := by omega
    simp only [if_pos c3]
    clear c3
    refine acalls_fn Tryd.func63 rfl Tryd.ntmps63 (by simp) (by dsimp only [Tryd.f63]) ?_
    repeat' (first
      | ((with_reducible refine eq_go ?_); simp only [stp, ev, put_some, put_none, argT_list, List.getD_cons_zero, List.getD_cons_succ, reduceIte, Nat.reduceEqDiff, Option.map_some, Array.map_empty, List.map_toArray, List.map_cons, List.map_nil, List.append_toArray, Array.append_empty, Array.empty_append, List.nil_append, List.append_nil, and_self, if_true, decide_true, decide_false, Int.toNat_natCast, Int.natCast_nonneg, List.length_map, binV_add, binV_sub, binV_and, binV_shr, binV_shl, binV_str_eql, binV_str_neq, binV_mul, binV_eql, binV_neq, binV_lss, binV_leq, binV_gtr, binV_geq, unV_not, Bool.not_true, Bool.not_false, Bool.cond_true, Bool.cond_false, List.getElem?_toArray, List.getElem?_cons_zero, List.getElem?_cons_succ, ldv, stv, vcs, fldA, blt, lenV, List.size_toArray, List.length_cons, List.length_nil, Nat.zero_add, Array.getD_eq_getD_getElem?, List.getElem?_toArray, List.getElem?_cons_zero, List.getElem?_cons_succ, Option.getD_some, Option.isSome_some, Nat.add_assoc, List.toList_toArray, eq_self, Option.bind_some, List.append_assoc, List.cons_append, List.length_append, List.length_cons, List.length_nil, Nat.zero_add, Nat.add_zero, Nat.reduceAdd, Nat.reduceMul, Nat.reduceLeDiff, mset_some, mset_none, set_at, set_at0, killL_nil, killL_cons, getC_succ2, getC_succ3, getC_succ4, getC_succ5, getC_succ6, loadCs_succ2, loadCs_succ3, loadCs_succ4, loadCs_succ5, loadCs_succ6, setCs_succ2, setCs_succ3, setCs_succ4, setCs_succ5, setCs_succ6, getC_at, getC_at0, getC_zero, getC_succ, loadCs_at, loadCs_at0, loadCs_zero, loadCs_succ, setCs_at, setCs_at0, setCs_zero, setCs_succ, splice, List.set_cons_succ, List.set_cons_zero, List.getElem?_cons_zero, List.getElem?_cons_succ, List.drop_zero, List.drop_succ_cons, List.take_succ_cons, List.take_zero, newB, vcs, flat_int, flat_bool, flat_string, flat_slice, flat_pointer, flat_func, flat_nilFunc, List.all_cons, List.all_nil, Bool.and_true, Bool.and_self, Ty.ld3, Ty.sz3, Ty.zc3, Ty.by3, Ty.ld9, Ty.sz9, Ty.st9, Ty.zc9, Ty.by9, Ty.ld40, Ty.sz40, Ty.sl40, Ty.zc40, Ty.by40, Ty.ld51, Ty.sz51, Ty.zc51, Ty.by51, Ty.fl51_0, Ty.fl51_1, Ty.fl51_2, Store.cells_length, Store.cells_flat, Store.cells_take, Store.cells_splice, Store.get0, Store.get1, Store.get2, Store.set2, frV, frL, *]; rfl)
      | (with_reducible refine aw_then ?_) | (with_reducible refine aw_skip ?_) | (with_reducible refine aw_ret ?_) | (with_reducible refine aw_exit ?_) | (with_reducible refine aw_block ?_) | (with_reducible refine xr_reg (by decide +kernel) ?_)
      | (with_reducible refine xr_nil ?_) | (with_reducible refine k_norm ?_) | (with_reducible refine k_ret ?_) | (with_reducible refine k_exit ?_) | (with_reducible refine b_norm ?_) | (with_reducible refine b_ret ?_) | (with_reducible refine b_exit ?_) | (with_reducible refine b_past (by decide) ?_)
      | (with_reducible refine xd_nil ?_)
      | (refine xr_cl (f := ?_) (fs := ?_) (cs := ?_) (args := ?_) (K := ?_) ?_ ?_ ?_ ?_ ?_
         rotate_left 5
         · simp only [ev]; rfl
         first
         | (· with_reducible exact Ty.ok49
            rotate_left 2
            refine hk_tag 49 ?_
            rotate_right 2)
         | (· with_reducible exact Ty.ok58
            rotate_left 2
            refine hk_tag 58 ?_
            rotate_right 2)
         )
      | (refine xd_clnew (f := ?_) (fs := ?_) (cs := ?_) (args := ?_) (v := ?_) (L := ?_) ?_ ?_ ?_ ?_ ?_ ?_
         rotate_left 6
         · simp only [ev]; rfl
         · first | with_reducible exact Ty.ok58
         rotate_left 1
         · decide +kernel
         rotate_right 1)
      | (refine xd_cl (f := ?_) (fs := ?_) (cs := ?_) (args := ?_) (v := ?_) ?_ ?_ ?_ ?_ ?_ ?_
         rotate_left 5
         · simp only [ev]; rfl
         · first | with_reducible exact Ty.ok49
         rotate_left 1
         · decide +kernel
         rotate_right 1)
      | (refine xr_do (v := ?_) (h' := ?_) (by exact rfl) ?_ ?_; rotate_left 2)
      | (refine xr_st (v := ?_) (h' := ?_) (by exact rfl) ?_ ?_; rotate_left 2)
      | (refine xd_reg (ms := [0, 1, 0, 4, 12, 0, 60, 127, 255, 511]) Ty.mx (by decide +kernel) (by decide +kernel) ?_)
      | (refine xd_do (v := ?_) (by exact rfl) (by decide +kernel) ?_ ?_; rotate_left 1)
      | (refine aw_ift (by decide) ?_ ?_
         · simp only [ev, put_some, reduceIte, Nat.reduceEqDiff, *])
      | (refine aw_iff (by decide) ?_ ?_
         · simp only [ev, put_some, reduceIte, Nat.reduceEqDiff, *])
      | (refine aw_if (b := ?_) (by decide) ?_ (fun hb => ?_) (fun hb => ?_)
         rotate_left 1
         · simp only [ev, put_some, reduceIte, Nat.reduceEqDiff, *]; rfl)
      | (refine r_ret (vs := ?_) ?_ ?_
         rotate_left 1
         · simp only [resV, oneOf, stp, ev, put_some, put_none, argT_list, List.getD_cons_zero, List.getD_cons_succ, reduceIte, Nat.reduceEqDiff, Option.map_some, Array.map_empty, List.map_toArray, List.map_cons, List.map_nil, List.append_toArray, Array.append_empty, Array.empty_append, List.nil_append, List.append_nil, and_self, if_true, decide_true, decide_false, Int.toNat_natCast, Int.natCast_nonneg, List.length_map, binV_add, binV_sub, binV_and, binV_shr, binV_shl, binV_str_eql, binV_str_neq, binV_mul, binV_eql, binV_neq, binV_lss, binV_leq, binV_gtr, binV_geq, unV_not, Bool.not_true, Bool.not_false, Bool.cond_true, Bool.cond_false, List.getElem?_toArray, List.getElem?_cons_zero, List.getElem?_cons_succ, ldv, stv, vcs, fldA, blt, lenV, List.size_toArray, List.length_cons, List.length_nil, Nat.zero_add, Array.getD_eq_getD_getElem?, List.getElem?_toArray, List.getElem?_cons_zero, List.getElem?_cons_succ, Option.getD_some, Option.isSome_some, Nat.add_assoc, List.toList_toArray, eq_self, Option.bind_some, List.append_assoc, List.cons_append, List.length_append, List.length_cons, List.length_nil, Nat.zero_add, Nat.add_zero, Nat.reduceAdd, Nat.reduceMul, Nat.reduceLeDiff, mset_some, mset_none, set_at, set_at0, killL_nil, killL_cons, getC_succ2, getC_succ3, getC_succ4, getC_succ5, getC_succ6, loadCs_succ2, loadCs_succ3, loadCs_succ4, loadCs_succ5, loadCs_succ6, setCs_succ2, setCs_succ3, setCs_succ4, setCs_succ5, setCs_succ6, getC_at, getC_at0, getC_zero, getC_succ, loadCs_at, loadCs_at0, loadCs_zero, loadCs_succ, setCs_at, setCs_at0, setCs_zero, setCs_succ, splice, List.set_cons_succ, List.set_cons_zero, List.getElem?_cons_zero, List.getElem?_cons_succ, List.drop_zero, List.drop_succ_cons, List.take_succ_cons, List.take_zero, newB, vcs, flat_int, flat_bool, flat_string, flat_slice, flat_pointer, flat_func, flat_nilFunc, List.all_cons, List.all_nil, Bool.and_true, Bool.and_self, Ty.ld3, Ty.sz3, Ty.zc3, Ty.by3, Ty.ld9, Ty.sz9, Ty.st9, Ty.zc9, Ty.by9, Ty.ld40, Ty.sz40, Ty.sl40, Ty.zc40, Ty.by40, Ty.ld51, Ty.sz51, Ty.zc51, Ty.by51, Ty.fl51_0, Ty.fl51_1, Ty.fl51_2, Store.cells_length, Store.cells_flat, Store.cells_take, Store.cells_splice, Store.get0, Store.get1, Store.get2, Store.set2, frV, frL, *]; rfl)
      | (with_reducible refine l17FrameE _ _ _ ?_ ?_
         · first | omega | (simp only [List.length_nil]; omega)
         · first | omega | (simp only [List.length_nil]; omega)
         )
      | (with_reducible refine l17ReadE _ _ ?_
         · first | omega | (simp only [List.length_nil]; omega)
         )
      | ((with_reducible refine HkTag.mk (n := 49) ?_); rintro _ _ ⟨rfl, hh⟩; replace hh := hh.symm; subst hh)
      | ((with_reducible refine HkTag.mk (n := 58) ?_); rintro _ _ ⟨rfl, hh⟩; replace hh := hh.symm; subst hh)
      )
    exact ⟨rfl, _, rfl⟩
  have c3' : ¬ (l.length : Int) = 99 := by omega
  have c3'' : ¬ (99 : Int) ≤ (l.length : Int) := by omega
  have hl98 : l.length + 1 ≤ 99 := by omega
  simp only [if_neg c3]
  clear c3
  have hw2 : IntKind.i64.wrap ((l.length : Int) + 1) = ((l.length + 1 : Nat) : Int) := by rw [wrap_id (by omega)]; omega
  have hfs := frameT_size (l.length + 1) t
  have hadd2 : ∀ xo yo, binV Tryd.prog .add 9 xo yo (.string s.later) (.string (frameT (l.length + 1) t)) = some (.string (s.later ++ frameT (l.length + 1) t)) := fun xo yo => binV_str_add _ _ _ _ _ (by omega)
  have hw3 : IntKind.i64.wrap ((p : Int) + 8) = ((p + 8 : Nat) : Int) := by rw [wrap_id (by omega)]; omega
  have hw4 : IntKind.i64.wrap (((p + 8 : Nat) : Int) + (t.size : Nat)) = ((p + 8 + t.size : Nat) : Int) := by rw [wrap_id (by omega)]; omega
  by_cases c4 : s.room < (p : Int) + 8 + t.size
  · have c4' : s.room < ((p + (8 + t.size) : Nat) : Int) := by omega
    simp only [if_pos c4]
    clear c4
    refine acalls_fn Tryd.func63 rfl Tryd.ntmps63 (by simp) (by dsimp only [Tryd.f63]) ?_
    repeat' (first
      | ((with_reducible refine eq_go ?_); simp only [stp, ev, put_some, put_none, argT_list, List.getD_cons_zero, List.getD_cons_succ, reduceIte, Nat.reduceEqDiff, Option.map_some, Array.map_empty, List.map_toArray, List.map_cons, List.map_nil, List.append_toArray, Array.append_empty, Array.empty_append, List.nil_append, List.append_nil, and_self, if_true, decide_true, decide_false, Int.toNat_natCast, Int.natCast_nonneg, List.length_map, binV_add, binV_sub, binV_and, binV_shr, binV_shl, binV_str_eql, binV_str_neq, binV_mul, binV_eql, binV_neq, binV_lss, binV_leq, binV_gtr, binV_geq, unV_not, Bool.not_true, Bool.not_false, Bool.cond_true, Bool.cond_false, List.getElem?_toArray, List.getElem?_cons_zero, List.getElem?_cons_succ, ldv, stv, vcs, fldA, blt, lenV, List.size_toArray, List.length_cons, List.length_nil, Nat.zero_add, Array.getD_eq_getD_getElem?, List.getElem?_toArray, List.getElem?_cons_zero, List.getElem?_cons_succ, Option.getD_some, Option.isSome_some, Nat.add_assoc, List.toList_toArray, eq_self, Option.bind_some, List.append_assoc, List.cons_append, List.length_append, List.length_cons, List.length_nil, Nat.zero_add, Nat.add_zero, Nat.reduceAdd, Nat.reduceMul, Nat.reduceLeDiff, mset_some, mset_none, set_at, set_at0, killL_nil, killL_cons, getC_succ2, getC_succ3, getC_succ4, getC_succ5, getC_succ6, loadCs_succ2, loadCs_succ3, loadCs_succ4, loadCs_succ5, loadCs_succ6, setCs_succ2, setCs_succ3, setCs_succ4, setCs_succ5, setCs_succ6, getC_at, getC_at0, getC_zero, getC_succ, loadCs_at, loadCs_at0, loadCs_zero, loadCs_succ, setCs_at, setCs_at0, setCs_zero, setCs_succ, splice, List.set_cons_succ, List.set_cons_zero, List.getElem?_cons_zero, List.getElem?_cons_succ, List.drop_zero, List.drop_succ_cons, List.take_succ_cons, List.take_zero, newB, vcs, flat_int, flat_bool, flat_string, flat_slice, flat_pointer, flat_func, flat_nilFunc, List.all_cons, List.all_nil, Bool.and_true, Bool.and_self, Ty.ld3, Ty.sz3, Ty.zc3, Ty.by3, Ty.ld9, Ty.sz9, Ty.st9, Ty.zc9, Ty.by9, Ty.ld40, Ty.sz40, Ty.sl40, Ty.zc40, Ty.by40, Ty.ld51, Ty.sz51, Ty.zc51, Ty.by51, Ty.fl51_0, Ty.fl51_1, Ty.fl51_2, Store.cells_length, Store.cells_flat, Store.cells_take, Store.cells_splice, Store.get0, Store.get1, Store.get2, Store.set2, frV, frL, *]; rfl)
      | (with_reducible refine aw_then ?_) | (with_reducible refine aw_skip ?_) | (with_reducible refine aw_ret ?_) | (with_reducible refine aw_exit ?_) | (with_reducible refine aw_block ?_) | (with_reducible refine xr_reg (by decide +kernel) ?_)
      | (with_reducible refine xr_nil ?_) | (with_reducible refine k_norm ?_) | (with_reducible refine k_ret ?_) | (with_reducible refine k_exit ?_) | (with_reducible refine b_norm ?_) | (with_reducible refine b_ret ?_) | (with_reducible refine b_exit ?_) | (with_reducible refine b_past (by decide) ?_)
      | (with_reducible refine xd_nil ?_)
      | (refine xr_cl (f := ?_) (fs := ?_) (cs := ?_) (args := ?_) (K := ?_) ?_ ?_ ?_ ?_ ?_
         rotate_left 5
         · simp only [ev]; rfl
         first
         | (· with_reducible exact Ty.ok49
            rotate_left 2
            refine hk_tag 49 ?_
            rotate_right 2)
         | (· with_reducible exact Ty.ok58
            rotate_left 2
            refine hk_tag 58 ?_
            rotate_right 2)
         )
      | (refine xd_clnew (f := ?_) (fs := ?_) (cs := ?_) (args := ?_) (v := ?_) (L := ?_) ?_ ?_ ?_ ?_ ?_ ?_
         rotate_left 6
         · simp only [ev]; rfl
         · first | with_reducible exact Ty.ok58
         rotate_left 1
         · decide +kernel
         rotate_right 1)
      | (refine xd_cl (f := ?_) (fs := ?_) (cs := ?_) (args := ?_) (v := ?_) ?_ ?_ ?_ ?_ ?_ ?_
         rotate_left 5
         · simp only [ev]; rfl
         · first | with_reducible exact Ty.ok49
         rotate_left 1
         · decide +kernel
         rotate_right 1)
      | (refine xr_do (v := ?_) (h' := ?_) (by exact rfl) ?_ ?_; rotate_left 2)
      | (refine xr_st (v := ?_) (h' := ?_) (by exact rfl) ?_ ?_; rotate_left 2)
      | (refine xd_reg (ms := [0, 1, 0, 4, 12, 0, 60, 127, 255, 511]) Ty.mx (by decide +kernel) (by decide +kernel) ?_)
      | (refine xd_do (v := ?_) (by exact rfl) (by decide +kernel) ?_ ?_; rotate_left 1)
      | (refine aw_ift (by decide) ?_ ?_
         · simp only [ev, put_some, reduceIte, Nat.reduceEqDiff, *])
      | (refine aw_iff (by decide) ?_ ?_
         · simp only [ev, put_some, reduceIte, Nat.reduceEqDiff, *])
      | (refine aw_if (b := ?_) (by decide) ?_ (fun hb => ?_) (fun hb => ?_)
         rotate_left 1
         · simp only [ev, put_some, reduceIte, Nat.reduceEqDiff, *]; rfl)
      | (refine r_ret (vs := ?_) ?_ ?_
         rotate_left 1
         · simp only [resV, oneOf, stp, ev, put_some, put_none, argT_list, List.getD_cons_zero, List.getD_cons_succ, reduceIte, Nat.reduceEqDiff, Option.map_some, Array.map_empty, List.map_toArray, List.map_cons, List.map_nil, List.append_toArray, Array.append_empty, Array.empty_append, List.nil_append, List.append_nil, and_self, if_true, decide_true, decide_false, Int.toNat_natCast, Int.natCast_nonneg, List.length_map, binV_add, binV_sub, binV_and, binV_shr, binV_shl, binV_str_eql, binV_str_neq, binV_mul, binV_eql, binV_neq, binV_lss, binV_leq, binV_gtr, binV_geq, unV_not, Bool.not_true, Bool.not_false, Bool.cond_true, Bool.cond_false, List.getElem?_toArray, List.getElem?_cons_zero, List.getElem?_cons_succ, ldv, stv, vcs, fldA, blt, lenV, List.size_toArray, List.length_cons, List.length_nil, Nat.zero_add, Array.getD_eq_getD_getElem?, List.getElem?_toArray, List.getElem?_cons_zero, List.getElem?_cons_succ, Option.getD_some, Option.isSome_some, Nat.add_assoc, List.toList_toArray, eq_self, Option.bind_some, List.append_assoc, List.cons_append, List.length_append, List.length_cons, List.length_nil, Nat.zero_add, Nat.add_zero, Nat.reduceAdd, Nat.reduceMul, Nat.reduceLeDiff, mset_some, mset_none, set_at, set_at0, killL_nil, killL_cons, getC_succ2, getC_succ3, getC_succ4, getC_succ5, getC_succ6, loadCs_succ2, loadCs_succ3, loadCs_succ4, loadCs_succ5, loadCs_succ6, setCs_succ2, setCs_succ3, setCs_succ4, setCs_succ5, setCs_succ6, getC_at, getC_at0, getC_zero, getC_succ, loadCs_at, loadCs_at0, loadCs_zero, loadCs_succ, setCs_at, setCs_at0, setCs_zero, setCs_succ, splice, List.set_cons_succ, List.set_cons_zero, List.getElem?_cons_zero, List.getElem?_cons_succ, List.drop_zero, List.drop_succ_cons, List.take_succ_cons, List.take_zero, newB, vcs, flat_int, flat_bool, flat_string, flat_slice, flat_pointer, flat_func, flat_nilFunc, List.all_cons, List.all_nil, Bool.and_true, Bool.and_self, Ty.ld3, Ty.sz3, Ty.zc3, Ty.by3, Ty.ld9, Ty.sz9, Ty.st9, Ty.zc9, Ty.by9, Ty.ld40, Ty.sz40, Ty.sl40, Ty.zc40, Ty.by40, Ty.ld51, Ty.sz51, Ty.zc51, Ty.by51, Ty.fl51_0, Ty.fl51_1, Ty.fl51_2, Store.cells_length, Store.cells_flat, Store.cells_take, Store.cells_splice, Store.get0, Store.get1, Store.get2, Store.set2, frV, frL, *]; rfl)
      | (with_reducible refine l17FrameE _ _ _ ?_ ?_
         · first | omega | (simp only [List.length_nil]; omega)
         · first | omega | (simp only [List.length_nil]; omega)
         )
      | (with_reducible refine l17ReadE _ _ ?_
         · first | omega | (simp only [List.length_nil]; omega)
         )
      | ((with_reducible refine HkTag.mk (n := 49) ?_); rintro _ _ ⟨rfl, hh⟩; replace hh := hh.symm; subst hh)
      | ((with_reducible refine HkTag.mk (n := 58) ?_); rintro _ _ ⟨rfl, hh⟩; replace hh := hh.symm; subst hh)
      )
    all_goals first | exact ⟨rfl, _, rfl⟩ | trace_state
    all_goals sorry
  · have c4' : ¬ s.room < ((p + (8 + t.size) : Nat) : Int) := by omega
    simp only [if_neg c4]
    clear c4
    refine acalls_fn Tryd.func63 rfl Tryd.ntmps63 (by simp) (by dsimp only [Tryd.f63]) ?_
    repeat' (first
      | ((with_reducible refine eq_go ?_); simp only [stp, ev, put_some, put_none, argT_list, List.getD_cons_zero, List.getD_cons_succ, reduceIte, Nat.reduceEqDiff, Option.map_some, Array.map_empty, List.map_toArray, List.map_cons, List.map_nil, List.append_toArray, Array.append_empty, Array.empty_append, List.nil_append, List.append_nil, and_self, if_true, decide_true, decide_false, Int.toNat_natCast, Int.natCast_nonneg, List.length_map, binV_add, binV_sub, binV_and, binV_shr, binV_shl, binV_str_eql, binV_str_neq, binV_mul, binV_eql, binV_neq, binV_lss, binV_leq, binV_gtr, binV_geq, unV_not, Bool.not_true, Bool.not_false, Bool.cond_true, Bool.cond_false, List.getElem?_toArray, List.getElem?_cons_zero, List.getElem?_cons_succ, ldv, stv, vcs, fldA, blt, lenV, List.size_toArray, List.length_cons, List.length_nil, Nat.zero_add, Array.getD_eq_getD_getElem?, List.getElem?_toArray, List.getElem?_cons_zero, List.getElem?_cons_succ, Option.getD_some, Option.isSome_some, Nat.add_assoc, List.toList_toArray, eq_self, Option.bind_some, List.append_assoc, List.cons_append, List.length_append, List.length_cons, List.length_nil, Nat.zero_add, Nat.add_zero, Nat.reduceAdd, Nat.reduceMul, Nat.reduceLeDiff, mset_some, mset_none, set_at, set_at0, killL_nil, killL_cons, getC_succ2, getC_succ3, getC_succ4, getC_succ5, getC_succ6, loadCs_succ2, loadCs_succ3, loadCs_succ4, loadCs_succ5, loadCs_succ6, setCs_succ2, setCs_succ3, setCs_succ4, setCs_succ5, setCs_succ6, getC_at, getC_at0, getC_zero, getC_succ, loadCs_at, loadCs_at0, loadCs_zero, loadCs_succ, setCs_at, setCs_at0, setCs_zero, setCs_succ, splice, List.set_cons_succ, List.set_cons_zero, List.getElem?_cons_zero, List.getElem?_cons_succ, List.drop_zero, List.drop_succ_cons, List.take_succ_cons, List.take_zero, newB, vcs, flat_int, flat_bool, flat_string, flat_slice, flat_pointer, flat_func, flat_nilFunc, List.all_cons, List.all_nil, Bool.and_true, Bool.and_self, Ty.ld3, Ty.sz3, Ty.zc3, Ty.by3, Ty.ld9, Ty.sz9, Ty.st9, Ty.zc9, Ty.by9, Ty.ld40, Ty.sz40, Ty.sl40, Ty.zc40, Ty.by40, Ty.ld51, Ty.sz51, Ty.zc51, Ty.by51, Ty.fl51_0, Ty.fl51_1, Ty.fl51_2, Store.cells_length, Store.cells_flat, Store.cells_take, Store.cells_splice, Store.get0, Store.get1, Store.get2, Store.set2, frV, frL, *]; rfl)
      | (with_reducible refine aw_then ?_) | (with_reducible refine aw_skip ?_) | (with_reducible refine aw_ret ?_) | (with_reducible refine aw_exit ?_) | (with_reducible refine aw_block ?_) | (with_reducible refine xr_reg (by decide +kernel) ?_)
      | (with_reducible refine xr_nil ?_) | (with_reducible refine k_norm ?_) | (with_reducible refine k_ret ?_) | (with_reducible refine k_exit ?_) | (with_reducible refine b_norm ?_) | (with_reducible refine b_ret ?_) | (with_reducible refine b_exit ?_) | (with_reducible refine b_past (by decide) ?_)
      | (with_reducible refine xd_nil ?_)
      | (refine xr_cl (f := ?_) (fs := ?_) (cs := ?_) (args := ?_) (K := ?_) ?_ ?_ ?_ ?_ ?_
         rotate_left 5
         · simp only [ev]; rfl
         first
         | (· with_reducible exact Ty.ok49
            rotate_left 2
            refine hk_tag 49 ?_
            rotate_right 2)
         | (· with_reducible exact Ty.ok58
            rotate_left 2
            refine hk_tag 58 ?_
            rotate_right 2)
         )
      | (refine xd_clnew (f := ?_) (fs := ?_) (cs := ?_) (args := ?_) (v := ?_) (L := ?_) ?_ ?_ ?_ ?_ ?_ ?_
         rotate_left 6
         · simp only [ev]; rfl
         · first | with_reducible exact Ty.ok58
         rotate_left 1
         · decide +kernel
         rotate_right 1)
      | (refine xd_cl (f := ?_) (fs := ?_) (cs := ?_) (args := ?_) (v := ?_) ?_ ?_ ?_ ?_ ?_ ?_
         rotate_left 5
         · simp only [ev]; rfl
         · first | with_reducible exact Ty.ok49
         rotate_left 1
         · decide +kernel
         rotate_right 1)
      | (refine xr_do (v := ?_) (h' := ?_) (by exact rfl) ?_ ?_; rotate_left 2)
      | (refine xr_st (v := ?_) (h' := ?_) (by exact rfl) ?_ ?_; rotate_left 2)
      | (refine xe_reg (ms := [0, 1, 0, 4, 12, 0, 60, 127, 255, 511]) Ty.mx (by decide +kernel) (by decide +kernel) [[],[],[],[],[],[],[],[],[],[h.length]] ?_)
      | (with_reducible refine xe_nil ?_)
      | (refine xe_do (v := ?_) (ids := []) (by exact rfl) (by decide +kernel) (by exact rfl) (by exact rfl) ?_ ?_; rotate_left 1)
      | (refine xe_st (v := ?_) (a := ?_) (h' := ?_) (ids := []) (by decide +kernel) (by exact rfl) ?_ ?_ ?_ ?_ ?_
         rotate_left 3
         · simp only [stp, ev, put_some, put_none, argT_list, List.getD_cons_zero, List.getD_cons_succ, reduceIte, Nat.reduceEqDiff, Option.map_some, Array.map_empty, List.map_toArray, List.map_cons, List.map_nil, List.append_toArray, Array.append_empty, Array.empty_append, List.nil_append, List.append_nil, and_self, if_true, decide_true, decide_false, Int.toNat_natCast, Int.natCast_nonneg, List.length_map, binV_add, binV_sub, binV_and, binV_shr, binV_shl, binV_str_eql, binV_str_neq, binV_mul, binV_eql, binV_neq, binV_lss, binV_leq, binV_gtr, binV_geq, unV_not, Bool.not_true, Bool.not_false, Bool.cond_true, Bool.cond_false, List.getElem?_toArray, List.getElem?_cons_zero, List.getElem?_cons_succ, ldv, stv, vcs, fldA, blt, lenV, List.size_toArray, List.length_cons, List.length_nil, Nat.zero_add, Array.getD_eq_getD_getElem?, List.getElem?_toArray, List.getElem?_cons_zero, List.getElem?_cons_succ, Option.getD_some, Option.isSome_some, Nat.add_assoc, List.toList_toArray, eq_self, Option.bind_some, List.append_assoc, List.cons_append, List.length_append, List.length_cons, List.length_nil, Nat.zero_add, Nat.add_zero, Nat.reduceAdd, Nat.reduceMul, Nat.reduceLeDiff, mset_some, mset_none, set_at, set_at0, killL_nil, killL_cons, getC_succ2, getC_succ3, getC_succ4, getC_succ5, getC_succ6, loadCs_succ2, loadCs_succ3, loadCs_succ4, loadCs_succ5, loadCs_succ6, setCs_succ2, setCs_succ3, setCs_succ4, setCs_succ5, setCs_succ6, getC_at, getC_at0, getC_zero, getC_succ, loadCs_at, loadCs_at0, loadCs_zero, loadCs_succ, setCs_at, setCs_at0, setCs_zero, setCs_succ, splice, List.set_cons_succ, List.set_cons_zero, List.getElem?_cons_zero, List.getElem?_cons_succ, List.drop_zero, List.drop_succ_cons, List.take_succ_cons, List.take_zero, newB, vcs, flat_int, flat_bool, flat_string, flat_slice, flat_pointer, flat_func, flat_nilFunc, List.all_cons, List.all_nil, Bool.and_true, Bool.and_self, Ty.ld3, Ty.sz3, Ty.zc3, Ty.by3, Ty.ld9, Ty.sz9, Ty.st9, Ty.zc9, Ty.by9, Ty.ld40, Ty.sz40, Ty.sl40, Ty.zc40, Ty.by40, Ty.ld51, Ty.sz51, Ty.zc51, Ty.by51, Ty.fl51_0, Ty.fl51_1, Ty.fl51_2, Store.cells_length, Store.cells_flat, Store.cells_take, Store.cells_splice, Store.get0, Store.get1, Store.get2, Store.set2, frV, frL, *]; rfl
         · exact rfl
         · simp
         skip)
      | (refine xe_alloc (z := ?_) ?_ ?_ (by exact rfl) ?_
         rotate_left 1
         · first | exact Ty.zc3 | exact Ty.zc9 | exact Ty.zc40 | exact Ty.zc51
         · decide)
      | (refine xe_cset (f := ?_) (fs := ?_) (cs := ?_) (args := ?_) (v := ?_) (id := ?_) (b := ?_) (b0 := ?_) ?_ ?_ ?_ (by decide +kernel) (by exact rfl) ?_ ?_ ?_ ?_ ?_
         rotate_left 8
         · simp only [ev]; rfl
         · first | with_reducible exact Ty.ok49 | with_reducible exact Ty.ok58
         · simp only [stp, ev, put_some, put_none, argT_list, List.getD_cons_zero, List.getD_cons_succ, reduceIte, Nat.reduceEqDiff, Option.map_some, Array.map_empty, List.map_toArray, List.map_cons, List.map_nil, List.append_toArray, Array.append_empty, Array.empty_append, List.nil_append, List.append_nil, and_self, if_true, decide_true, decide_false, Int.toNat_natCast, Int.natCast_nonneg, List.length_map, binV_add, binV_sub, binV_and, binV_shr, binV_shl, binV_str_eql, binV_str_neq, binV_mul, binV_eql, binV_neq, binV_lss, binV_leq, binV_gtr, binV_geq, unV_not, Bool.not_true, Bool.not_false, Bool.cond_true, Bool.cond_false, List.getElem?_toArray, List.getElem?_cons_zero, List.getElem?_cons_succ, ldv, stv, vcs, fldA, blt, lenV, List.size_toArray, List.length_cons, List.length_nil, Nat.zero_add, Array.getD_eq_getD_getElem?, List.getElem?_toArray, List.getElem?_cons_zero, List.getElem?_cons_succ, Option.getD_some, Option.isSome_some, Nat.add_assoc, List.toList_toArray, eq_self, Option.bind_some, List.append_assoc, List.cons_append, List.length_append, List.length_cons, List.length_nil, Nat.zero_add, Nat.add_zero, Nat.reduceAdd, Nat.reduceMul, Nat.reduceLeDiff, mset_some, mset_none, set_at, set_at0, killL_nil, killL_cons, getC_succ2, getC_succ3, getC_succ4, getC_succ5, getC_succ6, loadCs_succ2, loadCs_succ3, loadCs_succ4, loadCs_succ5, loadCs_succ6, setCs_succ2, setCs_succ3, setCs_succ4, setCs_succ5, setCs_succ6, getC_at, getC_at0, getC_zero, getC_succ, loadCs_at, loadCs_at0, loadCs_zero, loadCs_succ, setCs_at, setCs_at0, setCs_zero, setCs_succ, splice, List.set_cons_succ, List.set_cons_zero, List.getElem?_cons_zero, List.getElem?_cons_succ, List.drop_zero, List.drop_succ_cons, List.take_succ_cons, List.take_zero, newB, vcs, flat_int, flat_bool, flat_string, flat_slice, flat_pointer, flat_func, flat_nilFunc, List.all_cons, List.all_nil, Bool.and_true, Bool.and_self, Ty.ld3, Ty.sz3, Ty.zc3, Ty.by3, Ty.ld9, Ty.sz9, Ty.st9, Ty.zc9, Ty.by9, Ty.ld40, Ty.sz40, Ty.sl40, Ty.zc40, Ty.by40, Ty.ld51, Ty.sz51, Ty.zc51, Ty.by51, Ty.fl51_0, Ty.fl51_1, Ty.fl51_2, Store.cells_length, Store.cells_flat, Store.cells_take, Store.cells_splice, Store.get0, Store.get1, Store.get2, Store.set2, frV, frL, *]; rfl
         rotate_left 1
         · first
           | (with_reducible refine l17FrameE _ _ _ ?_ ?_
              · omega
              · omega
              )
           | (with_reducible refine l17ReadE _ _ ?_
              · omega
              )
         rotate_right 1
         · exact rfl
         · simp only [get_at, get_at0, List.append_assoc, List.cons_append]; rfl
         · simp [Cur.blk]
         skip)
      | (refine xe_pure (ids := []) (f := ?_) (fs := ?_) (cs := ?_) (args := ?_) (v := ?_) ?_ ?_ ?_ (by decide +kernel) (by exact rfl) (by exact rfl) ?_ ?_
         rotate_left 5
         · simp only [ev]; rfl
         · first | with_reducible exact Ty.ok49 | with_reducible exact Ty.ok58
         · simp only [stp, ev, put_some, put_none, argT_list, List.getD_cons_zero, List.getD_cons_succ, reduceIte, Nat.reduceEqDiff, Option.map_some, Array.map_empty, List.map_toArray, List.map_cons, List.map_nil, List.append_toArray, Array.append_empty, Array.empty_append, List.nil_append, List.append_nil, and_self, if_true, decide_true, decide_false, Int.toNat_natCast, Int.natCast_nonneg, List.length_map, binV_add, binV_sub, binV_and, binV_shr, binV_shl, binV_str_eql, binV_str_neq, binV_mul, binV_eql, binV_neq, binV_lss, binV_leq, binV_gtr, binV_geq, unV_not, Bool.not_true, Bool.not_false, Bool.cond_true, Bool.cond_false, List.getElem?_toArray, List.getElem?_cons_zero, List.getElem?_cons_succ, ldv, stv, vcs, fldA, blt, lenV, List.size_toArray, List.length_cons, List.length_nil, Nat.zero_add, Array.getD_eq_getD_getElem?, List.getElem?_toArray, List.getElem?_cons_zero, List.getElem?_cons_succ, Option.getD_some, Option.isSome_some, Nat.add_assoc, List.toList_toArray, eq_self, Option.bind_some, List.append_assoc, List.cons_append, List.length_append, List.length_cons, List.length_nil, Nat.zero_add, Nat.add_zero, Nat.reduceAdd, Nat.reduceMul, Nat.reduceLeDiff, mset_some, mset_none, set_at, set_at0, killL_nil, killL_cons, getC_succ2, getC_succ3, getC_succ4, getC_succ5, getC_succ6, loadCs_succ2, loadCs_succ3, loadCs_succ4, loadCs_succ5, loadCs_succ6, setCs_succ2, setCs_succ3, setCs_succ4, setCs_succ5, setCs_succ6, getC_at, getC_at0, getC_zero, getC_succ, loadCs_at, loadCs_at0, loadCs_zero, loadCs_succ, setCs_at, setCs_at0, setCs_zero, setCs_succ, splice, List.set_cons_succ, List.set_cons_zero, List.getElem?_cons_zero, List.getElem?_cons_succ, List.drop_zero, List.drop_succ_cons, List.take_succ_cons, List.take_zero, newB, vcs, flat_int, flat_bool, flat_string, flat_slice, flat_pointer, flat_func, flat_nilFunc, List.all_cons, List.all_nil, Bool.and_true, Bool.and_self, Ty.ld3, Ty.sz3, Ty.zc3, Ty.by3, Ty.ld9, Ty.sz9, Ty.st9, Ty.zc9, Ty.by9, Ty.ld40, Ty.sz40, Ty.sl40, Ty.zc40, Ty.by40, Ty.ld51, Ty.sz51, Ty.zc51, Ty.by51, Ty.fl51_0, Ty.fl51_1, Ty.fl51_2, Store.cells_length, Store.cells_flat, Store.cells_take, Store.cells_splice, Store.get0, Store.get1, Store.get2, Store.set2, frV, frL, *]; rfl
         · first
           | (with_reducible refine l17FrameE _ _ _ ?_ ?_
              · omega
              · omega
              )
           | (with_reducible refine l17ReadE _ _ ?_
              · omega
              )
         skip)
      | (refine xd_do (v := ?_) (by exact rfl) (by decide +kernel) ?_ ?_; rotate_left 1)
      | (refine aw_ift (by decide) ?_ ?_
         · simp only [ev, put_some, reduceIte, Nat.reduceEqDiff, *])
      | (refine aw_iff (by decide) ?_ ?_
         · simp only [ev, put_some, reduceIte, Nat.reduceEqDiff, *])
      | (refine aw_if (b := ?_) (by decide) ?_ (fun hb => ?_) (fun hb => ?_)
         rotate_left 1
         · simp only [ev, put_some, reduceIte, Nat.reduceEqDiff, *]; rfl)
      | (refine r_ret (vs := ?_) ?_ ?_
         rotate_left 1
         · simp only [resV, oneOf, stp, ev, put_some, put_none, argT_list, List.getD_cons_zero, List.getD_cons_succ, reduceIte, Nat.reduceEqDiff, Option.map_some, Array.map_empty, List.map_toArray, List.map_cons, List.map_nil, List.append_toArray, Array.append_empty, Array.empty_append, List.nil_append, List.append_nil, and_self, if_true, decide_true, decide_false, Int.toNat_natCast, Int.natCast_nonneg, List.length_map, binV_add, binV_sub, binV_and, binV_shr, binV_shl, binV_str_eql, binV_str_neq, binV_mul, binV_eql, binV_neq, binV_lss, binV_leq, binV_gtr, binV_geq, unV_not, Bool.not_true, Bool.not_false, Bool.cond_true, Bool.cond_false, List.getElem?_toArray, List.getElem?_cons_zero, List.getElem?_cons_succ, ldv, stv, vcs, fldA, blt, lenV, List.size_toArray, List.length_cons, List.length_nil, Nat.zero_add, Array.getD_eq_getD_getElem?, List.getElem?_toArray, List.getElem?_cons_zero, List.getElem?_cons_succ, Option.getD_some, Option.isSome_some, Nat.add_assoc, List.toList_toArray, eq_self, Option.bind_some, List.append_assoc, List.cons_append, List.length_append, List.length_cons, List.length_nil, Nat.zero_add, Nat.add_zero, Nat.reduceAdd, Nat.reduceMul, Nat.reduceLeDiff, mset_some, mset_none, set_at, set_at0, killL_nil, killL_cons, getC_succ2, getC_succ3, getC_succ4, getC_succ5, getC_succ6, loadCs_succ2, loadCs_succ3, loadCs_succ4, loadCs_succ5, loadCs_succ6, setCs_succ2, setCs_succ3, setCs_succ4, setCs_succ5, setCs_succ6, getC_at, getC_at0, getC_zero, getC_succ, loadCs_at, loadCs_at0, loadCs_zero, loadCs_succ, setCs_at, setCs_at0, setCs_zero, setCs_succ, splice, List.set_cons_succ, List.set_cons_zero, List.getElem?_cons_zero, List.getElem?_cons_succ, List.drop_zero, List.drop_succ_cons, List.take_succ_cons, List.take_zero, newB, vcs, flat_int, flat_bool, flat_string, flat_slice, flat_pointer, flat_func, flat_nilFunc, List.all_cons, List.all_nil, Bool.and_true, Bool.and_self, Ty.ld3, Ty.sz3, Ty.zc3, Ty.by3, Ty.ld9, Ty.sz9, Ty.st9, Ty.zc9, Ty.by9, Ty.ld40, Ty.sz40, Ty.sl40, Ty.zc40, Ty.by40, Ty.ld51, Ty.sz51, Ty.zc51, Ty.by51, Ty.fl51_0, Ty.fl51_1, Ty.fl51_2, Store.cells_length, Store.cells_flat, Store.cells_take, Store.cells_splice, Store.get0, Store.get1, Store.get2, Store.set2, frV, frL, *]; rfl)
      | (with_reducible refine l17FrameE _ _ _ ?_ ?_
         · first | omega | (simp only [List.length_nil]; omega)
         · first | omega | (simp only [List.length_nil]; omega)
         )
      | (with_reducible refine l17ReadE _ _ ?_
         · first | omega | (simp only [List.length_nil]; omega)
         )
      | ((with_reducible refine HkTag.mk (n := 49) ?_); rintro _ _ ⟨rfl, hh⟩; replace hh := hh.symm; subst hh)
      | ((with_reducible refine HkTag.mk (n := 58) ?_); rintro _ _ ⟨rfl, hh⟩; replace hh := hh.symm; subst hh)
      )
    all_goals first | exact ⟨rfl, _, rfl⟩ | trace_state
    all_goals sorry

/-- What PutFrame gives. -/
def pfV (s : Store) (t : ByteArray) : Value := if storeOk s = true then .tuple #[.agg (putS s t).cells.toArray, .int .i64 (putC s t), .bool true] else .tuple #[.agg Store.zero.cells.toArray, .int .i64 0, .bool false]
theorem pfV_af (s : Store) (t : ByteArray) : ∃ vs : Array Value, pfV s t = .tuple vs ∧ ∀ v, v ∈ vs → af v = true := by
  unfold pfV; split <;> exact ⟨_, rfl, by simp [af, af1, Store.cells, Store.zero]⟩

theorem implPutFrame_ok (s : Store) (t : ByteArray) (h : Heap) (ht : t.size ≤ 1048576) (hs : s.small) : ACalls Tryd.prog dE 33 #[.agg s.cells.toArray, .string t] h fun v h' => v = pfV s t ∧ h' = h := by
  refine acalls_pure (.inr (pfV_af s t)) ?_
  have hsm := hs
  cases hk : storeOk s
  all_goals
    simp only [pfV, hk, Bool.false_eq_true, if_false, if_true]
    refine acalls_fn Tryd.func33 rfl Tryd.ntmps33 (by simp) (by dsimp only [Tryd.f33]) ?_
  all_goals
    repeat' (first
      | ((with_reducible refine eq_go ?_); simp only [stp, ev, put_some, put_none, argT_list, List.getD_cons_zero, List.getD_cons_succ, reduceIte, Nat.reduceEqDiff, Option.map_some, Array.map_empty, List.map_toArray, List.map_cons, List.map_nil, List.append_toArray, Array.append_empty, Array.empty_append, List.nil_append, List.append_nil, and_self, if_true, decide_true, decide_false, Int.toNat_natCast, Int.natCast_nonneg, List.length_map, binV_add, binV_sub, binV_and, binV_shr, binV_shl, binV_str_eql, binV_str_neq, binV_mul, binV_eql, binV_neq, binV_lss, binV_leq, binV_gtr, binV_geq, unV_not, Bool.not_true, Bool.not_false, Bool.cond_true, Bool.cond_false, bld, fillL, vcs, splice, List.getElem?_toArray, List.getElem?_cons_zero, List.getElem?_cons_succ, true_and, List.getElem?_toArray, List.getElem?_cons_zero, List.getElem?_cons_succ, ldv, stv, vcs, blt, lenV, List.size_toArray, List.length_cons, List.length_nil, Nat.zero_add, Array.getD_eq_getD_getElem?, List.getElem?_toArray, List.getElem?_cons_zero, List.getElem?_cons_succ, Option.getD_some, Option.isSome_some, Nat.add_assoc, List.toList_toArray, eq_self, Option.bind_some, List.append_assoc, List.cons_append, List.length_append, List.length_cons, List.length_nil, Nat.zero_add, Nat.add_zero, Nat.reduceAdd, Nat.reduceMul, Nat.reduceLeDiff, mset_some, mset_none, set_at, set_at0, killL_nil, killL_cons, getC_succ2, getC_succ3, getC_succ4, getC_succ5, getC_succ6, loadCs_succ2, loadCs_succ3, loadCs_succ4, loadCs_succ5, loadCs_succ6, setCs_succ2, setCs_succ3, setCs_succ4, setCs_succ5, setCs_succ6, getC_at, getC_at0, getC_zero, getC_succ, loadCs_at, loadCs_at0, loadCs_zero, loadCs_succ, setCs_at, setCs_at0, setCs_zero, setCs_succ, splice, List.set_cons_succ, List.set_cons_zero, List.getElem?_cons_zero, List.getElem?_cons_succ, List.drop_zero, List.drop_succ_cons, List.take_succ_cons, List.take_zero, newB, vcs, flat_int, flat_bool, flat_string, flat_slice, flat_pointer, flat_func, flat_nilFunc, List.all_cons, List.all_nil, Bool.and_true, Bool.and_self, Ty.ld3, Ty.sz3, Ty.zc3, Ty.by3, Ty.ld9, Ty.sz9, Ty.st9, Ty.zc9, Ty.by9, Ty.ld51, Ty.sz51, Ty.zc51, Ty.by51, Ty.pl51, Store.cells_length, Store.cells_flat, Store.cells_take, Store.cells_splice, Store.cells_splice2, *]; rfl)
      | (with_reducible refine aw_then ?_) | (with_reducible refine aw_skip ?_) | (with_reducible refine aw_ret ?_) | (with_reducible refine aw_exit ?_) | (with_reducible refine aw_block ?_) | (with_reducible refine xr_reg (by decide +kernel) ?_)
      | (with_reducible refine xr_nil ?_) | (with_reducible refine k_norm ?_) | (with_reducible refine k_ret ?_) | (with_reducible refine k_exit ?_) | (with_reducible refine b_norm ?_) | (with_reducible refine b_ret ?_) | (with_reducible refine b_exit ?_) | (with_reducible refine b_past (by decide) ?_)
      | (refine xr_cl (f := ?_) (fs := ?_) (cs := ?_) (args := ?_) (K := ?_) ?_ ?_ ?_ ?_ ?_
         rotate_left 5
         · simp only [ev]; rfl
         first
         | (· with_reducible exact Ty.ok62
            rotate_left 2
            refine hk_tag 62 ?_
            rotate_right 2)
         | (· with_reducible exact Ty.ok64
            rotate_left 2
            refine hk_tag 64 ?_
            rotate_right 2)
         )
      | (refine xr_do (v := ?_) (h' := ?_) (by exact rfl) ?_ ?_; rotate_left 2)
      | (refine xr_st (v := ?_) (h' := ?_) (by exact rfl) ?_ ?_; rotate_left 2)
      | (refine aw_ift (by decide) ?_ ?_
         · simp only [ev, put_some, reduceIte, Nat.reduceEqDiff, *])
      | (refine aw_iff (by decide) ?_ ?_
         · simp only [ev, put_some, reduceIte, Nat.reduceEqDiff, *])
      | (refine aw_if (b := ?_) (by decide) ?_ (fun hb => ?_) (fun hb => ?_)
         rotate_left 1
         · simp only [ev, put_some, reduceIte, Nat.reduceEqDiff, *]; rfl)
      | (refine r_ret (vs := ?_) ?_ ?_
         rotate_left 1
         · simp only [resV, oneOf, stp, ev, put_some, put_none, argT_list, List.getD_cons_zero, List.getD_cons_succ, reduceIte, Nat.reduceEqDiff, Option.map_some, Array.map_empty, List.map_toArray, List.map_cons, List.map_nil, List.append_toArray, Array.append_empty, Array.empty_append, List.nil_append, List.append_nil, and_self, if_true, decide_true, decide_false, Int.toNat_natCast, Int.natCast_nonneg, List.length_map, binV_add, binV_sub, binV_and, binV_shr, binV_shl, binV_str_eql, binV_str_neq, binV_mul, binV_eql, binV_neq, binV_lss, binV_leq, binV_gtr, binV_geq, unV_not, Bool.not_true, Bool.not_false, Bool.cond_true, Bool.cond_false, bld, fillL, vcs, splice, List.getElem?_toArray, List.getElem?_cons_zero, List.getElem?_cons_succ, true_and, List.getElem?_toArray, List.getElem?_cons_zero, List.getElem?_cons_succ, ldv, stv, vcs, blt, lenV, List.size_toArray, List.length_cons, List.length_nil, Nat.zero_add, Array.getD_eq_getD_getElem?, List.getElem?_toArray, List.getElem?_cons_zero, List.getElem?_cons_succ, Option.getD_some, Option.isSome_some, Nat.add_assoc, List.toList_toArray, eq_self, Option.bind_some, List.append_assoc, List.cons_append, List.length_append, List.length_cons, List.length_nil, Nat.zero_add, Nat.add_zero, Nat.reduceAdd, Nat.reduceMul, Nat.reduceLeDiff, mset_some, mset_none, set_at, set_at0, killL_nil, killL_cons, getC_succ2, getC_succ3, getC_succ4, getC_succ5, getC_succ6, loadCs_succ2, loadCs_succ3, loadCs_succ4, loadCs_succ5, loadCs_succ6, setCs_succ2, setCs_succ3, setCs_succ4, setCs_succ5, setCs_succ6, getC_at, getC_at0, getC_zero, getC_succ, loadCs_at, loadCs_at0, loadCs_zero, loadCs_succ, setCs_at, setCs_at0, setCs_zero, setCs_succ, splice, List.set_cons_succ, List.set_cons_zero, List.getElem?_cons_zero, List.getElem?_cons_succ, List.drop_zero, List.drop_succ_cons, List.take_succ_cons, List.take_zero, newB, vcs, flat_int, flat_bool, flat_string, flat_slice, flat_pointer, flat_func, flat_nilFunc, List.all_cons, List.all_nil, Bool.and_true, Bool.and_self, Ty.ld3, Ty.sz3, Ty.zc3, Ty.by3, Ty.ld9, Ty.sz9, Ty.st9, Ty.zc9, Ty.by9, Ty.ld51, Ty.sz51, Ty.zc51, Ty.by51, Ty.pl51, Store.cells_length, Store.cells_flat, Store.cells_take, Store.cells_splice, Store.cells_splice2, *]; rfl)
      | (with_reducible refine isStore_ok _ _ ?_
         · first | assumption | exact hsm
         )
      | (with_reducible refine putFrame_ok _ _ _ ?_ ?_
         · assumption
         · assumption
         )
      | ((with_reducible refine HkTag.mk (n := 62) ?_); rintro _ _ ⟨rfl, hh⟩; replace hh := hh.symm; subst hh)
      | ((with_reducible refine HkTag.mk (n := 64) ?_); rintro _ _ ⟨rfl, hh⟩; replace hh := hh.symm; subst hh)
      )
  all_goals exact ⟨rfl, _, rfl⟩

theorem specPutFrame_ok (s : Store) (t : ByteArray) (h : Heap) (ht : t.size ≤ 1048576) (hs : s.small) : ACalls Tryd.prog dE 32 #[.agg s.cells.toArray, .string t] h fun v h' => v = pfV s t ∧ h' = h := by
  refine acalls_pure (.inr (pfV_af s t)) ?_
  have hsm := hs
  cases hk : storeOk s
  all_goals
    simp only [pfV, hk, Bool.false_eq_true, if_false, if_true]
    refine acalls_fn Tryd.func32 rfl Tryd.ntmps32 (by simp) (by dsimp only [Tryd.f32]) ?_
  all_goals
    repeat' (first
      | ((with_reducible refine eq_go ?_); simp only [stp, ev, put_some, put_none, argT_list, List.getD_cons_zero, List.getD_cons_succ, reduceIte, Nat.reduceEqDiff, Option.map_some, Array.map_empty, List.map_toArray, List.map_cons, List.map_nil, List.append_toArray, Array.append_empty, Array.empty_append, List.nil_append, List.append_nil, and_self, if_true, decide_true, decide_false, Int.toNat_natCast, Int.natCast_nonneg, List.length_map, binV_add, binV_sub, binV_and, binV_shr, binV_shl, binV_str_eql, binV_str_neq, binV_mul, binV_eql, binV_neq, binV_lss, binV_leq, binV_gtr, binV_geq, unV_not, Bool.not_true, Bool.not_false, Bool.cond_true, Bool.cond_false, bld, fillL, vcs, splice, List.getElem?_toArray, List.getElem?_cons_zero, List.getElem?_cons_succ, true_and, List.getElem?_toArray, List.getElem?_cons_zero, List.getElem?_cons_succ, ldv, stv, vcs, blt, lenV, List.size_toArray, List.length_cons, List.length_nil, Nat.zero_add, Array.getD_eq_getD_getElem?, List.getElem?_toArray, List.getElem?_cons_zero, List.getElem?_cons_succ, Option.getD_some, Option.isSome_some, Nat.add_assoc, List.toList_toArray, eq_self, Option.bind_some, List.append_assoc, List.cons_append, List.length_append, List.length_cons, List.length_nil, Nat.zero_add, Nat.add_zero, Nat.reduceAdd, Nat.reduceMul, Nat.reduceLeDiff, mset_some, mset_none, set_at, set_at0, killL_nil, killL_cons, getC_succ2, getC_succ3, getC_succ4, getC_succ5, getC_succ6, loadCs_succ2, loadCs_succ3, loadCs_succ4, loadCs_succ5, loadCs_succ6, setCs_succ2, setCs_succ3, setCs_succ4, setCs_succ5, setCs_succ6, getC_at, getC_at0, getC_zero, getC_succ, loadCs_at, loadCs_at0, loadCs_zero, loadCs_succ, setCs_at, setCs_at0, setCs_zero, setCs_succ, splice, List.set_cons_succ, List.set_cons_zero, List.getElem?_cons_zero, List.getElem?_cons_succ, List.drop_zero, List.drop_succ_cons, List.take_succ_cons, List.take_zero, newB, vcs, flat_int, flat_bool, flat_string, flat_slice, flat_pointer, flat_func, flat_nilFunc, List.all_cons, List.all_nil, Bool.and_true, Bool.and_self, Ty.ld3, Ty.sz3, Ty.zc3, Ty.by3, Ty.ld9, Ty.sz9, Ty.st9, Ty.zc9, Ty.by9, Ty.ld51, Ty.sz51, Ty.zc51, Ty.by51, Ty.pl51, Store.cells_length, Store.cells_flat, Store.cells_take, Store.cells_splice, Store.cells_splice2, *]; rfl)
      | (with_reducible refine aw_then ?_) | (with_reducible refine aw_skip ?_) | (with_reducible refine aw_ret ?_) | (with_reducible refine aw_exit ?_) | (with_reducible refine aw_block ?_) | (with_reducible refine xr_reg (by decide +kernel) ?_)
      | (with_reducible refine xr_nil ?_) | (with_reducible refine k_norm ?_) | (with_reducible refine k_ret ?_) | (with_reducible refine k_exit ?_) | (with_reducible refine b_norm ?_) | (with_reducible refine b_ret ?_) | (with_reducible refine b_exit ?_) | (with_reducible refine b_past (by decide) ?_)
      | (refine xr_cl (f := ?_) (fs := ?_) (cs := ?_) (args := ?_) (K := ?_) ?_ ?_ ?_ ?_ ?_
         rotate_left 5
         · simp only [ev]; rfl
         first
         | (· with_reducible exact Ty.ok61
            rotate_left 2
            refine hk_tag 61 ?_
            rotate_right 2)
         | (· with_reducible exact Ty.ok63
            rotate_left 2
            refine hk_tag 63 ?_
            rotate_right 2)
         )
      | (refine xr_do (v := ?_) (h' := ?_) (by exact rfl) ?_ ?_; rotate_left 2)
      | (refine xr_st (v := ?_) (h' := ?_) (by exact rfl) ?_ ?_; rotate_left 2)
      | (refine aw_ift (by decide) ?_ ?_
         · simp only [ev, put_some, reduceIte, Nat.reduceEqDiff, *])
      | (refine aw_iff (by decide) ?_ ?_
         · simp only [ev, put_some, reduceIte, Nat.reduceEqDiff, *])
      | (refine aw_if (b := ?_) (by decide) ?_ (fun hb => ?_) (fun hb => ?_)
         rotate_left 1
         · simp only [ev, put_some, reduceIte, Nat.reduceEqDiff, *]; rfl)
      | (refine r_ret (vs := ?_) ?_ ?_
         rotate_left 1
         · simp only [resV, oneOf, stp, ev, put_some, put_none, argT_list, List.getD_cons_zero, List.getD_cons_succ, reduceIte, Nat.reduceEqDiff, Option.map_some, Array.map_empty, List.map_toArray, List.map_cons, List.map_nil, List.append_toArray, Array.append_empty, Array.empty_append, List.nil_append, List.append_nil, and_self, if_true, decide_true, decide_false, Int.toNat_natCast, Int.natCast_nonneg, List.length_map, binV_add, binV_sub, binV_and, binV_shr, binV_shl, binV_str_eql, binV_str_neq, binV_mul, binV_eql, binV_neq, binV_lss, binV_leq, binV_gtr, binV_geq, unV_not, Bool.not_true, Bool.not_false, Bool.cond_true, Bool.cond_false, bld, fillL, vcs, splice, List.getElem?_toArray, List.getElem?_cons_zero, List.getElem?_cons_succ, true_and, List.getElem?_toArray, List.getElem?_cons_zero, List.getElem?_cons_succ, ldv, stv, vcs, blt, lenV, List.size_toArray, List.length_cons, List.length_nil, Nat.zero_add, Array.getD_eq_getD_getElem?, List.getElem?_toArray, List.getElem?_cons_zero, List.getElem?_cons_succ, Option.getD_some, Option.isSome_some, Nat.add_assoc, List.toList_toArray, eq_self, Option.bind_some, List.append_assoc, List.cons_append, List.length_append, List.length_cons, List.length_nil, Nat.zero_add, Nat.add_zero, Nat.reduceAdd, Nat.reduceMul, Nat.reduceLeDiff, mset_some, mset_none, set_at, set_at0, killL_nil, killL_cons, getC_succ2, getC_succ3, getC_succ4, getC_succ5, getC_succ6, loadCs_succ2, loadCs_succ3, loadCs_succ4, loadCs_succ5, loadCs_succ6, setCs_succ2, setCs_succ3, setCs_succ4, setCs_succ5, setCs_succ6, getC_at, getC_at0, getC_zero, getC_succ, loadCs_at, loadCs_at0, loadCs_zero, loadCs_succ, setCs_at, setCs_at0, setCs_zero, setCs_succ, splice, List.set_cons_succ, List.set_cons_zero, List.getElem?_cons_zero, List.getElem?_cons_succ, List.drop_zero, List.drop_succ_cons, List.take_succ_cons, List.take_zero, newB, vcs, flat_int, flat_bool, flat_string, flat_slice, flat_pointer, flat_func, flat_nilFunc, List.all_cons, List.all_nil, Bool.and_true, Bool.and_self, Ty.ld3, Ty.sz3, Ty.zc3, Ty.by3, Ty.ld9, Ty.sz9, Ty.st9, Ty.zc9, Ty.by9, Ty.ld51, Ty.sz51, Ty.zc51, Ty.by51, Ty.pl51, Store.cells_length, Store.cells_flat, Store.cells_take, Store.cells_splice, Store.cells_splice2, *]; rfl)
      | (with_reducible refine specGoodStore_ok _ _ ?_
         · first | assumption | exact hsm
         )
      | (with_reducible refine l17Put_ok _ _ _ ?_ ?_
         · assumption
         · assumption
         )
      | ((with_reducible refine HkTag.mk (n := 61) ?_); rintro _ _ ⟨rfl, hh⟩; replace hh := hh.symm; subst hh)
      | ((with_reducible refine HkTag.mk (n := 63) ?_); rintro _ _ ⟨rfl, hh⟩; replace hh := hh.symm; subst hh)
      )
  all_goals exact ⟨rfl, _, rfl⟩

theorem lawPutFrame_ok (s : Store) (t : ByteArray) (h : Heap) (hs : (s.sure.size : Int) ≤ 9223372036854775807 ∧ (s.later.size : Int) ≤ 9223372036854775807) (ht : t.size ≤ 9223372036854775807) : ACalls Tryd.prog dE 8 #[.agg s.cells.toArray, .string t] h fun v _ => v = .bool true := by
  by_cases c : 1048576 < t.size
  · have c' : (1048576 : Int) < (t.size : Int) := by omega
    refine acalls_fn Tryd.func8 rfl Tryd.ntmps8 (by simp) (by dsimp only [Tryd.f8]) ?_
    repeat' (first
      | ((with_reducible refine eq_go ?_); simp only [stp, ev, put_some, put_none, argT_list, List.getD_cons_zero, List.getD_cons_succ, reduceIte, Nat.reduceEqDiff, Option.map_some, Array.map_empty, List.map_toArray, List.map_cons, List.map_nil, List.append_toArray, Array.append_empty, Array.empty_append, List.nil_append, List.append_nil, and_self, if_true, decide_true, decide_false, Int.toNat_natCast, Int.natCast_nonneg, List.length_map, binV_add, binV_sub, binV_and, binV_shr, binV_shl, binV_str_eql, binV_str_neq, binV_mul, binV_eql, binV_neq, binV_lss, binV_leq, binV_gtr, binV_geq, unV_not, Bool.not_true, Bool.not_false, Bool.cond_true, Bool.cond_false, binV_bool_neq, binV_bool_eql, Ty.un4, List.getElem?_toArray, List.getElem?_cons_zero, List.getElem?_cons_succ, ldv, stv, vcs, blt, lenV, List.size_toArray, List.length_cons, List.length_nil, Nat.zero_add, Array.getD_eq_getD_getElem?, List.getElem?_toArray, List.getElem?_cons_zero, List.getElem?_cons_succ, Option.getD_some, Option.isSome_some, Nat.add_assoc, List.toList_toArray, eq_self, Option.bind_some, List.append_assoc, List.cons_append, List.length_append, List.length_cons, List.length_nil, Nat.zero_add, Nat.add_zero, Nat.reduceAdd, Nat.reduceMul, Nat.reduceLeDiff, mset_some, mset_none, set_at, set_at0, killL_nil, killL_cons, getC_succ2, getC_succ3, getC_succ4, getC_succ5, getC_succ6, loadCs_succ2, loadCs_succ3, loadCs_succ4, loadCs_succ5, loadCs_succ6, setCs_succ2, setCs_succ3, setCs_succ4, setCs_succ5, setCs_succ6, getC_at, getC_at0, getC_zero, getC_succ, loadCs_at, loadCs_at0, loadCs_zero, loadCs_succ, setCs_at, setCs_at0, setCs_zero, setCs_succ, splice, List.set_cons_succ, List.set_cons_zero, List.getElem?_cons_zero, List.getElem?_cons_succ, List.drop_zero, List.drop_succ_cons, List.take_succ_cons, List.take_zero, newB, vcs, flat_int, flat_bool, flat_string, flat_slice, flat_pointer, flat_func, flat_nilFunc, List.all_cons, List.all_nil, Bool.and_true, Bool.and_self, Ty.ld3, Ty.sz3, Ty.zc3, Ty.by3, Ty.ld4, Ty.sz4, Ty.zc4, Ty.by4, Ty.ld9, Ty.sz9, Ty.st9, Ty.zc9, Ty.by9, Ty.ld47, Ty.sz47, Ty.zc47, Ty.by47, Ty.ld51, Ty.sz51, Ty.zc51, Ty.by51, Store.cells_length, Store.cells_flat, Store.cells_take, Store.cells_splice, *]; rfl)
      | (with_reducible refine aw_then ?_) | (with_reducible refine aw_skip ?_) | (with_reducible refine aw_ret ?_) | (with_reducible refine aw_exit ?_) | (with_reducible refine aw_block ?_) | (with_reducible refine xr_reg (by decide +kernel) ?_)
      | (with_reducible refine xr_nil ?_) | (with_reducible refine k_norm ?_) | (with_reducible refine k_ret ?_) | (with_reducible refine k_exit ?_) | (with_reducible refine b_norm ?_) | (with_reducible refine b_ret ?_) | (with_reducible refine b_exit ?_) | (with_reducible refine b_past (by decide) ?_)
      | (refine xr_cl (f := ?_) (fs := ?_) (cs := ?_) (args := ?_) (K := ?_) ?_ ?_ ?_ ?_ ?_
         rotate_left 5
         · simp only [ev]; rfl
         first
         | (· with_reducible exact Ty.ok28
            rotate_left 2
            refine hk_tag 28 ?_
            rotate_right 2)
         | (· with_reducible exact Ty.ok30
            rotate_left 2
            refine hk_tag 30 ?_
            rotate_right 2)
         | (· with_reducible exact Ty.ok32
            rotate_left 2
            refine hk_tag 32 ?_
            rotate_right 2)
         | (· with_reducible exact Ty.ok33
            rotate_left 2
            refine hk_tag 33 ?_
            rotate_right 2)
         | (· with_reducible exact Ty.ok34
            rotate_left 2
            refine hk_tag 34 ?_
            rotate_right 2)
         )
      | (refine xr_gcl (f := ?_) (fs := ?_) (cs := ?_) (args := ?_) (K := ?_) (by exact rfl) ?_ ?_ ?_ ?_ ?_ ?_
         rotate_left 5
         · simp only [ev, put_some, reduceIte, Nat.reduceEqDiff, Bool.not_true, Bool.not_false, *]
         · simp only [ev]; rfl
         first
         | (· with_reducible exact Ty.ok28
            rotate_left 2
            refine hk_tag 28 ?_
            rotate_right 2)
         | (· with_reducible exact Ty.ok30
            rotate_left 2
            refine hk_tag 30 ?_
            rotate_right 2)
         | (· with_reducible exact Ty.ok32
            rotate_left 2
            refine hk_tag 32 ?_
            rotate_right 2)
         | (· with_reducible exact Ty.ok33
            rotate_left 2
            refine hk_tag 33 ?_
            rotate_right 2)
         | (· with_reducible exact Ty.ok34
            rotate_left 2
            refine hk_tag 34 ?_
            rotate_right 2)
         )
      | (refine xr_do (v := ?_) (h' := ?_) (by exact rfl) ?_ ?_; rotate_left 2)
      | (refine xr_st (v := ?_) (h' := ?_) (by exact rfl) ?_ ?_; rotate_left 2)
      | (refine xr_gdo (v := ?_) (h' := ?_) (by exact rfl) (by exact rfl) ?_ ?_ ?_
         rotate_left 2
         · simp only [ev, put_some, reduceIte, Nat.reduceEqDiff, Bool.not_true, Bool.not_false, *])
      | (refine xr_gst (v := ?_) (h' := ?_) (by exact rfl) (by exact rfl) ?_ ?_ ?_
         rotate_left 2
         · simp only [ev, put_some, reduceIte, Nat.reduceEqDiff, Bool.not_true, Bool.not_false, *])
      | (refine xr_goff (by exact rfl) ?_ ?_
         · simp only [ev, put_some, reduceIte, Nat.reduceEqDiff, Bool.not_true, Bool.not_false, *])
      | (refine xr_gsoff (by exact rfl) ?_ ?_
         · simp only [ev, put_some, reduceIte, Nat.reduceEqDiff, Bool.not_true, Bool.not_false, *])
      | (refine xr_gund (by exact rfl) ?_ ?_
         · simp only [ev, put_some, reduceIte, Nat.reduceEqDiff, Bool.not_true, Bool.not_false, *])
      | (refine xr_gsund (by exact rfl) ?_ ?_
         · simp only [ev, put_some, reduceIte, Nat.reduceEqDiff, Bool.not_true, Bool.not_false, *])
      | (refine xr_gif (b := ?_) (by exact rfl) ?_ (fun hb => ?_) (fun hb => ?_)
         rotate_left 1
         · simp only [ev, put_some, reduceIte, Nat.reduceEqDiff, Bool.not_true, Bool.not_false, *]; rfl)
      | (refine aw_ift (by decide) ?_ ?_
         · simp only [ev, put_some, reduceIte, Nat.reduceEqDiff, *])
      | (refine aw_iff (by decide) ?_ ?_
         · simp only [ev, put_some, reduceIte, Nat.reduceEqDiff, *])
      | (refine aw_if (b := ?_) (by decide) ?_ (fun hb => ?_) (fun hb => ?_)
         rotate_left 1
         · simp only [ev, put_some, reduceIte, Nat.reduceEqDiff, *]; rfl)
      | (refine r_ret (vs := ?_) ?_ ?_
         rotate_left 1
         · simp only [resV, ev, put_some, reduceIte, Nat.reduceEqDiff, Option.map_some, *]; rfl)
      | (with_reducible refine szStore_ok _ _ _ ?_ ?_
         · first | assumption | omega
         · first | omega | (simp only [List.length_nil]; omega)
         )
      | (with_reducible exact toStore_ok _ _)
      | (with_reducible refine specPutFrame_ok _ _ _ ?_ ?_
         · first | omega | (simp only [List.length_nil]; omega)
         · first | assumption | exact hsm
         )
      | (with_reducible refine implPutFrame_ok _ _ _ ?_ ?_
         · first | omega | (simp only [List.length_nil]; omega)
         · first | assumption | exact hsm
         )
      | (with_reducible exact eqStore_ok _ _ _)
      | ((with_reducible refine HkTag.mk (n := 28) ?_); rintro _ _ ⟨rfl, hh⟩; replace hh := hh.symm; subst hh)
      | ((with_reducible refine HkTag.mk (n := 30) ?_); rintro _ _ ⟨rfl, hh⟩; replace hh := hh.symm; subst hh)
      | ((with_reducible refine HkTag.mk (n := 32) ?_); rintro _ _ ⟨rfl, hh⟩; replace hh := hh.symm; subst hh)
      | ((with_reducible refine HkTag.mk (n := 33) ?_); rintro _ _ ⟨rfl, hh⟩; replace hh := hh.symm; subst hh)
      | ((with_reducible refine HkTag.mk (n := 34) ?_); rintro _ _ ⟨rfl, hh⟩; replace hh := hh.symm; subst hh)
      )
    rfl
  have c' : ¬ (1048576 : Int) < (t.size : Int) := by omega
  by_cases hz : szStoreM s 1048576 < 0
  · refine acalls_fn Tryd.func8 rfl Tryd.ntmps8 (by simp) (by dsimp only [Tryd.f8]) ?_
    repeat' (first
      | ((with_reducible refine eq_go ?_); simp only [stp, ev, put_some, put_none, argT_list, List.getD_cons_zero, List.getD_cons_succ, reduceIte, Nat.reduceEqDiff, Option.map_some, Array.map_empty, List.map_toArray, List.map_cons, List.map_nil, List.append_toArray, Array.append_empty, Array.empty_append, List.nil_append, List.append_nil, and_self, if_true, decide_true, decide_false, Int.toNat_natCast, Int.natCast_nonneg, List.length_map, binV_add, binV_sub, binV_and, binV_shr, binV_shl, binV_str_eql, binV_str_neq, binV_mul, binV_eql, binV_neq, binV_lss, binV_leq, binV_gtr, binV_geq, unV_not, Bool.not_true, Bool.not_false, Bool.cond_true, Bool.cond_false, binV_bool_neq, binV_bool_eql, Ty.un4, List.getElem?_toArray, List.getElem?_cons_zero, List.getElem?_cons_succ, ldv, stv, vcs, blt, lenV, List.size_toArray, List.length_cons, List.length_nil, Nat.zero_add, Array.getD_eq_getD_getElem?, List.getElem?_toArray, List.getElem?_cons_zero, List.getElem?_cons_succ, Option.getD_some, Option.isSome_some, Nat.add_assoc, List.toList_toArray, eq_self, Option.bind_some, List.append_assoc, List.cons_append, List.length_append, List.length_cons, List.length_nil, Nat.zero_add, Nat.add_zero, Nat.reduceAdd, Nat.reduceMul, Nat.reduceLeDiff, mset_some, mset_none, set_at, set_at0, killL_nil, killL_cons, getC_succ2, getC_succ3, getC_succ4, getC_succ5, getC_succ6, loadCs_succ2, loadCs_succ3, loadCs_succ4, loadCs_succ5, loadCs_succ6, setCs_succ2, setCs_succ3, setCs_succ4, setCs_succ5, setCs_succ6, getC_at, getC_at0, getC_zero, getC_succ, loadCs_at, loadCs_at0, loadCs_zero, loadCs_succ, setCs_at, setCs_at0, setCs_zero, setCs_succ, splice, List.set_cons_succ, List.set_cons_zero, List.getElem?_cons_zero, List.getElem?_cons_succ, List.drop_zero, List.drop_succ_cons, List.take_succ_cons, List.take_zero, newB, vcs, flat_int, flat_bool, flat_string, flat_slice, flat_pointer, flat_func, flat_nilFunc, List.all_cons, List.all_nil, Bool.and_true, Bool.and_self, Ty.ld3, Ty.sz3, Ty.zc3, Ty.by3, Ty.ld4, Ty.sz4, Ty.zc4, Ty.by4, Ty.ld9, Ty.sz9, Ty.st9, Ty.zc9, Ty.by9, Ty.ld47, Ty.sz47, Ty.zc47, Ty.by47, Ty.ld51, Ty.sz51, Ty.zc51, Ty.by51, Store.cells_length, Store.cells_flat, Store.cells_take, Store.cells_splice, *]; rfl)
      | (with_reducible refine aw_then ?_) | (with_reducible refine aw_skip ?_) | (with_reducible refine aw_ret ?_) | (with_reducible refine aw_exit ?_) | (with_reducible refine aw_block ?_) | (with_reducible refine xr_reg (by decide +kernel) ?_)
      | (with_reducible refine xr_nil ?_) | (with_reducible refine k_norm ?_) | (with_reducible refine k_ret ?_) | (with_reducible refine k_exit ?_) | (with_reducible refine b_norm ?_) | (with_reducible refine b_ret ?_) | (with_reducible refine b_exit ?_) | (with_reducible refine b_past (by decide) ?_)
      | (refine xr_cl (f := ?_) (fs := ?_) (cs := ?_) (args := ?_) (K := ?_) ?_ ?_ ?_ ?_ ?_
         rotate_left 5
         · simp only [ev]; rfl
         first
         | (· with_reducible exact Ty.ok28
            rotate_left 2
            refine hk_tag 28 ?_
            rotate_right 2)
         | (· with_reducible exact Ty.ok30
            rotate_left 2
            refine hk_tag 30 ?_
            rotate_right 2)
         | (· with_reducible exact Ty.ok32
            rotate_left 2
            refine hk_tag 32 ?_
            rotate_right 2)
         | (· with_reducible exact Ty.ok33
            rotate_left 2
            refine hk_tag 33 ?_
            rotate_right 2)
         | (· with_reducible exact Ty.ok34
            rotate_left 2
            refine hk_tag 34 ?_
            rotate_right 2)
         )
      | (refine xr_gcl (f := ?_) (fs := ?_) (cs := ?_) (args := ?_) (K := ?_) (by exact rfl) ?_ ?_ ?_ ?_ ?_ ?_
         rotate_left 5
         · simp only [ev, put_some, reduceIte, Nat.reduceEqDiff, Bool.not_true, Bool.not_false, *]
         · simp only [ev]; rfl
         first
         | (· with_reducible exact Ty.ok28
            rotate_left 2
            refine hk_tag 28 ?_
            rotate_right 2)
         | (· with_reducible exact Ty.ok30
            rotate_left 2
            refine hk_tag 30 ?_
            rotate_right 2)
         | (· with_reducible exact Ty.ok32
            rotate_left 2
            refine hk_tag 32 ?_
            rotate_right 2)
         | (· with_reducible exact Ty.ok33
            rotate_left 2
            refine hk_tag 33 ?_
            rotate_right 2)
         | (· with_reducible exact Ty.ok34
            rotate_left 2
            refine hk_tag 34 ?_
            rotate_right 2)
         )
      | (refine xr_do (v := ?_) (h' := ?_) (by exact rfl) ?_ ?_; rotate_left 2)
      | (refine xr_st (v := ?_) (h' := ?_) (by exact rfl) ?_ ?_; rotate_left 2)
      | (refine xr_gdo (v := ?_) (h' := ?_) (by exact rfl) (by exact rfl) ?_ ?_ ?_
         rotate_left 2
         · simp only [ev, put_some, reduceIte, Nat.reduceEqDiff, Bool.not_true, Bool.not_false, *])
      | (refine xr_gst (v := ?_) (h' := ?_) (by exact rfl) (by exact rfl) ?_ ?_ ?_
         rotate_left 2
         · simp only [ev, put_some, reduceIte, Nat.reduceEqDiff, Bool.not_true, Bool.not_false, *])
      | (refine xr_goff (by exact rfl) ?_ ?_
         · simp only [ev, put_some, reduceIte, Nat.reduceEqDiff, Bool.not_true, Bool.not_false, *])
      | (refine xr_gsoff (by exact rfl) ?_ ?_
         · simp only [ev, put_some, reduceIte, Nat.reduceEqDiff, Bool.not_true, Bool.not_false, *])
      | (refine xr_gund (by exact rfl) ?_ ?_
         · simp only [ev, put_some, reduceIte, Nat.reduceEqDiff, Bool.not_true, Bool.not_false, *])
      | (refine xr_gsund (by exact rfl) ?_ ?_
         · simp only [ev, put_some, reduceIte, Nat.reduceEqDiff, Bool.not_true, Bool.not_false, *])
      | (refine xr_gif (b := ?_) (by exact rfl) ?_ (fun hb => ?_) (fun hb => ?_)
         rotate_left 1
         · simp only [ev, put_some, reduceIte, Nat.reduceEqDiff, Bool.not_true, Bool.not_false, *]; rfl)
      | (refine aw_ift (by decide) ?_ ?_
         · simp only [ev, put_some, reduceIte, Nat.reduceEqDiff, *])
      | (refine aw_iff (by decide) ?_ ?_
         · simp only [ev, put_some, reduceIte, Nat.reduceEqDiff, *])
      | (refine aw_if (b := ?_) (by decide) ?_ (fun hb => ?_) (fun hb => ?_)
         rotate_left 1
         · simp only [ev, put_some, reduceIte, Nat.reduceEqDiff, *]; rfl)
      | (refine r_ret (vs := ?_) ?_ ?_
         rotate_left 1
         · simp only [resV, ev, put_some, reduceIte, Nat.reduceEqDiff, Option.map_some, *]; rfl)
      | (with_reducible refine szStore_ok _ _ _ ?_ ?_
         · first | assumption | omega
         · first | omega | (simp only [List.length_nil]; omega)
         )
      | (with_reducible exact toStore_ok _ _)
      | (with_reducible refine specPutFrame_ok _ _ _ ?_ ?_
         · first | omega | (simp only [List.length_nil]; omega)
         · first | assumption | exact hsm
         )
      | (with_reducible refine implPutFrame_ok _ _ _ ?_ ?_
         · first | omega | (simp only [List.length_nil]; omega)
         · first | assumption | exact hsm
         )
      | (with_reducible exact eqStore_ok _ _ _)
      | ((with_reducible refine HkTag.mk (n := 28) ?_); rintro _ _ ⟨rfl, hh⟩; replace hh := hh.symm; subst hh)
      | ((with_reducible refine HkTag.mk (n := 30) ?_); rintro _ _ ⟨rfl, hh⟩; replace hh := hh.symm; subst hh)
      | ((with_reducible refine HkTag.mk (n := 32) ?_); rintro _ _ ⟨rfl, hh⟩; replace hh := hh.symm; subst hh)
      | ((with_reducible refine HkTag.mk (n := 33) ?_); rintro _ _ ⟨rfl, hh⟩; replace hh := hh.symm; subst hh)
      | ((with_reducible refine HkTag.mk (n := 34) ?_); rintro _ _ ⟨rfl, hh⟩; replace hh := hh.symm; subst hh)
      )
    rfl
  have hsm := szStore_small hz
  cases hk : storeOk s
  all_goals
    refine acalls_fn Tryd.func8 rfl Tryd.ntmps8 (by simp) (by dsimp only [Tryd.f8]) ?_
  all_goals
    repeat' (first
      | ((with_reducible refine eq_go ?_); simp only [stp, ev, put_some, put_none, argT_list, List.getD_cons_zero, List.getD_cons_succ, reduceIte, Nat.reduceEqDiff, Option.map_some, Array.map_empty, List.map_toArray, List.map_cons, List.map_nil, List.append_toArray, Array.append_empty, Array.empty_append, List.nil_append, List.append_nil, and_self, if_true, decide_true, decide_false, Int.toNat_natCast, Int.natCast_nonneg, List.length_map, binV_add, binV_sub, binV_and, binV_shr, binV_shl, binV_str_eql, binV_str_neq, binV_mul, binV_eql, binV_neq, binV_lss, binV_leq, binV_gtr, binV_geq, unV_not, Bool.not_true, Bool.not_false, Bool.cond_true, Bool.cond_false, binV_bool_neq, binV_bool_eql, Ty.un4, List.getElem?_toArray, List.getElem?_cons_zero, List.getElem?_cons_succ, ldv, stv, vcs, blt, lenV, List.size_toArray, List.length_cons, List.length_nil, Nat.zero_add, Array.getD_eq_getD_getElem?, List.getElem?_toArray, List.getElem?_cons_zero, List.getElem?_cons_succ, Option.getD_some, Option.isSome_some, Nat.add_assoc, List.toList_toArray, eq_self, Option.bind_some, List.append_assoc, List.cons_append, List.length_append, List.length_cons, List.length_nil, Nat.zero_add, Nat.add_zero, Nat.reduceAdd, Nat.reduceMul, Nat.reduceLeDiff, mset_some, mset_none, set_at, set_at0, killL_nil, killL_cons, getC_succ2, getC_succ3, getC_succ4, getC_succ5, getC_succ6, loadCs_succ2, loadCs_succ3, loadCs_succ4, loadCs_succ5, loadCs_succ6, setCs_succ2, setCs_succ3, setCs_succ4, setCs_succ5, setCs_succ6, getC_at, getC_at0, getC_zero, getC_succ, loadCs_at, loadCs_at0, loadCs_zero, loadCs_succ, setCs_at, setCs_at0, setCs_zero, setCs_succ, splice, List.set_cons_succ, List.set_cons_zero, List.getElem?_cons_zero, List.getElem?_cons_succ, List.drop_zero, List.drop_succ_cons, List.take_succ_cons, List.take_zero, newB, vcs, flat_int, flat_bool, flat_string, flat_slice, flat_pointer, flat_func, flat_nilFunc, List.all_cons, List.all_nil, Bool.and_true, Bool.and_self, Ty.ld3, Ty.sz3, Ty.zc3, Ty.by3, Ty.ld4, Ty.sz4, Ty.zc4, Ty.by4, Ty.ld9, Ty.sz9, Ty.st9, Ty.zc9, Ty.by9, Ty.ld47, Ty.sz47, Ty.zc47, Ty.by47, Ty.ld51, Ty.sz51, Ty.zc51, Ty.by51, Store.cells_length, Store.cells_flat, Store.cells_take, Store.cells_splice, Store.cells_splice2, pfV, Bool.false_eq_true, if_false, *]; rfl)
      | (with_reducible refine aw_then ?_) | (with_reducible refine aw_skip ?_) | (with_reducible refine aw_ret ?_) | (with_reducible refine aw_exit ?_) | (with_reducible refine aw_block ?_) | (with_reducible refine xr_reg (by decide +kernel) ?_)
      | (with_reducible refine xr_nil ?_) | (with_reducible refine k_norm ?_) | (with_reducible refine k_ret ?_) | (with_reducible refine k_exit ?_) | (with_reducible refine b_norm ?_) | (with_reducible refine b_ret ?_) | (with_reducible refine b_exit ?_) | (with_reducible refine b_past (by decide) ?_)
      | (refine xr_cl (f := ?_) (fs := ?_) (cs := ?_) (args := ?_) (K := ?_) ?_ ?_ ?_ ?_ ?_
         rotate_left 5
         · simp only [ev]; rfl
         first
         | (· with_reducible exact Ty.ok28
            rotate_left 2
            refine hk_tag 28 ?_
            rotate_right 2)
         | (· with_reducible exact Ty.ok30
            rotate_left 2
            refine hk_tag 30 ?_
            rotate_right 2)
         | (· with_reducible exact Ty.ok32
            rotate_left 2
            refine hk_tag 32 ?_
            rotate_right 2)
         | (· with_reducible exact Ty.ok33
            rotate_left 2
            refine hk_tag 33 ?_
            rotate_right 2)
         | (· with_reducible exact Ty.ok34
            rotate_left 2
            refine hk_tag 34 ?_
            rotate_right 2)
         )
      | (refine xr_gcl (f := ?_) (fs := ?_) (cs := ?_) (args := ?_) (K := ?_) (by exact rfl) ?_ ?_ ?_ ?_ ?_ ?_
         rotate_left 5
         · simp only [ev, put_some, reduceIte, Nat.reduceEqDiff, Bool.not_true, Bool.not_false, *]
         · simp only [ev]; rfl
         first
         | (· with_reducible exact Ty.ok28
            rotate_left 2
            refine hk_tag 28 ?_
            rotate_right 2)
         | (· with_reducible exact Ty.ok30
            rotate_left 2
            refine hk_tag 30 ?_
            rotate_right 2)
         | (· with_reducible exact Ty.ok32
            rotate_left 2
            refine hk_tag 32 ?_
            rotate_right 2)
         | (· with_reducible exact Ty.ok33
            rotate_left 2
            refine hk_tag 33 ?_
            rotate_right 2)
         | (· with_reducible exact Ty.ok34
            rotate_left 2
            refine hk_tag 34 ?_
            rotate_right 2)
         )
      | (refine xr_do (v := ?_) (h' := ?_) (by exact rfl) ?_ ?_; rotate_left 2)
      | (refine xr_st (v := ?_) (h' := ?_) (by exact rfl) ?_ ?_; rotate_left 2)
      | (refine xr_gdo (v := ?_) (h' := ?_) (by exact rfl) (by exact rfl) ?_ ?_ ?_
         rotate_left 2
         · simp only [ev, put_some, reduceIte, Nat.reduceEqDiff, Bool.not_true, Bool.not_false, *])
      | (refine xr_gst (v := ?_) (h' := ?_) (by exact rfl) (by exact rfl) ?_ ?_ ?_
         rotate_left 2
         · simp only [ev, put_some, reduceIte, Nat.reduceEqDiff, Bool.not_true, Bool.not_false, *])
      | (refine xr_goff (by exact rfl) ?_ ?_
         · simp only [ev, put_some, reduceIte, Nat.reduceEqDiff, Bool.not_true, Bool.not_false, *])
      | (refine xr_gsoff (by exact rfl) ?_ ?_
         · simp only [ev, put_some, reduceIte, Nat.reduceEqDiff, Bool.not_true, Bool.not_false, *])
      | (refine xr_gund (by exact rfl) ?_ ?_
         · simp only [ev, put_some, reduceIte, Nat.reduceEqDiff, Bool.not_true, Bool.not_false, *])
      | (refine xr_gsund (by exact rfl) ?_ ?_
         · simp only [ev, put_some, reduceIte, Nat.reduceEqDiff, Bool.not_true, Bool.not_false, *])
      | (refine xr_gif (b := ?_) (by exact rfl) ?_ (fun hb => ?_) (fun hb => ?_)
         rotate_left 1
         · simp only [ev, put_some, reduceIte, Nat.reduceEqDiff, Bool.not_true, Bool.not_false, *]; rfl)
      | (refine aw_ift (by decide) ?_ ?_
         · simp only [ev, put_some, reduceIte, Nat.reduceEqDiff, *])
      | (refine aw_iff (by decide) ?_ ?_
         · simp only [ev, put_some, reduceIte, Nat.reduceEqDiff, *])
      | (refine aw_if (b := ?_) (by decide) ?_ (fun hb => ?_) (fun hb => ?_)
         rotate_left 1
         · simp only [ev, put_some, reduceIte, Nat.reduceEqDiff, *]; rfl)
      | (refine r_ret (vs := ?_) ?_ ?_
         rotate_left 1
         · simp only [resV, ev, put_some, reduceIte, Nat.reduceEqDiff, Option.map_some, *]; rfl)
      | (with_reducible refine szStore_ok _ _ _ ?_ ?_
         · first | assumption | omega
         · first | omega | (simp only [List.length_nil]; omega)
         )
      | (with_reducible exact toStore_ok _ _)
      | (with_reducible refine specPutFrame_ok _ _ _ ?_ ?_
         · first | omega | (simp only [List.length_nil]; omega)
         · first | assumption | exact hsm
         )
      | (with_reducible refine implPutFrame_ok _ _ _ ?_ ?_
         · first | omega | (simp only [List.length_nil]; omega)
         · first | assumption | exact hsm
         )
      | (with_reducible exact eqStore_ok _ _ _)
      | ((with_reducible refine HkTag.mk (n := 28) ?_); rintro _ _ ⟨rfl, hh⟩; replace hh := hh.symm; subst hh)
      | ((with_reducible refine HkTag.mk (n := 30) ?_); rintro _ _ ⟨rfl, hh⟩; replace hh := hh.symm; subst hh)
      | ((with_reducible refine HkTag.mk (n := 32) ?_); rintro _ _ ⟨rfl, hh⟩; replace hh := hh.symm; subst hh)
      | ((with_reducible refine HkTag.mk (n := 33) ?_); rintro _ _ ⟨rfl, hh⟩; replace hh := hh.symm; subst hh)
      | ((with_reducible refine HkTag.mk (n := 34) ?_); rintro _ _ ⟨rfl, hh⟩; replace hh := hh.symm; subst hh)
      )
  all_goals first | rfl | (exfalso; simp at hb; done)
end Go.Proofs.YtkmenomglhddlaaDoor.Am

