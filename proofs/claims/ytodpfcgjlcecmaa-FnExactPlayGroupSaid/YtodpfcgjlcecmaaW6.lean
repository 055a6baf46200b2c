/- Walk of the reference's test of a desk. Conditions: none. -/
import Derived.Test.YtodpfcgjlcecmaaW5
namespace Go.Proofs.Ytodpfcgjlcecmaa.Am
open Go Go.Proofs
set_option linter.unusedVariables false
set_option linter.unusedSimpArgs false
set_option maxRecDepth 100000
set_option maxHeartbeats 8000000

theorem Item.cells_splice (x : Item) (a b c d e f : Value) : splice [a, b, c, d, e, f] 0 x.cells = x.cells := rfl

theorem specGoodDesk_ok (now : Int) (people : List Int) (items : List Item) (vp vi : Value) (h : Heap) (hp : Sl h vp 1 (people.map fun n => [.int .i64 n])) (hi : Sl h vi 6 (items.map Item.cells))
    (hl : people.length ≤ 1048576) (hl2 : items.length ≤ 1048576) :
    ACalls Try.prog 0 39 #[.agg #[.int .i64 now, vp, vi]] h
    fun v h' => v = .bool (deskOk now people items) ∧ h' = h := by
  refine acalls_pure (.inl rfl) ?_
  have hf := hp.flat
  obtain ⟨b2, c2, rfl, hc2, hrow⟩ := hi
  simp only [List.length_map] at ⊢
  refine acalls_fn Try.func39 rfl Try.ntmps39 (by simp) (by dsimp only [Try.f39]) ?_
  repeat' (first
    | ((with_reducible refine eq_go ?_); simp only [stp, ev, put_some, put_none, argT_list, List.getD_cons_zero, List.getD_cons_succ, reduceIte, Nat.reduceEqDiff, Option.map_some, Array.map_empty, List.map_toArray, List.map_cons, List.map_nil, List.append_toArray, Array.append_empty, Array.empty_append, List.nil_append, List.append_nil, and_self, if_true, decide_true, decide_false, Int.toNat_natCast, Int.natCast_nonneg, List.length_map, binV_add, binV_sub, binV_and, binV_shr, binV_shl, binV_str_eql, binV_str_neq, binV_mul, binV_eql, binV_neq, binV_lss, binV_leq, binV_gtr, binV_geq, unV_not, Bool.not_true, Bool.not_false, Bool.cond_true, Bool.cond_false, ldv, stv, vcs, fldA, idxA, blt, lenV, List.size_toArray, List.length_cons, List.length_nil, Nat.zero_add, Array.getD_eq_getD_getElem?, List.getElem?_toArray, List.getElem?_cons_zero, List.getElem?_cons_succ, Option.getD_some, Option.isSome_some, Nat.add_assoc, List.toList_toArray, eq_self, Option.bind_some, List.append_assoc, List.cons_append, List.length_append, List.length_cons, List.length_nil, Nat.zero_add, Nat.add_zero, Nat.reduceAdd, Nat.reduceMul, Nat.reduceLeDiff, mset_some, mset_none, set_at, set_at0, getC_at, getC_at0, getC_zero, getC_succ, loadCs_at, loadCs_at0, loadCs_zero, loadCs_succ, setCs_at, setCs_at0, setCs_zero, setCs_succ, splice, List.set_cons_succ, List.set_cons_zero, List.getElem?_cons_zero, List.getElem?_cons_succ, List.drop_zero, List.drop_succ_cons, List.take_succ_cons, List.take_zero, newB, vcs, flat_int, flat_bool, flat_string, flat_slice, flat_pointer, flat_func, flat_nilFunc, List.all_cons, List.all_nil, Bool.and_true, Bool.and_self, Ty.ld3, Ty.sz3, Ty.zc3, Ty.by3, Ty.ld24, Ty.sz24, Ty.sl24, Ty.zc24, Ty.by24, Ty.ld56, Ty.sz56, Ty.sl56, Ty.zc56, Ty.by56, Ty.ld58, Ty.sz58, Ty.zc58, Ty.by58, Ty.fl58_0, Ty.fl58_1, Ty.fl58_2, Ty.ld77, Ty.sz77, Ty.zc77, Ty.by77, Ty.fl77_0, Ty.fl77_1, Ty.fl77_2, Ty.fl77_3, Ty.fl77_4, Ty.fl77_5, *]; rfl)
    | (with_reducible refine aw_then ?_) | (with_reducible refine aw_skip ?_) | (with_reducible refine aw_ret ?_) | (with_reducible refine aw_exit ?_) | (with_reducible refine aw_block ?_) | (with_reducible refine xr_reg (by decide +kernel) ?_)
    | (with_reducible refine xr_nil ?_) | (with_reducible refine k_norm ?_) | (with_reducible refine k_ret ?_) | (with_reducible refine k_exit ?_) | (with_reducible refine b_norm ?_) | (with_reducible refine b_ret ?_) | (with_reducible refine b_exit ?_) | (with_reducible refine b_past (by decide) ?_)
    | (refine xr_cl (f := ?_) (fs := ?_) (cs := ?_) (args := ?_) (K := ?_) ?_ ?_ ?_ ?_ ?_
       rotate_left 5
       · simp only [ev]; rfl
       · first | with_reducible exact Ty.ok78 | with_reducible exact Ty.ok85 | with_reducible exact Ty.ok86)
    | (refine xr_gcl (f := ?_) (fs := ?_) (cs := ?_) (args := ?_) (K := ?_) (by exact rfl) ?_ ?_ ?_ ?_ ?_ ?_
       rotate_left 5
       · simp only [ev, put_some, reduceIte, Nat.reduceEqDiff, Bool.not_true, Bool.not_false, *]
       · simp only [ev]; rfl
       · first | with_reducible exact Ty.ok78 | with_reducible exact Ty.ok85 | with_reducible exact Ty.ok86)
    | (refine xr_do (v := ?_) (h' := ?_) (by exact rfl) ?_ ?_; rotate_left 2)
    | (refine xr_st (v := ?_) (h' := ?_) (by exact rfl) ?_ ?_; rotate_left 2)
    | (refine xr_gdo (v := ?_) (h' := ?_) (by exact rfl) (by exact rfl) ?_ ?_ ?_
       rotate_left 2
       · simp only [ev, put_some, reduceIte, Nat.reduceEqDiff, Bool.not_true, Bool.not_false, *])
    | (refine xr_gst (v := ?_) (h' := ?_) (by exact rfl) (by exact rfl) ?_ ?_ ?_
       rotate_left 2
       · simp only [ev, put_some, reduceIte, Nat.reduceEqDiff, Bool.not_true, Bool.not_false, *])
    | (refine xr_goff (by exact rfl) ?_ ?_
       · simp only [ev, put_some, reduceIte, Nat.reduceEqDiff, Bool.not_true, Bool.not_false, *])
    | (refine xr_gsoff (by exact rfl) ?_ ?_
       · simp only [ev, put_some, reduceIte, Nat.reduceEqDiff, Bool.not_true, Bool.not_false, *])
    | (refine xr_gund (by exact rfl) ?_ ?_
       · simp only [ev, put_some, reduceIte, Nat.reduceEqDiff, Bool.not_true, Bool.not_false, *])
    | (refine xr_gsund (by exact rfl) ?_ ?_
       · simp only [ev, put_some, reduceIte, Nat.reduceEqDiff, Bool.not_true, Bool.not_false, *])
    | (refine xr_gif (b := ?_) (by exact rfl) ?_ (fun hb => ?_) (fun hb => ?_)
       rotate_left 1
       · simp only [ev, put_some, reduceIte, Nat.reduceEqDiff, Bool.not_true, Bool.not_false, *]; rfl)
    | (refine aw_ift (by decide) ?_ ?_
       · simp only [ev, put_some, reduceIte, Nat.reduceEqDiff, *])
    | (refine aw_iff (by decide) ?_ ?_
       · simp only [ev, put_some, reduceIte, Nat.reduceEqDiff, *])
    | (refine aw_if (b := ?_) (by decide) ?_ (fun hb => ?_) (fun hb => ?_)
       rotate_left 1
       · simp only [ev, put_some, reduceIte, Nat.reduceEqDiff, *]; rfl)
    | (refine r_ret (vs := ?_) ?_ ?_
       rotate_left 1
       · simp only [resV, ev, put_some, reduceIte, Nat.reduceEqDiff, Option.map_some, *]; rfl)
    | (with_reducible exact l1In_ok _ _ _ _)
    | (with_reducible refine l16People_ok ?_ _ _ ?_ ?_
       rotate_left 1
       · first | assumption | exact Sl.old (by assumption) _
       · first | omega | (simp only [List.length_nil]; omega)
       )
    | (with_reducible refine l16Item_ok _ ?_ _ _ _ _ ?_ ?_ ?_ ?_
       rotate_left 1
       · first | assumption | exact Sl.old (by assumption) _
       · first | assumption | omega | grind
       · first | assumption | rfl
       · first | assumption | grind
       )
    | rintro _ _ ⟨rfl, rfl⟩
    )
  · refine ⟨?_, _, rfl⟩
    simp only [Bool.not_eq_true'] at hb
    simp only [oneOf, deskOk, hb, Bool.false_and]
  · refine ⟨?_, _, rfl⟩
    rename_i hb0
    simp only [Bool.not_eq_true', Bool.not_eq_false'] at hb hb0
    simp only [oneOf, deskOk, hb0, Bool.true_and, ← Bool.and_assoc, hb, Bool.false_and]
  · refine ⟨?_, _, rfl⟩
    have h40 : decide ((items.length : Int) ≤ 40) = false := by simp only [decide_eq_true_eq, decide_eq_false_iff_not] at hb ⊢; omega
    simp only [oneOf, deskOk, h40, Bool.false_and, Bool.and_false]
  refine aw_for [1, 22, 23] (fun k T h' => (∃ L, h' = h ++ (⟨2, 1, [.int .i64 now, vp, .slice b2 items.length c2]⟩ :: L)) ∧ T 24 = .int .i64 k ∧ (items.take k).all (itemOk now people) = true) items.length (k0 := 0) (Nat.zero_le _) ⟨⟨[], rfl⟩, rfl, rfl⟩ ?_
  rintro k T h' hk hR ⟨⟨L, rfl⟩, h11, hall⟩
  simp only [List.forall_mem_cons, List.not_mem_nil, false_implies, implies_true, and_true, stp, ev, put_some, put_none, argT_list, List.getD_cons_zero, List.getD_cons_succ, reduceIte, Nat.reduceEqDiff, Option.map_some, Array.map_empty, List.map_toArray, List.map_cons, List.map_nil, List.append_toArray, Array.append_empty, Array.empty_append, List.nil_append, List.append_nil, and_self, if_true, decide_true, decide_false, Int.toNat_natCast, Int.natCast_nonneg, List.length_map, binV_add, binV_sub, binV_and, binV_shr, binV_shl, binV_str_eql, binV_str_neq, binV_mul, binV_eql, binV_neq, binV_lss, binV_leq, binV_gtr, binV_geq, unV_not, Bool.not_true, Bool.not_false, Bool.cond_true, Bool.cond_false] at hR
  rcases Nat.lt_or_ge k items.length with hkn | hkn
  · have h1 : (k : Int) < items.length := by omega
    obtain ⟨a, rfl, hld0⟩ := Sl.row hrow (k := k) (by simpa using hkn)
    rw [List.getElem_map] at hld0
    have hld := loadCs_old hld0
    repeat' (first
      | ((with_reducible refine eq_go ?_); simp only [stp, ev, put_some, put_none, argT_list, List.getD_cons_zero, List.getD_cons_succ, reduceIte, Nat.reduceEqDiff, Option.map_some, Array.map_empty, List.map_toArray, List.map_cons, List.map_nil, List.append_toArray, Array.append_empty, Array.empty_append, List.nil_append, List.append_nil, and_self, if_true, decide_true, decide_false, Int.toNat_natCast, Int.natCast_nonneg, List.length_map, binV_add, binV_sub, binV_and, binV_shr, binV_shl, binV_str_eql, binV_str_neq, binV_mul, binV_eql, binV_neq, binV_lss, binV_leq, binV_gtr, binV_geq, unV_not, Bool.not_true, Bool.not_false, Bool.cond_true, Bool.cond_false, ldv, stv, vcs, fldA, idxA, blt, lenV, List.size_toArray, List.length_cons, List.length_nil, Nat.zero_add, Array.getD_eq_getD_getElem?, List.getElem?_toArray, List.getElem?_cons_zero, List.getElem?_cons_succ, Option.getD_some, Option.isSome_some, Nat.add_assoc, List.toList_toArray, eq_self, Option.bind_some, List.append_assoc, List.cons_append, List.length_append, List.length_cons, List.length_nil, Nat.zero_add, Nat.add_zero, Nat.reduceAdd, Nat.reduceMul, Nat.reduceLeDiff, mset_some, mset_none, set_at, set_at0, getC_at, getC_at0, getC_zero, getC_succ, loadCs_at, loadCs_at0, loadCs_zero, loadCs_succ, setCs_at, setCs_at0, setCs_zero, setCs_succ, splice, List.set_cons_succ, List.set_cons_zero, List.getElem?_cons_zero, List.getElem?_cons_succ, List.drop_zero, List.drop_succ_cons, List.take_succ_cons, List.take_zero, newB, vcs, flat_int, flat_bool, flat_string, flat_slice, flat_pointer, flat_func, flat_nilFunc, List.all_cons, List.all_nil, Bool.and_true, Bool.and_self, Ty.ld3, Ty.sz3, Ty.zc3, Ty.by3, Ty.ld24, Ty.sz24, Ty.sl24, Ty.zc24, Ty.by24, Ty.ld56, Ty.sz56, Ty.sl56, Ty.zc56, Ty.by56, Ty.ld58, Ty.sz58, Ty.zc58, Ty.by58, Ty.fl58_0, Ty.fl58_1, Ty.fl58_2, Ty.ld77, Ty.sz77, Ty.zc77, Ty.by77, Ty.fl77_0, Ty.fl77_1, Ty.fl77_2, Ty.fl77_3, Ty.fl77_4, Ty.fl77_5, Item.cells_length, Item.cells_flat, Item.cells_take, Item.cells_splice, *]; rfl)
      | (with_reducible refine aw_then ?_) | (with_reducible refine aw_skip ?_) | (with_reducible refine aw_ret ?_) | (with_reducible refine aw_exit ?_) | (with_reducible refine aw_block ?_) | (with_reducible refine xr_reg (by decide +kernel) ?_)
      | (with_reducible refine xr_nil ?_) | (with_reducible refine k_norm ?_) | (with_reducible refine k_ret ?_) | (with_reducible refine k_exit ?_) | (with_reducible refine b_norm ?_) | (with_reducible refine b_ret ?_) | (with_reducible refine b_exit ?_) | (with_reducible refine b_past (by decide) ?_)
      | (refine xr_cl (f := ?_) (fs := ?_) (cs := ?_) (args := ?_) (K := ?_) ?_ ?_ ?_ ?_ ?_
         rotate_left 5
         · simp only [ev]; rfl
         · first | with_reducible exact Ty.ok78 | with_reducible exact Ty.ok85 | with_reducible exact Ty.ok86)
      | (refine xr_gcl (f := ?_) (fs := ?_) (cs := ?_) (args := ?_) (K := ?_) (by exact rfl) ?_ ?_ ?_ ?_ ?_ ?_
         rotate_left 5
         · simp only [ev, put_some, reduceIte, Nat.reduceEqDiff, Bool.not_true, Bool.not_false, *]
         · simp only [ev]; rfl
         · first | with_reducible exact Ty.ok78 | with_reducible exact Ty.ok85 | with_reducible exact Ty.ok86)
      | (refine xr_do (v := ?_) (h' := ?_) (by exact rfl) ?_ ?_; rotate_left 2)
      | (refine xr_st (v := ?_) (h' := ?_) (by exact rfl) ?_ ?_; rotate_left 2)
      | (refine xr_gdo (v := ?_) (h' := ?_) (by exact rfl) (by exact rfl) ?_ ?_ ?_
         rotate_left 2
         · simp only [ev, put_some, reduceIte, Nat.reduceEqDiff, Bool.not_true, Bool.not_false, *])
      | (refine xr_gst (v := ?_) (h' := ?_) (by exact rfl) (by exact rfl) ?_ ?_ ?_
         rotate_left 2
         · simp only [ev, put_some, reduceIte, Nat.reduceEqDiff, Bool.not_true, Bool.not_false, *])
      | (refine xr_goff (by exact rfl) ?_ ?_
         · simp only [ev, put_some, reduceIte, Nat.reduceEqDiff, Bool.not_true, Bool.not_false, *])
      | (refine xr_gsoff (by exact rfl) ?_ ?_
         · simp only [ev, put_some, reduceIte, Nat.reduceEqDiff, Bool.not_true, Bool.not_false, *])
      | (refine xr_gund (by exact rfl) ?_ ?_
         · simp only [ev, put_some, reduceIte, Nat.reduceEqDiff, Bool.not_true, Bool.not_false, *])
      | (refine xr_gsund (by exact rfl) ?_ ?_
         · simp only [ev, put_some, reduceIte, Nat.reduceEqDiff, Bool.not_true, Bool.not_false, *])
      | (refine xr_gif (b := ?_) (by exact rfl) ?_ (fun hb => ?_) (fun hb => ?_)
         rotate_left 1
         · simp only [ev, put_some, reduceIte, Nat.reduceEqDiff, Bool.not_true, Bool.not_false, *]; rfl)
      | (refine aw_ift (by decide) ?_ ?_
         · simp only [ev, put_some, reduceIte, Nat.reduceEqDiff, *])
      | (refine aw_iff (by decide) ?_ ?_
         · simp only [ev, put_some, reduceIte, Nat.reduceEqDiff, *])
      | (refine aw_if (b := ?_) (by decide) ?_ (fun hb => ?_) (fun hb => ?_)
         rotate_left 1
         · simp only [ev, put_some, reduceIte, Nat.reduceEqDiff, *]; rfl)
      | (refine r_ret (vs := ?_) ?_ ?_
         rotate_left 1
         · simp only [resV, ev, put_some, reduceIte, Nat.reduceEqDiff, Option.map_some, *]; rfl)
      | (with_reducible exact l1In_ok _ _ _ _)
      | (with_reducible refine l16People_ok ?_ _ _ ?_ ?_
         rotate_left 1
         · first | assumption | exact Sl.old (by assumption) _
         · first | omega | (simp only [List.length_nil]; omega)
         )
      | (with_reducible refine l16Item_ok _ ?_ _ _ _ _ ?_ ?_ ?_ ?_
         rotate_left 1
         · first | assumption | exact Sl.old (by assumption) _
         · first | assumption | omega | grind
         · first | assumption | rfl
         · first | assumption | grind
         )
      | rintro _ _ ⟨rfl, rfl⟩
      )
    · refine ⟨?_, _, rfl⟩
      have hx : items.all (itemOk now people) = false := List.all_eq_false.2 ⟨items[k], List.getElem_mem _, by simpa using hb⟩
      simp only [oneOf, deskOk, hx, Bool.and_false]
    refine ⟨by first | assumption | omega, ?_, ?_⟩
    · simp only [List.forall_mem_cons, List.not_mem_nil, false_implies, implies_true, and_true, and_self, stp, ev, put_some, put_none, argT_list, List.getD_cons_zero, List.getD_cons_succ, reduceIte, Nat.reduceEqDiff, Option.map_some, Array.map_empty, List.map_toArray, List.map_cons, List.map_nil, List.append_toArray, Array.append_empty, Array.empty_append, List.nil_append, List.append_nil, and_self, if_true, decide_true, decide_false, Int.toNat_natCast, Int.natCast_nonneg, List.length_map, binV_add, binV_sub, binV_and, binV_shr, binV_shl, binV_str_eql, binV_str_neq, binV_mul, binV_eql, binV_neq, binV_lss, binV_leq, binV_gtr, binV_geq, unV_not, Bool.not_true, Bool.not_false, Bool.cond_true, Bool.cond_false, *]
    refine ⟨⟨_, rfl⟩, ?_, ?_⟩
    · simp only [put_some, reduceIte, Nat.reduceEqDiff]
      rw [wrap_id (by omega)]; rfl
    · rw [← List.take_append_getElem hkn, List.all_append, hall]
      simpa using hb
  · have h1 : ¬ (k : Int) < items.length := by omega
    repeat' (first
      | ((with_reducible refine eq_go ?_); simp only [stp, ev, put_some, put_none, argT_list, List.getD_cons_zero, List.getD_cons_succ, reduceIte, Nat.reduceEqDiff, Option.map_some, Array.map_empty, List.map_toArray, List.map_cons, List.map_nil, List.append_toArray, Array.append_empty, Array.empty_append, List.nil_append, List.append_nil, and_self, if_true, decide_true, decide_false, Int.toNat_natCast, Int.natCast_nonneg, List.length_map, binV_add, binV_sub, binV_and, binV_shr, binV_shl, binV_str_eql, binV_str_neq, binV_mul, binV_eql, binV_neq, binV_lss, binV_leq, binV_gtr, binV_geq, unV_not, Bool.not_true, Bool.not_false, Bool.cond_true, Bool.cond_false, ldv, stv, vcs, fldA, idxA, blt, lenV, List.size_toArray, List.length_cons, List.length_nil, Nat.zero_add, Array.getD_eq_getD_getElem?, List.getElem?_toArray, List.getElem?_cons_zero, List.getElem?_cons_succ, Option.getD_some, Option.isSome_some, Nat.add_assoc, List.toList_toArray, eq_self, Option.bind_some, List.append_assoc, List.cons_append, List.length_append, List.length_cons, List.length_nil, Nat.zero_add, Nat.add_zero, Nat.reduceAdd, Nat.reduceMul, Nat.reduceLeDiff, mset_some, mset_none, set_at, set_at0, getC_at, getC_at0, getC_zero, getC_succ, loadCs_at, loadCs_at0, loadCs_zero, loadCs_succ, setCs_at, setCs_at0, setCs_zero, setCs_succ, splice, List.set_cons_succ, List.set_cons_zero, List.getElem?_cons_zero, List.getElem?_cons_succ, List.drop_zero, List.drop_succ_cons, List.take_succ_cons, List.take_zero, newB, vcs, flat_int, flat_bool, flat_string, flat_slice, flat_pointer, flat_func, flat_nilFunc, List.all_cons, List.all_nil, Bool.and_true, Bool.and_self, Ty.ld3, Ty.sz3, Ty.zc3, Ty.by3, Ty.ld24, Ty.sz24, Ty.sl24, Ty.zc24, Ty.by24, Ty.ld56, Ty.sz56, Ty.sl56, Ty.zc56, Ty.by56, Ty.ld58, Ty.sz58, Ty.zc58, Ty.by58, Ty.fl58_0, Ty.fl58_1, Ty.fl58_2, Ty.ld77, Ty.sz77, Ty.zc77, Ty.by77, Ty.fl77_0, Ty.fl77_1, Ty.fl77_2, Ty.fl77_3, Ty.fl77_4, Ty.fl77_5, Item.cells_length, Item.cells_flat, Item.cells_take, Item.cells_splice, *]; rfl)
      | (with_reducible refine aw_then ?_) | (with_reducible refine aw_skip ?_) | (with_reducible refine aw_ret ?_) | (with_reducible refine aw_exit ?_) | (with_reducible refine aw_block ?_) | (with_reducible refine xr_reg (by decide +kernel) ?_)
      | (with_reducible refine xr_nil ?_) | (with_reducible refine k_norm ?_) | (with_reducible refine k_ret ?_) | (with_reducible refine k_exit ?_) | (with_reducible refine b_norm ?_) | (with_reducible refine b_ret ?_) | (with_reducible refine b_exit ?_) | (with_reducible refine b_past (by decide) ?_)
      | (refine xr_cl (f := ?_) (fs := ?_) (cs := ?_) (args := ?_) (K := ?_) ?_ ?_ ?_ ?_ ?_
         rotate_left 5
         · simp only [ev]; rfl
         · first | with_reducible exact Ty.ok78 | with_reducible exact Ty.ok85 | with_reducible exact Ty.ok86)
      | (refine xr_gcl (f := ?_) (fs := ?_) (cs := ?_) (args := ?_) (K := ?_) (by exact rfl) ?_ ?_ ?_ ?_ ?_ ?_
         rotate_left 5
         · simp only [ev, put_some, reduceIte, Nat.reduceEqDiff, Bool.not_true, Bool.not_false, *]
         · simp only [ev]; rfl
         · first | with_reducible exact Ty.ok78 | with_reducible exact Ty.ok85 | with_reducible exact Ty.ok86)
      | (refine xr_do (v := ?_) (h' := ?_) (by exact rfl) ?_ ?_; rotate_left 2)
      | (refine xr_st (v := ?_) (h' := ?_) (by exact rfl) ?_ ?_; rotate_left 2)
      | (refine xr_gdo (v := ?_) (h' := ?_) (by exact rfl) (by exact rfl) ?_ ?_ ?_
         rotate_left 2
         · simp only [ev, put_some, reduceIte, Nat.reduceEqDiff, Bool.not_true, Bool.not_false, *])
      | (refine xr_gst (v := ?_) (h' := ?_) (by exact rfl) (by exact rfl) ?_ ?_ ?_
         rotate_left 2
         · simp only [ev, put_some, reduceIte, Nat.reduceEqDiff, Bool.not_true, Bool.not_false, *])
      | (refine xr_goff (by exact rfl) ?_ ?_
         · simp only [ev, put_some, reduceIte, Nat.reduceEqDiff, Bool.not_true, Bool.not_false, *])
      | (refine xr_gsoff (by exact rfl) ?_ ?_
         · simp only [ev, put_some, reduceIte, Nat.reduceEqDiff, Bool.not_true, Bool.not_false, *])
      | (refine xr_gund (by exact rfl) ?_ ?_
         · simp only [ev, put_some, reduceIte, Nat.reduceEqDiff, Bool.not_true, Bool.not_false, *])
      | (refine xr_gsund (by exact rfl) ?_ ?_
         · simp only [ev, put_some, reduceIte, Nat.reduceEqDiff, Bool.not_true, Bool.not_false, *])
      | (refine xr_gif (b := ?_) (by exact rfl) ?_ (fun hb => ?_) (fun hb => ?_)
         rotate_left 1
         · simp only [ev, put_some, reduceIte, Nat.reduceEqDiff, Bool.not_true, Bool.not_false, *]; rfl)
      | (refine aw_ift (by decide) ?_ ?_
         · simp only [ev, put_some, reduceIte, Nat.reduceEqDiff, *])
      | (refine aw_iff (by decide) ?_ ?_
         · simp only [ev, put_some, reduceIte, Nat.reduceEqDiff, *])
      | (refine aw_if (b := ?_) (by decide) ?_ (fun hb => ?_) (fun hb => ?_)
         rotate_left 1
         · simp only [ev, put_some, reduceIte, Nat.reduceEqDiff, *]; rfl)
      | (refine r_ret (vs := ?_) ?_ ?_
         rotate_left 1
         · simp only [resV, ev, put_some, reduceIte, Nat.reduceEqDiff, Option.map_some, *]; rfl)
      | (with_reducible exact l1In_ok _ _ _ _)
      | (with_reducible refine l16People_ok ?_ _ _ ?_ ?_
         rotate_left 1
         · first | assumption | exact Sl.old (by assumption) _
         · first | omega | (simp only [List.length_nil]; omega)
         )
      | (with_reducible refine l16Item_ok _ ?_ _ _ _ _ ?_ ?_ ?_ ?_
         rotate_left 1
         · first | assumption | exact Sl.old (by assumption) _
         · first | assumption | omega | grind
         · first | assumption | rfl
         · first | assumption | grind
         )
      | rintro _ _ ⟨rfl, rfl⟩
      )
    refine ⟨?_, _, rfl⟩
    rename_i q1 q2
    have q3 := hb
    rw [List.take_of_length_le hkn] at hall
    simp only [Bool.not_eq_false', decide_eq_false_iff_not] at q1 q2 q3
    have h40 : decide ((items.length : Int) ≤ 40) = true := by simp only [decide_eq_true_eq]; omega
    rw [Bool.and_eq_true] at q2
    simp only [oneOf, deskOk, h40, q1, q2.1, q2.2, hall, Bool.and_true]
end Go.Proofs.Ytodpfcgjlcecmaa.Am

