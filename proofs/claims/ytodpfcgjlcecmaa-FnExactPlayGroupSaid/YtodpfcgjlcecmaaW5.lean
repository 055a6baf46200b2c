/- Walks of the reference's test of an item and a desk. Conditions: none. -/
import Derived.Test.YtodpfcgjlcecmaaW4
namespace Go.Proofs.Ytodpfcgjlcecmaa.Am
open Go Go.Proofs
set_option linter.unusedVariables false
set_option linter.unusedSimpArgs false
set_option maxRecDepth 100000
set_option maxHeartbeats 8000000

theorem Item.get0 (x : Item) : x.cells[0]? = some (.int .i64 x.cas) := rfl
theorem Item.get1 (x : Item) : x.cells[1]? = some (.int .i64 x.task) := rfl
theorem Item.get2 (x : Item) : x.cells[2]? = some (.int .i64 x.role) := rfl
theorem Item.get3 (x : Item) : x.cells[3]? = some (.int .i64 x.state) := rfl
theorem Item.get4 (x : Item) : x.cells[4]? = some (.int .i64 x.who) := rfl
theorem Item.get5 (x : Item) : x.cells[5]? = some (.int .i64 x.till) := rfl

theorem l16Item_ok (now : Int) (people : List Int) (vp vi : Value) (x : Item) (h : Heap) (hp : Sl h vp 1 (people.map fun n => [.int .i64 n])) (hl : people.length ≤ 6) (hi : flat vi = true)
    (hn : 0 ≤ now ∧ now ≤ 10000) :
    ACalls Try.prog 0 86 #[.agg #[.int .i64 now, vp, vi], .agg x.cells.toArray] h
    fun v h' => v = .bool (itemOk now people x) ∧ h' = h := by
  refine acalls_pure (.inl rfl) ?_
  have hw1 : IntKind.i64.wrap (now + 1) = now + 1 := wrap_id (by omega)
  have hw2 : IntKind.i64.wrap (now + 10) = now + 10 := wrap_id (by omega)
  have hw3 : IntKind.i64.wrap ((people.length : Int) - 1) = (people.length : Int) - 1 := wrap_id (by omega)
  have hp' := hp
  obtain ⟨b, c, rfl, hc, hrow⟩ := hp
  simp only [List.length_map] at hp' ⊢
  clear hrow
  refine acalls_fn Try.func86 rfl Try.ntmps86 (by simp) (by dsimp only [Try.f86]) ?_
  repeat' (first
    | ((with_reducible refine eq_go ?_); simp only [stp, ev, put_some, put_none, argT_list, List.getD_cons_zero, List.getD_cons_succ, reduceIte, Nat.reduceEqDiff, Option.map_some, Array.map_empty, List.map_toArray, List.map_cons, List.map_nil, List.append_toArray, Array.append_empty, Array.empty_append, List.nil_append, List.append_nil, and_self, if_true, decide_true, decide_false, Int.toNat_natCast, Int.natCast_nonneg, List.length_map, binV_add, binV_sub, binV_and, binV_shr, binV_shl, binV_str_eql, binV_str_neq, binV_mul, binV_eql, binV_neq, binV_lss, binV_leq, binV_gtr, binV_geq, unV_not, Bool.not_true, Bool.not_false, Bool.cond_true, Bool.cond_false, ldv, fldA, blt, lenV, List.size_toArray, List.length_cons, List.length_nil, Nat.zero_add, Array.getD_eq_getD_getElem?, List.getElem?_toArray, List.getElem?_cons_zero, List.getElem?_cons_succ, Option.getD_some, Option.isSome_some, Nat.add_assoc, List.toList_toArray, eq_self, Option.bind_some, List.append_assoc, List.cons_append, List.length_append, List.length_cons, List.length_nil, Nat.zero_add, Nat.add_zero, Nat.reduceAdd, Nat.reduceMul, Nat.reduceLeDiff, mset_some, mset_none, set_at, set_at0, getC_at, getC_at0, getC_zero, getC_succ, loadCs_at, loadCs_at0, loadCs_zero, loadCs_succ, setCs_at, setCs_at0, setCs_zero, setCs_succ, splice, List.set_cons_succ, List.set_cons_zero, List.getElem?_cons_zero, List.getElem?_cons_succ, List.drop_zero, List.drop_succ_cons, List.take_succ_cons, List.take_zero, newB, vcs, flat_int, flat_bool, flat_string, flat_slice, flat_pointer, flat_func, flat_nilFunc, List.all_cons, List.all_nil, Bool.and_true, Bool.and_self, Ty.ld3, Ty.sz3, Ty.zc3, Ty.by3, Ty.ld24, Ty.sz24, Ty.sl24, Ty.zc24, Ty.by24, Ty.ld56, Ty.sz56, Ty.sl56, Ty.zc56, Ty.by56, Ty.ld58, Ty.sz58, Ty.zc58, Ty.by58, Ty.fl58_0, Ty.fl58_1, Ty.fl58_2, Ty.ld77, Ty.sz77, Ty.zc77, Ty.by77, Ty.fl77_0, Ty.fl77_1, Ty.fl77_2, Ty.fl77_3, Ty.fl77_4, Ty.fl77_5, Item.cells_length, Item.cells_flat, Item.cells_take, Item.get0, Item.get1, Item.get2, Item.get3, Item.get4, Item.get5, *]; rfl)
    | (with_reducible refine aw_then ?_) | (with_reducible refine aw_skip ?_) | (with_reducible refine aw_ret ?_) | (with_reducible refine aw_exit ?_) | (with_reducible refine aw_block ?_) | (with_reducible refine xr_reg (by decide +kernel) ?_)
    | (with_reducible refine xr_nil ?_) | (with_reducible refine k_norm ?_) | (with_reducible refine k_ret ?_) | (with_reducible refine k_exit ?_) | (with_reducible refine b_norm ?_) | (with_reducible refine b_ret ?_) | (with_reducible refine b_exit ?_) | (with_reducible refine b_past (by decide) ?_)
    | (refine xr_cl (f := ?_) (fs := ?_) (cs := ?_) (args := ?_) (K := ?_) ?_ ?_ ?_ ?_ ?_
       rotate_left 5
       · simp only [ev]; rfl
       · first | with_reducible exact Ty.ok78 | with_reducible exact Ty.ok90 | with_reducible exact Ty.ok112)
    | (refine xr_gcl (f := ?_) (fs := ?_) (cs := ?_) (args := ?_) (K := ?_) (by exact rfl) ?_ ?_ ?_ ?_ ?_ ?_
       rotate_left 5
       · simp only [ev, put_some, reduceIte, Nat.reduceEqDiff, Bool.not_true, Bool.not_false, *]
       · simp only [ev]; rfl
       · first | with_reducible exact Ty.ok78 | with_reducible exact Ty.ok90 | with_reducible exact Ty.ok112)
    | (refine xr_do (v := ?_) (h' := ?_) (by exact rfl) ?_ ?_; rotate_left 2)
    | (refine xr_st (v := ?_) (h' := ?_) (by exact rfl) ?_ ?_; rotate_left 2)
    | (refine xr_gdo (v := ?_) (h' := ?_) (by exact rfl) (by exact rfl) ?_ ?_ ?_
       rotate_left 2
       · simp only [ev, put_some, reduceIte, Nat.reduceEqDiff, Bool.not_true, Bool.not_false, *])
    | (refine xr_gst (v := ?_) (h' := ?_) (by exact rfl) (by exact rfl) ?_ ?_ ?_
       rotate_left 2
       · simp only [ev, put_some, reduceIte, Nat.reduceEqDiff, Bool.not_true, Bool.not_false, *])
    | (refine xr_goff (by exact rfl) ?_ ?_
       · simp only [ev, put_some, reduceIte, Nat.reduceEqDiff, Bool.not_true, Bool.not_false, *])
    | (refine xr_gsoff (by exact rfl) ?_ ?_
       · simp only [ev, put_some, reduceIte, Nat.reduceEqDiff, Bool.not_true, Bool.not_false, *])
    | (refine xr_gund (by exact rfl) ?_ ?_
       · simp only [ev, put_some, reduceIte, Nat.reduceEqDiff, Bool.not_true, Bool.not_false, *])
    | (refine xr_gsund (by exact rfl) ?_ ?_
       · simp only [ev, put_some, reduceIte, Nat.reduceEqDiff, Bool.not_true, Bool.not_false, *])
    | (refine xr_gif (b := ?_) (by exact rfl) ?_ (fun hb => ?_) (fun hb => ?_)
       rotate_left 1
       · simp only [ev, put_some, reduceIte, Nat.reduceEqDiff, Bool.not_true, Bool.not_false, *]; rfl)
    | (refine aw_ift (by decide) ?_ ?_
       · simp only [ev, put_some, reduceIte, Nat.reduceEqDiff, *])
    | (refine aw_iff (by decide) ?_ ?_
       · simp only [ev, put_some, reduceIte, Nat.reduceEqDiff, *])
    | (refine aw_if (b := ?_) (by decide) ?_ (fun hb => ?_) (fun hb => ?_)
       rotate_left 1
       · simp only [ev, put_some, reduceIte, Nat.reduceEqDiff, *]; rfl)
    | (refine r_ret (vs := ?_) ?_ ?_
       rotate_left 1
       · simp only [resV, ev, put_some, reduceIte, Nat.reduceEqDiff, Option.map_some, *]; rfl)
    | (with_reducible exact l1In_ok _ _ _ _)
    | (with_reducible refine l16Has_ok _ _ ?_ _ _ ?_ ?_ ?_
       rotate_left 1
       · first | assumption | exact Sl.old (by assumption) _
       · grind
       · grind
       )
    | (with_reducible exact l16Named_ok _ _)
    | rintro _ _ ⟨rfl, rfl⟩
    )
  all_goals refine ⟨?_, _, rfl⟩
  all_goals clear hp' hw1 hw2 hw3 hi
  all_goals simp only [oneOf, itemOk, Bool.not_eq_true', Bool.not_eq_false', decide_eq_true_eq, decide_eq_false_iff_not] at *
  all_goals first | (exfalso; omega) | skip
  all_goals simp [*]
  all_goals first | done | omega | (intros; exfalso; omega) | grind
end Go.Proofs.Ytodpfcgjlcecmaa.Am

