/- Walks of the functions of a desk's items. Conditions: none. -/
import Derived.Test.YtiddnhhjlipebaaW1
namespace Go.Proofs.Ytiddnhhjlipebaa.Am
open Go Go.Proofs
set_option linter.unusedVariables false
set_option linter.unusedSimpArgs false
set_option maxRecDepth 100000
set_option maxHeartbeats 8000000

structure Item where
  cas : Int
  task : Int
  role : Int
  state : Int
  who : Int
  till : Int

def Item.cells (x : Item) : List Value := [.int .i64 x.cas, .int .i64 x.task, .int .i64 x.role, .int .i64 x.state, .int .i64 x.who, .int .i64 x.till]

theorem isOffer_ok (a b c : Int) (h : Heap) : ACalls Try.prog 0 135 #[.int .i64 a, .int .i64 b, .int .i64 c] h
    fun v h' => v = .bool (decide ((0 ≤ a ∧ a ≤ 9) ∧ (0 ≤ b ∧ b ≤ 5) ∧ (0 ≤ c ∧ c ≤ 3))) ∧ h' = h := by
  refine acalls_fn Try.func135 rfl Try.ntmps135 (by simp) (by dsimp only [Try.f135]) ?_
  repeat' (first
    | ((with_reducible refine eq_go ?_); simp only [stp, ev, put_some, put_none, argT_list, List.getD_cons_zero, List.getD_cons_succ, reduceIte, Nat.reduceEqDiff, Option.map_some, Array.map_empty, List.map_toArray, List.map_cons, List.map_nil, List.append_toArray, Array.append_empty, Array.empty_append, List.nil_append, List.append_nil, and_self, if_true, decide_true, decide_false, Int.toNat_natCast, Int.natCast_nonneg, List.length_map, binV_add, binV_sub, binV_and, binV_shr, binV_shl, binV_str_eql, binV_str_neq, binV_mul, binV_eql, binV_neq, binV_lss, binV_leq, binV_gtr, binV_geq, unV_not, Bool.not_true, Bool.not_false, Bool.cond_true, Bool.cond_false, blt, lenV, List.size_toArray, List.length_cons, List.length_nil, Nat.zero_add, Array.getD_eq_getD_getElem?, List.getElem?_toArray, List.getElem?_cons_zero, List.getElem?_cons_succ, Option.getD_some, Option.isSome_some, Ty.sz3, Ty.zc3, Ty.by3, *]; rfl)
    | (with_reducible refine aw_then ?_) | (with_reducible refine aw_skip ?_) | (with_reducible refine aw_ret ?_) | (with_reducible refine aw_exit ?_) | (with_reducible refine aw_block ?_) | (with_reducible refine xr_reg (by decide +kernel) ?_)
    | (with_reducible refine xr_nil ?_) | (with_reducible refine k_norm ?_) | (with_reducible refine k_ret ?_) | (with_reducible refine k_exit ?_) | (with_reducible refine b_norm ?_) | (with_reducible refine b_ret ?_) | (with_reducible refine b_exit ?_) | (with_reducible refine b_past (by decide) ?_)
    | (refine xr_cl (f := ?_) (fs := ?_) (cs := ?_) (args := ?_) (K := ?_) ?_ ?_ ?_ ?_ ?_
       rotate_left 5
       · simp only [ev]; rfl
       first
       | (· with_reducible exact Ty.ok98
          rotate_left 2
          refine hk_tag 98 ?_
          rotate_right 2)
       )
    | (refine xr_gcl (f := ?_) (fs := ?_) (cs := ?_) (args := ?_) (K := ?_) (by exact rfl) ?_ ?_ ?_ ?_ ?_ ?_
       rotate_left 5
       · simp only [ev, put_some, reduceIte, Nat.reduceEqDiff, Bool.not_true, Bool.not_false, *]
       · simp only [ev]; rfl
       first
       | (· with_reducible exact Ty.ok98
          rotate_left 2
          refine hk_tag 98 ?_
          rotate_right 2)
       )
    | (refine xr_do (v := ?_) (h' := ?_) (by exact rfl) ?_ ?_; rotate_left 2)
    | (refine xr_st (v := ?_) (h' := ?_) (by exact rfl) ?_ ?_; rotate_left 2)
    | (refine xr_gdo (v := ?_) (h' := ?_) (by exact rfl) (by exact rfl) ?_ ?_ ?_
       rotate_left 2
       · simp only [ev, put_some, reduceIte, Nat.reduceEqDiff, Bool.not_true, Bool.not_false, *])
    | (refine xr_gst (v := ?_) (h' := ?_) (by exact rfl) (by exact rfl) ?_ ?_ ?_
       rotate_left 2
       · simp only [ev, put_some, reduceIte, Nat.reduceEqDiff, Bool.not_true, Bool.not_false, *])
    | (refine xr_goff (by exact rfl) ?_ ?_
       · simp only [ev, put_some, reduceIte, Nat.reduceEqDiff, Bool.not_true, Bool.not_false, *])
    | (refine xr_gsoff (by exact rfl) ?_ ?_
       · simp only [ev, put_some, reduceIte, Nat.reduceEqDiff, Bool.not_true, Bool.not_false, *])
    | (refine xr_gund (by exact rfl) ?_ ?_
       · simp only [ev, put_some, reduceIte, Nat.reduceEqDiff, Bool.not_true, Bool.not_false, *])
    | (refine xr_gsund (by exact rfl) ?_ ?_
       · simp only [ev, put_some, reduceIte, Nat.reduceEqDiff, Bool.not_true, Bool.not_false, *])
    | (refine xr_gif (b := ?_) (by exact rfl) ?_ (fun hb => ?_) (fun hb => ?_)
       rotate_left 1
       · simp only [ev, put_some, reduceIte, Nat.reduceEqDiff, Bool.not_true, Bool.not_false, *]; rfl)
    | (refine aw_ift (by decide) ?_ ?_
       · simp only [ev, put_some, reduceIte, Nat.reduceEqDiff, *])
    | (refine aw_iff (by decide) ?_ ?_
       · simp only [ev, put_some, reduceIte, Nat.reduceEqDiff, *])
    | (refine aw_if (b := ?_) (by decide) ?_ (fun hb => ?_) (fun hb => ?_)
       rotate_left 1
       · simp only [ev, put_some, reduceIte, Nat.reduceEqDiff, *]; rfl)
    | (refine r_ret (vs := ?_) ?_ ?_
       rotate_left 1
       · simp only [resV, ev, put_some, reduceIte, Nat.reduceEqDiff, Option.map_some, *]; rfl)
    | (with_reducible exact within_ok _ _ _ _)
    | ((with_reducible refine HkTag.mk (n := 98) ?_); rintro _ _ ⟨rfl, hh⟩; replace hh := hh.symm; subst hh)
    )
  all_goals refine ⟨?_, rfl⟩
  all_goals simp_all [oneOf]
  all_goals omega

theorem isPerson_ok (now who : Int) (people : List Int) (vp vi : Value) (h : Heap) (hp : Sl h vp 1 (people.map fun n => [.int .i64 n])) (hl : people.length ≤ 6) (hi : flat vi = true) :
    ACalls Try.prog 0 97 #[.agg #[.int .i64 now, vp, vi], .int .i64 who] h
    fun v h' => v = .bool (decide (0 ≤ who ∧ who ≤ (people.length : Int) - 1)) ∧ h' = h := by
  refine acalls_pure (.inl rfl) ?_
  obtain ⟨b, c, rfl, hc, hrow⟩ := hp
  refine acalls_fn Try.func97 rfl Try.ntmps97 (by simp) (by dsimp only [Try.f97]) ?_
  repeat' (first
    | ((with_reducible refine eq_go ?_); simp only [stp, ev, put_some, put_none, argT_list, List.getD_cons_zero, List.getD_cons_succ, reduceIte, Nat.reduceEqDiff, Option.map_some, Array.map_empty, List.map_toArray, List.map_cons, List.map_nil, List.append_toArray, Array.append_empty, Array.empty_append, List.nil_append, List.append_nil, and_self, if_true, decide_true, decide_false, Int.toNat_natCast, Int.natCast_nonneg, List.length_map, binV_add, binV_sub, binV_and, binV_shr, binV_shl, binV_str_eql, binV_str_neq, binV_mul, binV_eql, binV_neq, binV_lss, binV_leq, binV_gtr, binV_geq, unV_not, Bool.not_true, Bool.not_false, Bool.cond_true, Bool.cond_false, ldv, fldA, blt, lenV, List.size_toArray, List.length_cons, List.length_nil, Nat.zero_add, Array.getD_eq_getD_getElem?, List.getElem?_toArray, List.getElem?_cons_zero, List.getElem?_cons_succ, Option.getD_some, Option.isSome_some, Nat.add_assoc, List.toList_toArray, eq_self, Option.bind_some, List.append_assoc, List.cons_append, List.length_append, List.length_cons, List.length_nil, Nat.zero_add, Nat.add_zero, Nat.reduceAdd, Nat.reduceMul, Nat.reduceLeDiff, mset_some, mset_none, set_at, set_at0, killL_nil, killL_cons, getC_succ2, getC_succ3, getC_succ4, getC_succ5, getC_succ6, loadCs_succ2, loadCs_succ3, loadCs_succ4, loadCs_succ5, loadCs_succ6, setCs_succ2, setCs_succ3, setCs_succ4, setCs_succ5, setCs_succ6, getC_at, getC_at0, getC_zero, getC_succ, loadCs_at, loadCs_at0, loadCs_zero, loadCs_succ, setCs_at, setCs_at0, setCs_zero, setCs_succ, splice, List.set_cons_succ, List.set_cons_zero, List.getElem?_cons_zero, List.getElem?_cons_succ, List.drop_zero, List.drop_succ_cons, List.take_succ_cons, List.take_zero, newB, vcs, flat_int, flat_bool, flat_string, flat_slice, flat_pointer, flat_func, flat_nilFunc, List.all_cons, List.all_nil, Bool.and_true, Bool.and_self, Ty.ld3, Ty.sz3, Ty.zc3, Ty.by3, Ty.ld24, Ty.sz24, Ty.sl24, Ty.zc24, Ty.by24, Ty.ld56, Ty.sz56, Ty.sl56, Ty.zc56, Ty.by56, Ty.ld58, Ty.sz58, Ty.zc58, Ty.by58, Ty.fl58_0, Ty.fl58_1, Ty.fl58_2, Ty.ld77, Ty.sz77, Ty.zc77, Ty.by77, Ty.fl77_0, Ty.fl77_1, Ty.fl77_2, Ty.fl77_3, Ty.fl77_4, Ty.fl77_5, *]; rfl)
    | (with_reducible refine aw_then ?_) | (with_reducible refine aw_skip ?_) | (with_reducible refine aw_ret ?_) | (with_reducible refine aw_exit ?_) | (with_reducible refine aw_block ?_) | (with_reducible refine xr_reg (by decide +kernel) ?_)
    | (with_reducible refine xr_nil ?_) | (with_reducible refine k_norm ?_) | (with_reducible refine k_ret ?_) | (with_reducible refine k_exit ?_) | (with_reducible refine b_norm ?_) | (with_reducible refine b_ret ?_) | (with_reducible refine b_exit ?_) | (with_reducible refine b_past (by decide) ?_)
    | (refine xr_cl (f := ?_) (fs := ?_) (cs := ?_) (args := ?_) (K := ?_) ?_ ?_ ?_ ?_ ?_
       rotate_left 5
       · simp only [ev]; rfl
       first
       | (· with_reducible exact Ty.ok98
          rotate_left 2
          refine hk_tag 98 ?_
          rotate_right 2)
       )
    | (refine xr_do (v := ?_) (h' := ?_) (by exact rfl) ?_ ?_; rotate_left 2)
    | (refine xr_st (v := ?_) (h' := ?_) (by exact rfl) ?_ ?_; rotate_left 2)
    | (refine aw_ift (by decide) ?_ ?_
       · simp only [ev, put_some, reduceIte, Nat.reduceEqDiff, *])
    | (refine aw_iff (by decide) ?_ ?_
       · simp only [ev, put_some, reduceIte, Nat.reduceEqDiff, *])
    | (refine aw_if (b := ?_) (by decide) ?_ (fun hb => ?_) (fun hb => ?_)
       rotate_left 1
       · simp only [ev, put_some, reduceIte, Nat.reduceEqDiff, *]; rfl)
    | (refine r_ret (vs := ?_) ?_ ?_
       rotate_left 1
       · simp only [resV, ev, put_some, reduceIte, Nat.reduceEqDiff, Option.map_some, *]; rfl)
    | (with_reducible exact within_ok _ _ _ _)
    | ((with_reducible refine HkTag.mk (n := 98) ?_); rintro _ _ ⟨rfl, hh⟩; replace hh := hh.symm; subst hh)
    )
  refine ⟨?_, _, rfl⟩
  rw [wrap_id (by omega)]; rfl

def roleM (p role : Int) : Bool := decide (bits .and .i64 (p.fdiv (2 ^ min role.toNat IntKind.i64.bits)) 1 = 1)

theorem hasRole_ok (now who role : Int) (people : List Int) (vp vi : Value) (h : Heap) (hp : Sl h vp 1 (people.map fun n => [.int .i64 n])) (hi : flat vi = true)
    (hw : 0 ≤ who ∧ who ≤ (people.length : Int) - 1) (hr : 0 ≤ role) :
    ACalls Try.prog 0 99 #[.agg #[.int .i64 now, vp, vi], .int .i64 who, .int .i64 role] h
    fun v h' => v = .bool (roleM (people.getD who.toNat 0) role) ∧ h' = h := by
  refine acalls_pure (.inl rfl) ?_
  obtain ⟨k, rfl⟩ : ∃ k : Nat, who = k := ⟨who.toNat, by omega⟩
  have hk : k < people.length := by omega
  have hk1 : (k : Int) < people.length := by omega
  obtain ⟨b, c, rfl, hc, hrow⟩ := hp
  obtain ⟨a, rfl, hl⟩ := Sl.row hrow (k := k) (by simpa using hk)
  rw [List.getElem_map] at hl
  have hg := getC_old (getC_of_load hl)
  clear hrow
  refine acalls_fn Try.func99 rfl Try.ntmps99 (by simp) (by dsimp only [Try.f99]) ?_
  repeat' (first
    | ((with_reducible refine eq_go ?_); simp only [stp, ev, put_some, put_none, argT_list, List.getD_cons_zero, List.getD_cons_succ, reduceIte, Nat.reduceEqDiff, Option.map_some, Array.map_empty, List.map_toArray, List.map_cons, List.map_nil, List.append_toArray, Array.append_empty, Array.empty_append, List.nil_append, List.append_nil, and_self, if_true, decide_true, decide_false, Int.toNat_natCast, Int.natCast_nonneg, List.length_map, binV_add, binV_sub, binV_and, binV_shr, binV_shl, binV_str_eql, binV_str_neq, binV_mul, binV_eql, binV_neq, binV_lss, binV_leq, binV_gtr, binV_geq, unV_not, Bool.not_true, Bool.not_false, Bool.cond_true, Bool.cond_false, ldv, fldA, idxA, Nat.add_assoc, List.toList_toArray, eq_self, Option.bind_some, List.append_assoc, List.cons_append, List.length_append, List.length_cons, List.length_nil, Nat.zero_add, Nat.add_zero, Nat.reduceAdd, Nat.reduceMul, Nat.reduceLeDiff, mset_some, mset_none, set_at, set_at0, killL_nil, killL_cons, getC_succ2, getC_succ3, getC_succ4, getC_succ5, getC_succ6, loadCs_succ2, loadCs_succ3, loadCs_succ4, loadCs_succ5, loadCs_succ6, setCs_succ2, setCs_succ3, setCs_succ4, setCs_succ5, setCs_succ6, getC_at, getC_at0, getC_zero, getC_succ, loadCs_at, loadCs_at0, loadCs_zero, loadCs_succ, setCs_at, setCs_at0, setCs_zero, setCs_succ, splice, List.set_cons_succ, List.set_cons_zero, List.getElem?_cons_zero, List.getElem?_cons_succ, List.drop_zero, List.drop_succ_cons, List.take_succ_cons, List.take_zero, newB, vcs, flat_int, flat_bool, flat_string, flat_slice, flat_pointer, flat_func, flat_nilFunc, List.all_cons, List.all_nil, Bool.and_true, Bool.and_self, Ty.ld3, Ty.sz3, Ty.ld24, Ty.sz24, Ty.sl24, Ty.ld56, Ty.sz56, Ty.sl56, Ty.ld58, Ty.sz58, Ty.fl58_0, Ty.fl58_1, Ty.fl58_2, Ty.ld77, Ty.sz77, Ty.fl77_0, Ty.fl77_1, Ty.fl77_2, Ty.fl77_3, Ty.fl77_4, Ty.fl77_5, *]; rfl)
    | (with_reducible refine aw_then ?_) | (with_reducible refine aw_skip ?_) | (with_reducible refine aw_ret ?_) | (with_reducible refine aw_exit ?_) | (with_reducible refine aw_block ?_) | (with_reducible refine xr_reg (by decide +kernel) ?_)
    | (with_reducible refine xr_nil ?_) | (with_reducible refine k_norm ?_) | (with_reducible refine k_ret ?_) | (with_reducible refine k_exit ?_) | (with_reducible refine b_norm ?_) | (with_reducible refine b_ret ?_) | (with_reducible refine b_exit ?_) | (with_reducible refine b_past (by decide) ?_)
    | (refine xr_do (v := ?_) (h' := ?_) (by exact rfl) ?_ ?_; rotate_left 2)
    | (refine xr_st (v := ?_) (h' := ?_) (by exact rfl) ?_ ?_; rotate_left 2)
    | (refine aw_ift (by decide) ?_ ?_
       · simp only [ev, put_some, reduceIte, Nat.reduceEqDiff, *])
    | (refine aw_iff (by decide) ?_ ?_
       · simp only [ev, put_some, reduceIte, Nat.reduceEqDiff, *])
    | (refine aw_if (b := ?_) (by decide) ?_ (fun hb => ?_) (fun hb => ?_)
       rotate_left 1
       · simp only [ev, put_some, reduceIte, Nat.reduceEqDiff, *]; rfl)
    | (refine r_ret (vs := ?_) ?_ ?_
       rotate_left 1
       · simp only [resV, ev, put_some, reduceIte, Nat.reduceEqDiff, Option.map_some, *]; rfl)
    )
  refine ⟨?_, _, rfl⟩
  simp only [oneOf, roleM, Int.toNat_natCast, List.getD_eq_getElem?_getD, List.getElem?_eq_getElem hk, Option.getD_some]

def itemOk (now : Int) (people : List Int) (x : Item) : Bool :=
  decide ((0 ≤ x.cas ∧ x.cas ≤ 9) ∧ (0 ≤ x.task ∧ x.task ≤ 5) ∧ (0 ≤ x.role ∧ x.role ≤ 3)) &&
  (if x.state = 1 ∨ x.state = 5 then decide (x.who = -1 ∧ x.till = 0)
   else if x.state = 2 then decide (now + 1 ≤ x.till ∧ x.till ≤ now + 10) && (decide (0 ≤ x.who ∧ x.who ≤ (people.length : Int) - 1) && roleM (people.getD x.who.toNat 0) x.role)
   else if x.state = 3 ∨ x.state = 4 then decide (x.till = 0) && (decide (0 ≤ x.who ∧ x.who ≤ (people.length : Int) - 1) && roleM (people.getD x.who.toNat 0) x.role)
   else false)

theorem isItem_ok (now : Int) (people : List Int) (vp vi : Value) (x : Item) (h : Heap) (hp : Sl h vp 1 (people.map fun n => [.int .i64 n])) (hl : people.length ≤ 6) (hi : flat vi = true)
    (hn : 0 ≤ now ∧ now ≤ 10000) :
    ACalls Try.prog 0 123 #[.agg #[.int .i64 now, vp, vi], .agg x.cells.toArray] h
    fun v h' => v = .bool (itemOk now people x) ∧ h' = h := by
  refine acalls_pure (.inl rfl) ?_
  obtain ⟨cas, task, role, state, who, till⟩ := x
  have hf := hp.flat
  have hw1 : IntKind.i64.wrap (now + 1) = now + 1 := wrap_id (by omega)
  have hw2 : IntKind.i64.wrap (now + 10) = now + 10 := wrap_id (by omega)
  simp only [Item.cells]
  refine acalls_fn Try.func123 rfl Try.ntmps123 (by simp) (by dsimp only [Try.f123]) ?_
  repeat' (first
    | ((with_reducible refine eq_go ?_); simp only [stp, ev, put_some, put_none, argT_list, List.getD_cons_zero, List.getD_cons_succ, reduceIte, Nat.reduceEqDiff, Option.map_some, Array.map_empty, List.map_toArray, List.map_cons, List.map_nil, List.append_toArray, Array.append_empty, Array.empty_append, List.nil_append, List.append_nil, and_self, if_true, decide_true, decide_false, Int.toNat_natCast, Int.natCast_nonneg, List.length_map, binV_add, binV_sub, binV_and, binV_shr, binV_shl, binV_str_eql, binV_str_neq, binV_mul, binV_eql, binV_neq, binV_lss, binV_leq, binV_gtr, binV_geq, unV_not, Bool.not_true, Bool.not_false, Bool.cond_true, Bool.cond_false, ldv, fldA, blt, lenV, List.size_toArray, List.length_cons, List.length_nil, Nat.zero_add, Array.getD_eq_getD_getElem?, List.getElem?_toArray, List.getElem?_cons_zero, List.getElem?_cons_succ, Option.getD_some, Option.isSome_some, Nat.add_assoc, List.toList_toArray, eq_self, Option.bind_some, List.append_assoc, List.cons_append, List.length_append, List.length_cons, List.length_nil, Nat.zero_add, Nat.add_zero, Nat.reduceAdd, Nat.reduceMul, Nat.reduceLeDiff, mset_some, mset_none, set_at, set_at0, killL_nil, killL_cons, getC_succ2, getC_succ3, getC_succ4, getC_succ5, getC_succ6, loadCs_succ2, loadCs_succ3, loadCs_succ4, loadCs_succ5, loadCs_succ6, setCs_succ2, setCs_succ3, setCs_succ4, setCs_succ5, setCs_succ6, getC_at, getC_at0, getC_zero, getC_succ, loadCs_at, loadCs_at0, loadCs_zero, loadCs_succ, setCs_at, setCs_at0, setCs_zero, setCs_succ, splice, List.set_cons_succ, List.set_cons_zero, List.getElem?_cons_zero, List.getElem?_cons_succ, List.drop_zero, List.drop_succ_cons, List.take_succ_cons, List.take_zero, newB, vcs, flat_int, flat_bool, flat_string, flat_slice, flat_pointer, flat_func, flat_nilFunc, List.all_cons, List.all_nil, Bool.and_true, Bool.and_self, Ty.ld3, Ty.sz3, Ty.zc3, Ty.by3, Ty.ld24, Ty.sz24, Ty.sl24, Ty.zc24, Ty.by24, Ty.ld56, Ty.sz56, Ty.sl56, Ty.zc56, Ty.by56, Ty.ld58, Ty.sz58, Ty.zc58, Ty.by58, Ty.fl58_0, Ty.fl58_1, Ty.fl58_2, Ty.ld77, Ty.sz77, Ty.zc77, Ty.by77, Ty.fl77_0, Ty.fl77_1, Ty.fl77_2, Ty.fl77_3, Ty.fl77_4, Ty.fl77_5, *]; rfl)
    | (with_reducible refine aw_then ?_) | (with_reducible refine aw_skip ?_) | (with_reducible refine aw_ret ?_) | (with_reducible refine aw_exit ?_) | (with_reducible refine aw_block ?_) | (with_reducible refine xr_reg (by decide +kernel) ?_)
    | (with_reducible refine xr_nil ?_) | (with_reducible refine k_norm ?_) | (with_reducible refine k_ret ?_) | (with_reducible refine k_exit ?_) | (with_reducible refine b_norm ?_) | (with_reducible refine b_ret ?_) | (with_reducible refine b_exit ?_) | (with_reducible refine b_past (by decide) ?_)
    | (refine xr_cl (f := ?_) (fs := ?_) (cs := ?_) (args := ?_) (K := ?_) ?_ ?_ ?_ ?_ ?_
       rotate_left 5
       · simp only [ev]; rfl
       first
       | (· with_reducible exact Ty.ok97
          rotate_left 2
          refine hk_tag 97 ?_
          rotate_right 2)
       | (· with_reducible exact Ty.ok98
          rotate_left 2
          refine hk_tag 98 ?_
          rotate_right 2)
       | (· with_reducible exact Ty.ok99
          rotate_left 2
          refine hk_tag 99 ?_
          rotate_right 2)
       | (· with_reducible exact Ty.ok135
          rotate_left 2
          refine hk_tag 135 ?_
          rotate_right 2)
       )
    | (refine xr_gcl (f := ?_) (fs := ?_) (cs := ?_) (args := ?_) (K := ?_) (by exact rfl) ?_ ?_ ?_ ?_ ?_ ?_
       rotate_left 5
       · simp only [ev, put_some, reduceIte, Nat.reduceEqDiff, Bool.not_true, Bool.not_false, *]
       · simp only [ev]; rfl
       first
       | (· with_reducible exact Ty.ok97
          rotate_left 2
          refine hk_tag 97 ?_
          rotate_right 2)
       | (· with_reducible exact Ty.ok98
          rotate_left 2
          refine hk_tag 98 ?_
          rotate_right 2)
       | (· with_reducible exact Ty.ok99
          rotate_left 2
          refine hk_tag 99 ?_
          rotate_right 2)
       | (· with_reducible exact Ty.ok135
          rotate_left 2
          refine hk_tag 135 ?_
          rotate_right 2)
       )
    | (refine xr_do (v := ?_) (h' := ?_) (by exact rfl) ?_ ?_; rotate_left 2)
    | (refine xr_st (v := ?_) (h' := ?_) (by exact rfl) ?_ ?_; rotate_left 2)
    | (refine xr_gdo (v := ?_) (h' := ?_) (by exact rfl) (by exact rfl) ?_ ?_ ?_
       rotate_left 2
       · simp only [ev, put_some, reduceIte, Nat.reduceEqDiff, Bool.not_true, Bool.not_false, *])
    | (refine xr_gst (v := ?_) (h' := ?_) (by exact rfl) (by exact rfl) ?_ ?_ ?_
       rotate_left 2
       · simp only [ev, put_some, reduceIte, Nat.reduceEqDiff, Bool.not_true, Bool.not_false, *])
    | (refine xr_goff (by exact rfl) ?_ ?_
       · simp only [ev, put_some, reduceIte, Nat.reduceEqDiff, Bool.not_true, Bool.not_false, *])
    | (refine xr_gsoff (by exact rfl) ?_ ?_
       · simp only [ev, put_some, reduceIte, Nat.reduceEqDiff, Bool.not_true, Bool.not_false, *])
    | (refine xr_gund (by exact rfl) ?_ ?_
       · simp only [ev, put_some, reduceIte, Nat.reduceEqDiff, Bool.not_true, Bool.not_false, *])
    | (refine xr_gsund (by exact rfl) ?_ ?_
       · simp only [ev, put_some, reduceIte, Nat.reduceEqDiff, Bool.not_true, Bool.not_false, *])
    | (refine xr_gif (b := ?_) (by exact rfl) ?_ (fun hb => ?_) (fun hb => ?_)
       rotate_left 1
       · simp only [ev, put_some, reduceIte, Nat.reduceEqDiff, Bool.not_true, Bool.not_false, *]; rfl)
    | (refine aw_ift (by decide) ?_ ?_
       · simp only [ev, put_some, reduceIte, Nat.reduceEqDiff, *])
    | (refine aw_iff (by decide) ?_ ?_
       · simp only [ev, put_some, reduceIte, Nat.reduceEqDiff, *])
    | (refine aw_if (b := ?_) (by decide) ?_ (fun hb => ?_) (fun hb => ?_)
       rotate_left 1
       · simp only [ev, put_some, reduceIte, Nat.reduceEqDiff, *]; rfl)
    | (refine r_ret (vs := ?_) ?_ ?_
       rotate_left 1
       · simp only [resV, ev, put_some, reduceIte, Nat.reduceEqDiff, Option.map_some, *]; rfl)
    | (with_reducible refine isPerson_ok _ _ ?_ _ _ _ ?_ ?_ ?_
       rotate_left 1
       · first | assumption | exact Sl.old (by assumption) _
       · assumption
       · assumption
       )
    | (with_reducible exact within_ok _ _ _ _)
    | (with_reducible refine hasRole_ok _ _ _ ?_ _ _ _ ?_ ?_ ?_ ?_
       rotate_left 1
       · first | assumption | exact Sl.old (by assumption) _
       · assumption
       · grind
       · grind
       )
    | (with_reducible exact isOffer_ok _ _ _ _)
    | ((with_reducible refine HkTag.mk (n := 97) ?_); rintro _ _ ⟨rfl, hh⟩; replace hh := hh.symm; subst hh)
    | ((with_reducible refine HkTag.mk (n := 98) ?_); rintro _ _ ⟨rfl, hh⟩; replace hh := hh.symm; subst hh)
    | ((with_reducible refine HkTag.mk (n := 99) ?_); rintro _ _ ⟨rfl, hh⟩; replace hh := hh.symm; subst hh)
    | ((with_reducible refine HkTag.mk (n := 135) ?_); rintro _ _ ⟨rfl, hh⟩; replace hh := hh.symm; subst hh)
    )
  all_goals refine ⟨?_, _, rfl⟩
  all_goals clear hp hf hw1 hw2 hi
  all_goals simp only [oneOf, itemOk, Bool.not_eq_true', Bool.not_eq_false', decide_eq_true_eq, decide_eq_false_iff_not] at *
  all_goals first | (exfalso; omega) | skip
  all_goals simp [*]
  all_goals first | omega | (intros; exfalso; omega)
end Go.Proofs.Ytiddnhhjlipebaa.Am

