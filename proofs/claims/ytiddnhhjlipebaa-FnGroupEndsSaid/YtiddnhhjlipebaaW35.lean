/- What the law about groups needs besides: steps of any group, equality of groups, sizes of draws. Conditions: none. -/
import Derived.Test.YtiddnhhjlipebaaW34
import Derived.Test.YtiddnhhjlipebaaAmTy
import Derived.Test.YtiddnhhjlipebaaAmEq
namespace Go.Proofs.Ytiddnhhjlipebaa.Am
open Go Go.Proofs
set_option linter.unusedVariables false
set_option linter.unusedSimpArgs false
set_option maxRecDepth 100000
set_option maxHeartbeats 8000000

theorem specStepAll_ok (g : Grp) (k : Int) (h : Heap) : ACalls Try.prog 0 35 #[.agg g.cells.toArray, .int .i64 k] h fun v h' => v = stepV g k ∧ h' = h := by
  rcases Bool.eq_false_or_eq_true (goodG g) with hg | hg
  · simp only [stepV, hg, if_true]; exact specStepGroup_ok g k h hg
  · refine acalls_pure (.inr ?_) ?_
    · unfold stepV; split <;> exact ⟨_, rfl, by simp [af, af1, Grp.cells]⟩
    simp only [stepV, hg, Bool.false_eq_true, if_false]
    obtain ⟨a, b, c, d, e, f⟩ := g
    simp only [Grp.cells]
    refine acalls_fn Try.func35 rfl Try.ntmps35 (by simp) (by dsimp only [Try.f35]) ?_
    repeat' (first
      | ((with_reducible refine eq_go ?_); simp only [stp, ev, put_some, put_none, argT_list, List.getD_cons_zero, List.getD_cons_succ, reduceIte, Nat.reduceEqDiff, Option.map_some, Array.map_empty, List.map_toArray, List.map_cons, List.map_nil, List.append_toArray, Array.append_empty, Array.empty_append, List.nil_append, List.append_nil, and_self, if_true, decide_true, decide_false, Int.toNat_natCast, Int.natCast_nonneg, List.length_map, binV_add, binV_sub, binV_and, binV_shr, binV_shl, binV_str_eql, binV_str_neq, binV_mul, binV_eql, binV_neq, binV_lss, binV_leq, binV_gtr, binV_geq, unV_not, Bool.not_true, Bool.not_false, Bool.cond_true, Bool.cond_false, binV_bool_neq, binV_bool_eql, Ty.un4, bld, fillL, vcs, splice, List.getElem?_toArray, List.getElem?_cons_zero, List.getElem?_cons_succ, true_and, ldv, stv, vcs, fldA, blt, lenV, List.size_toArray, List.length_cons, List.length_nil, Nat.zero_add, Array.getD_eq_getD_getElem?, List.getElem?_toArray, List.getElem?_cons_zero, List.getElem?_cons_succ, Option.getD_some, Option.isSome_some, Nat.add_assoc, List.toList_toArray, eq_self, Option.bind_some, List.append_assoc, List.cons_append, List.length_append, List.length_cons, List.length_nil, Nat.zero_add, Nat.add_zero, Nat.reduceAdd, Nat.reduceMul, Nat.reduceLeDiff, mset_some, mset_none, set_at, set_at0, killL_nil, killL_cons, getC_succ2, getC_succ3, getC_succ4, getC_succ5, getC_succ6, loadCs_succ2, loadCs_succ3, loadCs_succ4, loadCs_succ5, loadCs_succ6, setCs_succ2, setCs_succ3, setCs_succ4, setCs_succ5, setCs_succ6, getC_at, getC_at0, getC_zero, getC_succ, loadCs_at, loadCs_at0, loadCs_zero, loadCs_succ, setCs_at, setCs_at0, setCs_zero, setCs_succ, splice, List.set_cons_succ, List.set_cons_zero, List.getElem?_cons_zero, List.getElem?_cons_succ, List.drop_zero, List.drop_succ_cons, List.take_succ_cons, List.take_zero, newB, vcs, flat_int, flat_bool, flat_string, flat_slice, flat_pointer, flat_func, flat_nilFunc, List.all_cons, List.all_nil, Bool.and_true, Bool.and_self, Ty.ld3, Ty.sz3, Ty.zc3, Ty.by3, Ty.ld4, Ty.sz4, Ty.zc4, Ty.by4, Ty.ld25, Ty.sz25, Ty.zc25, Ty.by25, Ty.pl25, Ty.fl25_0, Ty.fl25_1, Ty.fl25_2, Ty.fl25_3, Ty.fl25_4, Ty.fl25_5, *]; rfl)
      | (with_reducible refine aw_then ?_) | (with_reducible refine aw_skip ?_) | (with_reducible refine aw_ret ?_) | (with_reducible refine aw_exit ?_) | (with_reducible refine aw_block ?_) | (with_reducible refine xr_reg (by decide +kernel) ?_)
      | (with_reducible refine xr_nil ?_) | (with_reducible refine k_norm ?_) | (with_reducible refine k_ret ?_) | (with_reducible refine k_exit ?_) | (with_reducible refine b_norm ?_) | (with_reducible refine b_ret ?_) | (with_reducible refine b_exit ?_) | (with_reducible refine b_past (by decide) ?_)
      | (refine xr_cl (f := ?_) (fs := ?_) (cs := ?_) (args := ?_) (K := ?_) ?_ ?_ ?_ ?_ ?_
         rotate_left 5
         · simp only [ev]; rfl
         first
         | (· with_reducible exact Ty.ok29
            rotate_left 2
            refine hk_tag 29 ?_
            rotate_right 2)
         | (· with_reducible exact Ty.ok87
            rotate_left 2
            refine hk_tag 87 ?_
            rotate_right 2)
         )
      | (refine xr_gcl (f := ?_) (fs := ?_) (cs := ?_) (args := ?_) (K := ?_) (by exact rfl) ?_ ?_ ?_ ?_ ?_ ?_
         rotate_left 5
         · simp only [ev, put_some, reduceIte, Nat.reduceEqDiff, Bool.not_true, Bool.not_false, *]
         · simp only [ev]; rfl
         first
         | (· with_reducible exact Ty.ok29
            rotate_left 2
            refine hk_tag 29 ?_
            rotate_right 2)
         | (· with_reducible exact Ty.ok87
            rotate_left 2
            refine hk_tag 87 ?_
            rotate_right 2)
         )
      | (refine xr_do (v := ?_) (h' := ?_) (by exact rfl) ?_ ?_; rotate_left 2)
      | (refine xr_st (v := ?_) (h' := ?_) (by exact rfl) ?_ ?_; rotate_left 2)
      | (refine xr_gdo (v := ?_) (h' := ?_) (by exact rfl) (by exact rfl) ?_ ?_ ?_
         rotate_left 2
         · simp only [ev, put_some, reduceIte, Nat.reduceEqDiff, Bool.not_true, Bool.not_false, *])
      | (refine xr_gst (v := ?_) (h' := ?_) (by exact rfl) (by exact rfl) ?_ ?_ ?_
         rotate_left 2
         · simp only [ev, put_some, reduceIte, Nat.reduceEqDiff, Bool.not_true, Bool.not_false, *])
      | (refine xr_goff (by exact rfl) ?_ ?_
         · simp only [ev, put_some, reduceIte, Nat.reduceEqDiff, Bool.not_true, Bool.not_false, *])
      | (refine xr_gsoff (by exact rfl) ?_ ?_
         · simp only [ev, put_some, reduceIte, Nat.reduceEqDiff, Bool.not_true, Bool.not_false, *])
      | (refine xr_gund (by exact rfl) ?_ ?_
         · simp only [ev, put_some, reduceIte, Nat.reduceEqDiff, Bool.not_true, Bool.not_false, *])
      | (refine xr_gsund (by exact rfl) ?_ ?_
         · simp only [ev, put_some, reduceIte, Nat.reduceEqDiff, Bool.not_true, Bool.not_false, *])
      | (refine xr_gif (b := ?_) (by exact rfl) ?_ (fun hb => ?_) (fun hb => ?_)
         rotate_left 1
         · simp only [ev, put_some, reduceIte, Nat.reduceEqDiff, Bool.not_true, Bool.not_false, *]; rfl)
      | (refine aw_ift (by decide) ?_ ?_
         · simp only [ev, put_some, reduceIte, Nat.reduceEqDiff, *])
      | (refine aw_iff (by decide) ?_ ?_
         · simp only [ev, put_some, reduceIte, Nat.reduceEqDiff, *])
      | (refine aw_if (b := ?_) (by decide) ?_ (fun hb => ?_) (fun hb => ?_)
         rotate_left 1
         · simp only [ev, put_some, reduceIte, Nat.reduceEqDiff, *]; rfl)
      | (refine r_ret (vs := ?_) ?_ ?_
         rotate_left 1
         · simp only [resV, oneOf, stp, ev, put_some, put_none, argT_list, List.getD_cons_zero, List.getD_cons_succ, reduceIte, Nat.reduceEqDiff, Option.map_some, Array.map_empty, List.map_toArray, List.map_cons, List.map_nil, List.append_toArray, Array.append_empty, Array.empty_append, List.nil_append, List.append_nil, and_self, if_true, decide_true, decide_false, Int.toNat_natCast, Int.natCast_nonneg, List.length_map, binV_add, binV_sub, binV_and, binV_shr, binV_shl, binV_str_eql, binV_str_neq, binV_mul, binV_eql, binV_neq, binV_lss, binV_leq, binV_gtr, binV_geq, unV_not, Bool.not_true, Bool.not_false, Bool.cond_true, Bool.cond_false, binV_bool_neq, binV_bool_eql, Ty.un4, bld, fillL, vcs, splice, List.getElem?_toArray, List.getElem?_cons_zero, List.getElem?_cons_succ, true_and, ldv, stv, vcs, fldA, blt, lenV, List.size_toArray, List.length_cons, List.length_nil, Nat.zero_add, Array.getD_eq_getD_getElem?, List.getElem?_toArray, List.getElem?_cons_zero, List.getElem?_cons_succ, Option.getD_some, Option.isSome_some, Nat.add_assoc, List.toList_toArray, eq_self, Option.bind_some, List.append_assoc, List.cons_append, List.length_append, List.length_cons, List.length_nil, Nat.zero_add, Nat.add_zero, Nat.reduceAdd, Nat.reduceMul, Nat.reduceLeDiff, mset_some, mset_none, set_at, set_at0, killL_nil, killL_cons, getC_succ2, getC_succ3, getC_succ4, getC_succ5, getC_succ6, loadCs_succ2, loadCs_succ3, loadCs_succ4, loadCs_succ5, loadCs_succ6, setCs_succ2, setCs_succ3, setCs_succ4, setCs_succ5, setCs_succ6, getC_at, getC_at0, getC_zero, getC_succ, loadCs_at, loadCs_at0, loadCs_zero, loadCs_succ, setCs_at, setCs_at0, setCs_zero, setCs_succ, splice, List.set_cons_succ, List.set_cons_zero, List.getElem?_cons_zero, List.getElem?_cons_succ, List.drop_zero, List.drop_succ_cons, List.take_succ_cons, List.take_zero, newB, vcs, flat_int, flat_bool, flat_string, flat_slice, flat_pointer, flat_func, flat_nilFunc, List.all_cons, List.all_nil, Bool.and_true, Bool.and_self, Ty.ld3, Ty.sz3, Ty.zc3, Ty.by3, Ty.ld4, Ty.sz4, Ty.zc4, Ty.by4, Ty.ld25, Ty.sz25, Ty.zc25, Ty.by25, Ty.pl25, Ty.fl25_0, Ty.fl25_1, Ty.fl25_2, Ty.fl25_3, Ty.fl25_4, Ty.fl25_5, *]; rfl)
      | (with_reducible exact specGoodGroup_x _ _ _ _ _ _ _)
      | (with_reducible exact l15Over_x _ _ _ _ _ _ _)
      | ((with_reducible refine HkTag.mk (n := 29) ?_); rintro _ _ ⟨rfl, hh⟩; replace hh := hh.symm; subst hh)
      | ((with_reducible refine HkTag.mk (n := 87) ?_); rintro _ _ ⟨rfl, hh⟩; replace hh := hh.symm; subst hh)
      )
    exact ⟨rfl, _, rfl⟩

theorem big_ok (n1 n2 c1 c2 : Nat) (b1 b2 : Option Addr) (h : Heap) (h1 : n1 ≤ 9223372036854775807) (h2 : n2 ≤ 9223372036854775807) : ACalls Try.prog 0 25 #[.slice b1 n1 c1, .slice b2 n2 c2] h
    fun v h' => v = .bool (decide (1048576 < (n1 : Int)) || decide (1048576 - (n1 : Int) < n2)) ∧ h' = h := by
  by_cases hq : (1048576 : Int) < n1
  · refine acalls_fn Try.func25 rfl Try.ntmps25 (by simp) (by dsimp only [Try.f25]) ?_
    repeat' (first
      | ((with_reducible refine eq_go ?_); simp only [stp, ev, put_some, put_none, argT_list, List.getD_cons_zero, List.getD_cons_succ, reduceIte, Nat.reduceEqDiff, Option.map_some, Array.map_empty, List.map_toArray, List.map_cons, List.map_nil, List.append_toArray, Array.append_empty, Array.empty_append, List.nil_append, List.append_nil, and_self, if_true, decide_true, decide_false, Int.toNat_natCast, Int.natCast_nonneg, List.length_map, binV_add, binV_sub, binV_and, binV_shr, binV_shl, binV_str_eql, binV_str_neq, binV_mul, binV_eql, binV_neq, binV_lss, binV_leq, binV_gtr, binV_geq, unV_not, Bool.not_true, Bool.not_false, Bool.cond_true, Bool.cond_false, blt, lenV, List.size_toArray, List.length_cons, List.length_nil, Nat.zero_add, Array.getD_eq_getD_getElem?, List.getElem?_toArray, List.getElem?_cons_zero, List.getElem?_cons_succ, Option.getD_some, Option.isSome_some, Ty.sz3, Ty.zc3, Ty.by3, Ty.sz5, Ty.zc5, Ty.by5, Ty.sz37, Ty.sl37, Ty.zc37, Ty.by37, *]; rfl)
      | (with_reducible refine aw_then ?_) | (with_reducible refine aw_skip ?_) | (with_reducible refine aw_ret ?_) | (with_reducible refine aw_exit ?_) | (with_reducible refine aw_block ?_) | (with_reducible refine xr_reg (by decide +kernel) ?_)
      | (with_reducible refine xr_nil ?_) | (with_reducible refine k_norm ?_) | (with_reducible refine k_ret ?_) | (with_reducible refine k_exit ?_) | (with_reducible refine b_norm ?_) | (with_reducible refine b_ret ?_) | (with_reducible refine b_exit ?_) | (with_reducible refine b_past (by decide) ?_)
      | (refine xr_do (v := ?_) (h' := ?_) (by exact rfl) ?_ ?_; rotate_left 2)
      | (refine xr_st (v := ?_) (h' := ?_) (by exact rfl) ?_ ?_; rotate_left 2)
      | (refine xr_gdo (v := ?_) (h' := ?_) (by exact rfl) (by exact rfl) ?_ ?_ ?_
         rotate_left 2
         · simp only [ev, put_some, reduceIte, Nat.reduceEqDiff, Bool.not_true, Bool.not_false, *])
      | (refine xr_gst (v := ?_) (h' := ?_) (by exact rfl) (by exact rfl) ?_ ?_ ?_
         rotate_left 2
         · simp only [ev, put_some, reduceIte, Nat.reduceEqDiff, Bool.not_true, Bool.not_false, *])
      | (refine xr_goff (by exact rfl) ?_ ?_
         · simp only [ev, put_some, reduceIte, Nat.reduceEqDiff, Bool.not_true, Bool.not_false, *])
      | (refine xr_gsoff (by exact rfl) ?_ ?_
         · simp only [ev, put_some, reduceIte, Nat.reduceEqDiff, Bool.not_true, Bool.not_false, *])
      | (refine xr_gund (by exact rfl) ?_ ?_
         · simp only [ev, put_some, reduceIte, Nat.reduceEqDiff, Bool.not_true, Bool.not_false, *])
      | (refine xr_gsund (by exact rfl) ?_ ?_
         · simp only [ev, put_some, reduceIte, Nat.reduceEqDiff, Bool.not_true, Bool.not_false, *])
      | (refine xr_gif (b := ?_) (by exact rfl) ?_ (fun hb => ?_) (fun hb => ?_)
         rotate_left 1
         · simp only [ev, put_some, reduceIte, Nat.reduceEqDiff, Bool.not_true, Bool.not_false, *]; rfl)
      | (refine aw_ift (by decide) ?_ ?_
         · simp only [ev, put_some, reduceIte, Nat.reduceEqDiff, *])
      | (refine aw_iff (by decide) ?_ ?_
         · simp only [ev, put_some, reduceIte, Nat.reduceEqDiff, *])
      | (refine aw_if (b := ?_) (by decide) ?_ (fun hb => ?_) (fun hb => ?_)
         rotate_left 1
         · simp only [ev, put_some, reduceIte, Nat.reduceEqDiff, *]; rfl)
      | (refine r_ret (vs := ?_) ?_ ?_
         rotate_left 1
         · simp only [resV, ev, put_some, reduceIte, Nat.reduceEqDiff, Option.map_some, *]; rfl)
      )
    refine ⟨?_, rfl⟩
    simp [oneOf, hq]
  · have hw : IntKind.i64.wrap (1048576 - (n1 : Int)) = 1048576 - (n1 : Int) := wrap_id (by omega)
    refine acalls_fn Try.func25 rfl Try.ntmps25 (by simp) (by dsimp only [Try.f25]) ?_
    repeat' (first
      | ((with_reducible refine eq_go ?_); simp only [stp, ev, put_some, put_none, argT_list, List.getD_cons_zero, List.getD_cons_succ, reduceIte, Nat.reduceEqDiff, Option.map_some, Array.map_empty, List.map_toArray, List.map_cons, List.map_nil, List.append_toArray, Array.append_empty, Array.empty_append, List.nil_append, List.append_nil, and_self, if_true, decide_true, decide_false, Int.toNat_natCast, Int.natCast_nonneg, List.length_map, binV_add, binV_sub, binV_and, binV_shr, binV_shl, binV_str_eql, binV_str_neq, binV_mul, binV_eql, binV_neq, binV_lss, binV_leq, binV_gtr, binV_geq, unV_not, Bool.not_true, Bool.not_false, Bool.cond_true, Bool.cond_false, blt, lenV, List.size_toArray, List.length_cons, List.length_nil, Nat.zero_add, Array.getD_eq_getD_getElem?, List.getElem?_toArray, List.getElem?_cons_zero, List.getElem?_cons_succ, Option.getD_some, Option.isSome_some, Ty.sz3, Ty.zc3, Ty.by3, Ty.sz5, Ty.zc5, Ty.by5, Ty.sz37, Ty.sl37, Ty.zc37, Ty.by37, *]; rfl)
      | (with_reducible refine aw_then ?_) | (with_reducible refine aw_skip ?_) | (with_reducible refine aw_ret ?_) | (with_reducible refine aw_exit ?_) | (with_reducible refine aw_block ?_) | (with_reducible refine xr_reg (by decide +kernel) ?_)
      | (with_reducible refine xr_nil ?_) | (with_reducible refine k_norm ?_) | (with_reducible refine k_ret ?_) | (with_reducible refine k_exit ?_) | (with_reducible refine b_norm ?_) | (with_reducible refine b_ret ?_) | (with_reducible refine b_exit ?_) | (with_reducible refine b_past (by decide) ?_)
      | (refine xr_do (v := ?_) (h' := ?_) (by exact rfl) ?_ ?_; rotate_left 2)
      | (refine xr_st (v := ?_) (h' := ?_) (by exact rfl) ?_ ?_; rotate_left 2)
      | (refine xr_gdo (v := ?_) (h' := ?_) (by exact rfl) (by exact rfl) ?_ ?_ ?_
         rotate_left 2
         · simp only [ev, put_some, reduceIte, Nat.reduceEqDiff, Bool.not_true, Bool.not_false, *])
      | (refine xr_gst (v := ?_) (h' := ?_) (by exact rfl) (by exact rfl) ?_ ?_ ?_
         rotate_left 2
         · simp only [ev, put_some, reduceIte, Nat.reduceEqDiff, Bool.not_true, Bool.not_false, *])
      | (refine xr_goff (by exact rfl) ?_ ?_
         · simp only [ev, put_some, reduceIte, Nat.reduceEqDiff, Bool.not_true, Bool.not_false, *])
      | (refine xr_gsoff (by exact rfl) ?_ ?_
         · simp only [ev, put_some, reduceIte, Nat.reduceEqDiff, Bool.not_true, Bool.not_false, *])
      | (refine xr_gund (by exact rfl) ?_ ?_
         · simp only [ev, put_some, reduceIte, Nat.reduceEqDiff, Bool.not_true, Bool.not_false, *])
      | (refine xr_gsund (by exact rfl) ?_ ?_
         · simp only [ev, put_some, reduceIte, Nat.reduceEqDiff, Bool.not_true, Bool.not_false, *])
      | (refine xr_gif (b := ?_) (by exact rfl) ?_ (fun hb => ?_) (fun hb => ?_)
         rotate_left 1
         · simp only [ev, put_some, reduceIte, Nat.reduceEqDiff, Bool.not_true, Bool.not_false, *]; rfl)
      | (refine aw_ift (by decide) ?_ ?_
         · simp only [ev, put_some, reduceIte, Nat.reduceEqDiff, *])
      | (refine aw_iff (by decide) ?_ ?_
         · simp only [ev, put_some, reduceIte, Nat.reduceEqDiff, *])
      | (refine aw_if (b := ?_) (by decide) ?_ (fun hb => ?_) (fun hb => ?_)
         rotate_left 1
         · simp only [ev, put_some, reduceIte, Nat.reduceEqDiff, *]; rfl)
      | (refine r_ret (vs := ?_) ?_ ?_
         rotate_left 1
         · simp only [resV, ev, put_some, reduceIte, Nat.reduceEqDiff, Option.map_some, *]; rfl)
      )
    refine ⟨?_, rfl⟩
    simp [oneOf, hq]

theorem grp_fields (a b : Grp) : ∃ fs, Program.underlying Try.prog 25 = some (.struct fs) ∧ pureRun Try.prog (Op.eqFields (9998 + 1) a.cells.toArray b.cells.toArray fs.toList) =
    some ((a.least == b.least) && ((a.most == b.most) && ((a.enough == b.enough) && ((a.made == b.made) && ((a.don == b.don) && ((a.opn == b.opn) && true)))))) := by
  have i3 : pureRun Try.prog (isAgg 3) = some false := by kernel_rfl
  have i4 : pureRun Try.prog (isAgg 4) = some false := by kernel_rfl
  refine ⟨_, Try.underlying25, ?_⟩
  refine pr_field (by decide) (pr_part i3 _ _ rfl) (pr_part i3 _ _ rfl) (pr_int Try.underlying3 _ _ _) ?_
  refine pr_field (by decide) (pr_part i3 _ _ rfl) (pr_part i3 _ _ rfl) (pr_int Try.underlying3 _ _ _) ?_
  refine pr_field (by decide) (pr_part i3 _ _ rfl) (pr_part i3 _ _ rfl) (pr_int Try.underlying3 _ _ _) ?_
  refine pr_field (by decide) (pr_part i3 _ _ rfl) (pr_part i3 _ _ rfl) (pr_int Try.underlying3 _ _ _) ?_
  refine pr_field (by decide) (pr_part i3 _ _ rfl) (pr_part i3 _ _ rfl) (pr_int Try.underlying3 _ _ _) ?_
  refine pr_field (by decide) (pr_part i4 _ _ rfl) (pr_part i4 _ _ rfl) (pr_bool Try.underlying4 _ _ _) ?_
  rfl

theorem grp_beq (a b : Grp) : ((a.least == b.least) && ((a.most == b.most) && ((a.enough == b.enough) && ((a.made == b.made) && ((a.don == b.don) && ((a.opn == b.opn) && true)))))) = decide (a = b) := by
  rw [Bool.eq_iff_iff]
  obtain ⟨a1, a2, a3, a4, a5, a6⟩ := a
  obtain ⟨b1, b2, b3, b4, b5, b6⟩ := b
  simp

theorem grp_cmp (a b : Grp) (xo yo : Operand) : binV Try.prog .eql 25 xo yo (.agg a.cells.toArray) (.agg b.cells.toArray) = some (.bool (decide (a = b))) ∧
    binV Try.prog .neq 25 xo yo (.agg a.cells.toArray) (.agg b.cells.toArray) = some (.bool (!decide (a = b))) := by
  have hst : Program.stoodInHeld Try.prog 25 = false := by kernel_rfl
  obtain ⟨fs, hu, hf⟩ := grp_fields a b
  rw [grp_beq] at hf
  have haf : (a.cells.toArray.all af1 && b.cells.toArray.all af1) = true := by simp [Grp.cells, af1]
  have hg1 : pureRun Try.prog (eqGuard .eql 25 xo yo (.agg a.cells.toArray) (.agg b.cells.toArray)) = some () := by
    have e : Program.eqGuardType Try.prog (Program.depth Try.prog) 25 = false := by kernel_rfl
    simp [eqGuard, pureRun_bind, program, pureRun, e]
    rfl
  have hg2 : pureRun Try.prog (eqGuard .neq 25 xo yo (.agg a.cells.toArray) (.agg b.cells.toArray)) = some () := by
    have e : Program.eqGuardType Try.prog (Program.depth Try.prog) 25 = false := by kernel_rfl
    simp [eqGuard, pureRun_bind, program, pureRun, e]
    rfl
  have hd : Op.maxDepth - 1 = 9998 + 1 := rfl
  constructor
  · simp only [binV, haf, if_true, hu, hst, Bool.false_eq_true, if_false, hg1, hd, hf]
  · simp only [binV, haf, if_true, hu, hst, Bool.false_eq_true, if_false, hg2, hd, hf]
theorem grp_eql (a b : Grp) (xo yo : Operand) : binV Try.prog .eql 25 xo yo (.agg a.cells.toArray) (.agg b.cells.toArray) = some (.bool (decide (a = b))) := (grp_cmp a b xo yo).1
theorem grp_neq (a b : Grp) (xo yo : Operand) : binV Try.prog .neq 25 xo yo (.agg a.cells.toArray) (.agg b.cells.toArray) = some (.bool (!decide (a = b))) := (grp_cmp a b xo yo).2
theorem Grp.get3 (g : Grp) : g.cells[3]? = some (.int .i64 g.made) := rfl
theorem Grp.get4 (g : Grp) : g.cells[4]? = some (.int .i64 g.don) := rfl

/-- A counting loop over a memory that only grows. -/
theorem aw_grow {P : Program} {G : Glo} {N : Nat} {Q : Exit → Tmps → Heap → Prop} {T : Tmps} {h : Heap} {c : Code} (R : List Nat) (J : Nat → Tmps → Prop) (n : Nat) (h0 : J 0 T)
    (round : ∀ k T' L, k ≤ n → (∀ t ∈ R, T' t = T t) → J k T' → AW P G N c (thenK (fun T'' h'' => k < n ∧ (∀ t ∈ R, T'' t = T t) ∧ (∃ L, h'' = h ++ L) ∧ J (k + 1) T'') Q) T' (h ++ L)) :
    AW P G N (.loop c) Q T h :=
  aw_for R (fun k T' h' => (∃ L, h' = h ++ L) ∧ J k T') n (Nat.zero_le n) ⟨⟨[], by simp⟩, h0⟩ fun k T' h' hk hR hI => by
    obtain ⟨⟨L, rfl⟩, hj⟩ := hI
    exact round k T' L hk hR hj

theorem drawPlay_c (code : List Int) (vc : Value) (h : Heap) (hsl : Sl h vc 1 (bytesR code)) (hbid : ∀ k, bid vc ≠ some (h.length + k)) (hcl : code.length ≤ 9223372036854775807) (hcw : ∀ x ∈ code, 0 ≤ x ∧ x ≤ 255) :
    ACalls Try.prog 0 26 #[vc] h fun v h' => ∃ (g : Grp) (l : List Int) (vl : Value) (E : Heap), v = .tuple #[.agg g.cells.toArray, vl] ∧ h' = h ++ E ∧ Sl (h ++ E) vl 1 (ints l) ∧ l.length ≤ 1000 ∧
      (((playOk g l = true ∧ goodG (playG g l).1 = true ∧ (playG g l).2.length = l.length ∧ IntKind.i64.wrap ((playG g l).1.made - (playG g l).1.don) = (playG g l).1.made - (playG g l).1.don) ∧
        ((overG (playG g l).1 = true ∧ ∀ k, (stepG (playG g l).1 k).2 = false) ∨ overG (playG g l).1 = false) ∧ ((l.isEmpty = true ∧ (playG g l).2 = []) ∨ l.isEmpty = false)) ∨ playOk g l = false) := by
  refine (drawPlayGroup_ok code vc h hsl hbid hcl hcw).mono ?_
  rintro v h' ⟨g, l, vl, E, h1, h2, h3, h4⟩
  refine ⟨g, l, vl, E, h1, h2, h3, h4, ?_⟩
  rcases Bool.eq_false_or_eq_true (playOk g l) with hok | hok
  · have hg : goodG g = true := by simp only [playOk, Bool.and_eq_true] at hok; exact hok.1
    have hi := playG_inv g hg l l.length (Nat.le_refl _)
    rw [List.take_length] at hi
    refine .inl ⟨⟨hok, hi.1, hi.2, wrap_id (by have := hi.1; simp only [goodG, decide_eq_true_eq] at this; omega)⟩, ?_, ?_⟩
    · rcases Bool.eq_false_or_eq_true (overG (playG g l).1) with ho | ho
      · exact .inl ⟨ho, fun k => by unfold stepG; rw [if_pos ho]⟩
      · exact .inr ho
    · rcases Bool.eq_false_or_eq_true l.isEmpty with he | he
      · refine .inl ⟨he, ?_⟩
        rw [List.isEmpty_iff] at he; subst he; rfl
      · exact .inr he
  · exact .inr hok

theorem drawStep_c (code : List Int) (vc : Value) (h : Heap) (hsl : Sl h vc 1 (bytesR code)) (hbid : ∀ k, bid vc ≠ some (h.length + k)) (hcl : code.length ≤ 9223372036854775807) (hcw : ∀ x ∈ code, 0 ≤ x ∧ x ≤ 255) :
    ACalls Try.prog 0 34 #[vc] h fun v h' => ∃ (g : Grp) (k : Int) (E : Heap), v = .tuple #[.agg g.cells.toArray, .int .i64 k] ∧ h' = h ++ E ∧ (goodG g = true ∨ goodG g = false) := by
  refine (drawStepGroup_ok code vc h hsl hbid hcl hcw).mono ?_
  rintro v h' ⟨g, k, E, h1, h2⟩
  exact ⟨g, k, E, h1, h2, Bool.eq_false_or_eq_true _⟩
end Go.Proofs.Ytiddnhhjlipebaa.Am

