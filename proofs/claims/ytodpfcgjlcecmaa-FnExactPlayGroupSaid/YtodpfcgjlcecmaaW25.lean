/- Walk of the law about the play of a group. Conditions: none. -/
import Derived.Test.YtodpfcgjlcecmaaW24
namespace Go.Proofs.Ytodpfcgjlcecmaa.Am
open Go Go.Proofs
set_option linter.unusedVariables false
set_option linter.unusedSimpArgs false
set_option maxRecDepth 100000
set_option maxHeartbeats 8000000

theorem playG_nil {g : Grp} {kinds : List Int} (h : kinds.isEmpty = true) : (playG g kinds).2 = [] := by
  rw [List.isEmpty_iff] at h; subst h; rfl

theorem lawPlayGroup_ok (g : Grp) (kinds : List Int) (vk : Value) (h : Heap) (hp : Sl h vk 1 (ints kinds)) (hl : kinds.length ≤ 9223372036854775807) :
    ACalls Try.prog 0 3 #[.agg g.cells.toArray, vk] h fun v _ => v = .bool true := by
  have hf := hp.flat
  obtain ⟨b, c, rfl, hc, hrow⟩ := id hp
  simp only [List.length_map] at hf hc hp ⊢
  clear hrow
  by_cases hsz : (1048576 : Int) < kinds.length
  · refine acalls_fn Try.func3 rfl Try.ntmps3 (by simp) (by dsimp only [Try.f3]) ?_
    repeat' (first
      | ((with_reducible refine eq_go ?_); simp only [stp, ev, put_some, put_none, argT_list, List.getD_cons_zero, List.getD_cons_succ, reduceIte, Nat.reduceEqDiff, Option.map_some, Array.map_empty, List.map_toArray, List.map_cons, List.map_nil, List.append_toArray, Array.append_empty, Array.empty_append, List.nil_append, List.append_nil, and_self, if_true, decide_true, decide_false, Int.toNat_natCast, Int.natCast_nonneg, List.length_map, binV_add, binV_sub, binV_and, binV_shr, binV_shl, binV_str_eql, binV_str_neq, binV_mul, binV_eql, binV_neq, binV_lss, binV_leq, binV_gtr, binV_geq, unV_not, Bool.not_true, Bool.not_false, Bool.cond_true, Bool.cond_false, binV_bool_neq, binV_bool_eql, Ty.un4, ldv, stv, vcs, blt, lenV, List.size_toArray, List.length_cons, List.length_nil, Nat.zero_add, Array.getD_eq_getD_getElem?, List.getElem?_toArray, List.getElem?_cons_zero, List.getElem?_cons_succ, Option.getD_some, Option.isSome_some, Nat.add_assoc, List.toList_toArray, eq_self, Option.bind_some, List.append_assoc, List.cons_append, List.length_append, List.length_cons, List.length_nil, Nat.zero_add, Nat.add_zero, Nat.reduceAdd, Nat.reduceMul, Nat.reduceLeDiff, mset_some, mset_none, set_at, set_at0, getC_at, getC_at0, getC_zero, getC_succ, loadCs_at, loadCs_at0, loadCs_zero, loadCs_succ, setCs_at, setCs_at0, setCs_zero, setCs_succ, splice, List.set_cons_succ, List.set_cons_zero, List.getElem?_cons_zero, List.getElem?_cons_succ, List.drop_zero, List.drop_succ_cons, List.take_succ_cons, List.take_zero, newB, vcs, flat_int, flat_bool, flat_string, flat_slice, flat_pointer, flat_func, flat_nilFunc, List.all_cons, List.all_nil, Bool.and_true, Bool.and_self, Ty.ld3, Ty.sz3, Ty.zc3, Ty.by3, Ty.ld4, Ty.sz4, Ty.zc4, Ty.by4, Ty.ld23, Ty.sz23, Ty.zc23, Ty.by23, Ty.ld24, Ty.sz24, Ty.sl24, Ty.zc24, Ty.by24, Ty.ld25, Ty.sz25, Ty.zc25, Ty.by25, Ty.ld26, Ty.sz26, Ty.sl26, Ty.zc26, Ty.by26, Grp.cells_length, Grp.cells_flat, Grp.cells_take, *]; rfl)
      | (with_reducible refine aw_then ?_) | (with_reducible refine aw_skip ?_) | (with_reducible refine aw_ret ?_) | (with_reducible refine aw_exit ?_) | (with_reducible refine aw_block ?_) | (with_reducible refine xr_reg (by decide +kernel) ?_)
      | (with_reducible refine xr_nil ?_) | (with_reducible refine k_norm ?_) | (with_reducible refine k_ret ?_) | (with_reducible refine k_exit ?_) | (with_reducible refine b_norm ?_) | (with_reducible refine b_ret ?_) | (with_reducible refine b_exit ?_) | (with_reducible refine b_past (by decide) ?_)
      | (refine xr_cl (f := ?_) (fs := ?_) (cs := ?_) (args := ?_) (K := ?_) ?_ ?_ ?_ ?_ ?_
         rotate_left 5
         · simp only [ev]; rfl
         · first | with_reducible exact Ty.ok14 | with_reducible exact Ty.ok15 | with_reducible exact Ty.ok16 | with_reducible exact Ty.ok17 | with_reducible exact Ty.ok18 | with_reducible exact Ty.ok19 | with_reducible exact Ty.ok20 | with_reducible exact Ty.ok21 | with_reducible exact Ty.ok22 | with_reducible exact Ty.ok23)
      | (refine xr_gcl (f := ?_) (fs := ?_) (cs := ?_) (args := ?_) (K := ?_) (by exact rfl) ?_ ?_ ?_ ?_ ?_ ?_
         rotate_left 5
         · simp only [ev, put_some, reduceIte, Nat.reduceEqDiff, Bool.not_true, Bool.not_false, *]
         · simp only [ev]; rfl
         · first | with_reducible exact Ty.ok14 | with_reducible exact Ty.ok15 | with_reducible exact Ty.ok16 | with_reducible exact Ty.ok17 | with_reducible exact Ty.ok18 | with_reducible exact Ty.ok19 | with_reducible exact Ty.ok20 | with_reducible exact Ty.ok21 | with_reducible exact Ty.ok22 | with_reducible exact Ty.ok23)
      | (refine xr_do (v := ?_) (h' := ?_) (by exact rfl) ?_ ?_; rotate_left 2)
      | (refine xr_st (v := ?_) (h' := ?_) (by exact rfl) ?_ ?_; rotate_left 2)
      | (refine xr_gdo (v := ?_) (h' := ?_) (by exact rfl) (by exact rfl) ?_ ?_ ?_
         rotate_left 2
         · simp only [ev, put_some, reduceIte, Nat.reduceEqDiff, Bool.not_true, Bool.not_false, *])
      | (refine xr_gst (v := ?_) (h' := ?_) (by exact rfl) (by exact rfl) ?_ ?_ ?_
         rotate_left 2
         · simp only [ev, put_some, reduceIte, Nat.reduceEqDiff, Bool.not_true, Bool.not_false, *])
      | (refine xr_goff (by exact rfl) ?_ ?_
         · simp only [ev, put_some, reduceIte, Nat.reduceEqDiff, Bool.not_true, Bool.not_false, *])
      | (refine xr_gsoff (by exact rfl) ?_ ?_
         · simp only [ev, put_some, reduceIte, Nat.reduceEqDiff, Bool.not_true, Bool.not_false, *])
      | (refine xr_gund (by exact rfl) ?_ ?_
         · simp only [ev, put_some, reduceIte, Nat.reduceEqDiff, Bool.not_true, Bool.not_false, *])
      | (refine xr_gsund (by exact rfl) ?_ ?_
         · simp only [ev, put_some, reduceIte, Nat.reduceEqDiff, Bool.not_true, Bool.not_false, *])
      | (refine xr_gif (b := ?_) (by exact rfl) ?_ (fun hb => ?_) (fun hb => ?_)
         rotate_left 1
         · simp only [ev, put_some, reduceIte, Nat.reduceEqDiff, Bool.not_true, Bool.not_false, *]; rfl)
      | (refine aw_ift (by decide) ?_ ?_
         · simp only [ev, put_some, reduceIte, Nat.reduceEqDiff, *])
      | (refine aw_iff (by decide) ?_ ?_
         · simp only [ev, put_some, reduceIte, Nat.reduceEqDiff, *])
      | (refine aw_if (b := ?_) (by decide) ?_ (fun hb => ?_) (fun hb => ?_)
         rotate_left 1
         · simp only [ev, put_some, reduceIte, Nat.reduceEqDiff, *]; rfl)
      | (refine r_ret (vs := ?_) ?_ ?_
         rotate_left 1
         · simp only [resV, ev, put_some, reduceIte, Nat.reduceEqDiff, Option.map_some, *]; rfl)
      | (with_reducible refine specPlayGroup_ok _ ?_ _ _ ?_ ?_
         rotate_left 1
         · first | assumption | exact Sl.old (by assumption) _ | ((try (simp only [deskV, deskL, mset_some, mset_none, set_at, set_at0, List.set_cons_succ, List.set_cons_zero, List.append_assoc, List.cons_append, List.nil_append, List.length_append, List.length_cons, List.length_nil, Nat.zero_add, Nat.add_zero, Nat.reduceAdd, Nat.add_assoc])); first | exact Sl.old (by assumption) _ | exact sl_nilints | exact sl_nilitems | (refine sl_ints (Nat.le_refl _) ?_; exact rfl) | (refine sl_items (Nat.le_refl _) ?_; exact rfl) | (refine sl_ints0 (Nat.le_refl _) ?_; exact rfl) | (refine sl_items0 (Nat.le_refl _) ?_; exact rfl))
         · first | omega | (simp only [List.length_nil]; omega)
         )
      | (with_reducible exact toGroup_ok _ _)
      | (with_reducible refine toIntS_ok ?_ _ _ ?_ ?_
         rotate_left 1
         · first | assumption | exact Sl.old (by assumption) _ | ((try (simp only [deskV, deskL, mset_some, mset_none, set_at, set_at0, List.set_cons_succ, List.set_cons_zero, List.append_assoc, List.cons_append, List.nil_append, List.length_append, List.length_cons, List.length_nil, Nat.zero_add, Nat.add_zero, Nat.reduceAdd, Nat.add_assoc])); first | exact Sl.old (by assumption) _ | exact sl_nilints | exact sl_nilitems | (refine sl_ints (Nat.le_refl _) ?_; exact rfl) | (refine sl_items (Nat.le_refl _) ?_; exact rfl) | (refine sl_ints0 (Nat.le_refl _) ?_; exact rfl) | (refine sl_items0 (Nat.le_refl _) ?_; exact rfl))
         · first | omega | (simp only [List.length_nil]; omega)
         )
      | (with_reducible refine implPlayGroup_ok _ ?_ _ _ ?_ ?_
         rotate_left 1
         · first | assumption | exact Sl.old (by assumption) _ | ((try (simp only [deskV, deskL, mset_some, mset_none, set_at, set_at0, List.set_cons_succ, List.set_cons_zero, List.append_assoc, List.cons_append, List.nil_append, List.length_append, List.length_cons, List.length_nil, Nat.zero_add, Nat.add_zero, Nat.reduceAdd, Nat.add_assoc])); first | exact Sl.old (by assumption) _ | exact sl_nilints | exact sl_nilitems | (refine sl_ints (Nat.le_refl _) ?_; exact rfl) | (refine sl_items (Nat.le_refl _) ?_; exact rfl) | (refine sl_ints0 (Nat.le_refl _) ?_; exact rfl) | (refine sl_items0 (Nat.le_refl _) ?_; exact rfl))
         · first | omega | (simp only [List.length_nil]; omega)
         )
      | (with_reducible exact eqGroup_ok _ _ _)
      | (with_reducible refine eqBoolS_ok ?_ ?_ _ _ _ ?_ ?_ ?_ ?_
         rotate_left 2
         · first | assumption | exact Sl.old (by assumption) _ | ((try (simp only [deskV, deskL, mset_some, mset_none, set_at, set_at0, List.set_cons_succ, List.set_cons_zero, List.append_assoc, List.cons_append, List.nil_append, List.length_append, List.length_cons, List.length_nil, Nat.zero_add, Nat.add_zero, Nat.reduceAdd, Nat.add_assoc])); first | exact Sl.old (by assumption) _ | exact sl_nilbools | (refine sl_bools (Nat.le_refl _) ?_ ?_; (exact rfl); first | rfl | assumption | omega) | (refine sl_bools0 (Nat.le_refl _) ?_ ?_; (exact rfl); first | rfl | assumption | omega))
         · first | assumption | exact Sl.old (by assumption) _ | ((try (simp only [deskV, deskL, mset_some, mset_none, set_at, set_at0, List.set_cons_succ, List.set_cons_zero, List.append_assoc, List.cons_append, List.nil_append, List.length_append, List.length_cons, List.length_nil, Nat.zero_add, Nat.add_zero, Nat.reduceAdd, Nat.add_assoc])); first | exact Sl.old (by assumption) _ | exact sl_nilbools | (refine sl_bools (Nat.le_refl _) ?_ ?_; (exact rfl); first | rfl | assumption | omega) | (refine sl_bools0 (Nat.le_refl _) ?_ ?_; (exact rfl); first | rfl | assumption | omega))
         · first | omega | simp
         · first | omega | simp
         )
      | (with_reducible refine eqIntS_ok ?_ ?_ _ _ _ ?_ ?_ ?_ ?_
         rotate_left 2
         · first | assumption | exact Sl.old (by assumption) _ | ((try (simp only [deskV, deskL, mset_some, mset_none, set_at, set_at0, List.set_cons_succ, List.set_cons_zero, List.append_assoc, List.cons_append, List.nil_append, List.length_append, List.length_cons, List.length_nil, Nat.zero_add, Nat.add_zero, Nat.reduceAdd, Nat.add_assoc])); first | exact Sl.old (by assumption) _ | exact sl_nilints | exact sl_nilitems | (refine sl_ints (Nat.le_refl _) ?_; exact rfl) | (refine sl_items (Nat.le_refl _) ?_; exact rfl) | (refine sl_ints0 (Nat.le_refl _) ?_; exact rfl) | (refine sl_items0 (Nat.le_refl _) ?_; exact rfl))
         · first | assumption | exact Sl.old (by assumption) _ | ((try (simp only [deskV, deskL, mset_some, mset_none, set_at, set_at0, List.set_cons_succ, List.set_cons_zero, List.append_assoc, List.cons_append, List.nil_append, List.length_append, List.length_cons, List.length_nil, Nat.zero_add, Nat.add_zero, Nat.reduceAdd, Nat.add_assoc])); first | exact Sl.old (by assumption) _ | exact sl_nilints | exact sl_nilitems | (refine sl_ints (Nat.le_refl _) ?_; exact rfl) | (refine sl_items (Nat.le_refl _) ?_; exact rfl) | (refine sl_ints0 (Nat.le_refl _) ?_; exact rfl) | (refine sl_items0 (Nat.le_refl _) ?_; exact rfl))
         · grind
         · grind
         )
      | (with_reducible refine markIntS_ok ?_ ?_ _ _ _ ?_ ?_ ?_
         rotate_left 2
         · first | assumption | exact Own.old (by assumption) _ | ((try (simp only [deskV, deskL, mset_some, mset_none, set_at, set_at0, List.set_cons_succ, List.set_cons_zero, List.append_assoc, List.cons_append, List.nil_append, List.length_append, List.length_cons, List.length_nil, Nat.zero_add, Nat.add_zero, Nat.reduceAdd, Nat.add_assoc])); first | exact Own.old (by assumption) _ | exact Own.nil _ | (refine Own.at ?_ ?_ (Nat.le_refl _); (exact rfl); first | exact ints_flen _ | exact items_flen _ | (simp only [marksC_length]; done) | (simp only [marksC_length]; omega)) | (refine Own.at0 ?_ ?_ (Nat.le_refl _); (exact rfl); first | exact ints_flen _ | exact items_flen _ | (simp only [marksC_length]; done) | (simp only [marksC_length]; omega)))
         · first | omega | (simp only [List.length_nil]; omega)
         · first | omega | (simp only [List.length_nil]; omega)
         )
      | (with_reducible refine markBoolS_ok ?_ ?_ _ _ _ ?_ ?_ ?_
         rotate_left 2
         · first | assumption | exact Own.old (by assumption) _ | ((try (simp only [deskV, deskL, mset_some, mset_none, set_at, set_at0, List.set_cons_succ, List.set_cons_zero, List.append_assoc, List.cons_append, List.nil_append, List.length_append, List.length_cons, List.length_nil, Nat.zero_add, Nat.add_zero, Nat.reduceAdd, Nat.add_assoc])); first | exact Own.old (by assumption) _ | exact Own.nil _ | (refine Own.at ?_ ?_ (Nat.le_refl _); (exact rfl); simp only [bools_len, marksB_length]; omega) | (refine Own.at0 ?_ ?_ (Nat.le_refl _); (exact rfl); simp only [bools_len, marksB_length]; omega))
         · first | omega | (simp only [List.length_nil]; omega)
         · first | omega | (simp only [List.length_nil]; omega)
         )
      | (with_reducible refine heldBoolS_ok ?_ _ _ _ ?_ ?_ ?_
         rotate_left 1
         · first | assumption | exact Own.old (by assumption) _ | ((try (simp only [deskV, deskL, mset_some, mset_none, set_at, set_at0, List.set_cons_succ, List.set_cons_zero, List.append_assoc, List.cons_append, List.nil_append, List.length_append, List.length_cons, List.length_nil, Nat.zero_add, Nat.add_zero, Nat.reduceAdd, Nat.add_assoc])); first | exact Own.old (by assumption) _ | exact Own.nil _ | (refine Own.at ?_ ?_ (Nat.le_refl _); (exact rfl); simp only [bools_len, marksB_length]; omega) | (refine Own.at0 ?_ ?_ (Nat.le_refl _); (exact rfl); simp only [bools_len, marksB_length]; omega))
         · first | omega | (simp only [List.length_nil]; omega)
         · first | omega | (simp only [List.length_nil]; omega)
         )
      | rintro _ _ ⟨rfl, rfl⟩
      )
    rfl
  have hl3 : kinds.length ≤ 1048576 := by omega
  rcases Bool.eq_false_or_eq_true (playOk g kinds) with hok | hok
  · have hg : goodG g = true := by simp only [playOk, Bool.and_eq_true] at hok; exact hok.1
    have hlen := (playG_inv g hg kinds kinds.length (Nat.le_refl _)).2
    rw [List.take_length] at hlen
    rcases Bool.eq_false_or_eq_true kinds.isEmpty with he | he
    · skip
      refine acalls_fn Try.func3 rfl Try.ntmps3 (by simp) (by dsimp only [Try.f3]) ?_
      repeat' (first
        | ((with_reducible refine eq_go ?_); simp only [stp, ev, put_some, put_none, argT_list, List.getD_cons_zero, List.getD_cons_succ, reduceIte, Nat.reduceEqDiff, Option.map_some, Array.map_empty, List.map_toArray, List.map_cons, List.map_nil, List.append_toArray, Array.append_empty, Array.empty_append, List.nil_append, List.append_nil, and_self, if_true, decide_true, decide_false, Int.toNat_natCast, Int.natCast_nonneg, List.length_map, binV_add, binV_sub, binV_and, binV_shr, binV_shl, binV_str_eql, binV_str_neq, binV_mul, binV_eql, binV_neq, binV_lss, binV_leq, binV_gtr, binV_geq, unV_not, Bool.not_true, Bool.not_false, Bool.cond_true, Bool.cond_false, binV_bool_neq, binV_bool_eql, Ty.un4, ldv, stv, vcs, blt, lenV, List.size_toArray, List.length_cons, List.length_nil, Nat.zero_add, Array.getD_eq_getD_getElem?, List.getElem?_toArray, List.getElem?_cons_zero, List.getElem?_cons_succ, Option.getD_some, Option.isSome_some, Nat.add_assoc, List.toList_toArray, eq_self, Option.bind_some, List.append_assoc, List.cons_append, List.length_append, List.length_cons, List.length_nil, Nat.zero_add, Nat.add_zero, Nat.reduceAdd, Nat.reduceMul, Nat.reduceLeDiff, mset_some, mset_none, set_at, set_at0, getC_at, getC_at0, getC_zero, getC_succ, loadCs_at, loadCs_at0, loadCs_zero, loadCs_succ, setCs_at, setCs_at0, setCs_zero, setCs_succ, splice, List.set_cons_succ, List.set_cons_zero, List.getElem?_cons_zero, List.getElem?_cons_succ, List.drop_zero, List.drop_succ_cons, List.take_succ_cons, List.take_zero, newB, vcs, flat_int, flat_bool, flat_string, flat_slice, flat_pointer, flat_func, flat_nilFunc, List.all_cons, List.all_nil, Bool.and_true, Bool.and_self, Ty.ld3, Ty.sz3, Ty.zc3, Ty.by3, Ty.ld4, Ty.sz4, Ty.zc4, Ty.by4, Ty.ld23, Ty.sz23, Ty.zc23, Ty.by23, Ty.ld24, Ty.sz24, Ty.sl24, Ty.zc24, Ty.by24, Ty.ld25, Ty.sz25, Ty.zc25, Ty.by25, Ty.ld26, Ty.sz26, Ty.sl26, Ty.zc26, Ty.by26, Grp.cells_length, Grp.cells_flat, Grp.cells_take, Grp.cells_splice, playV, playL, if_true, Bool.false_and, Bool.false_eq_true, if_false, Bool.true_and, *]; rfl)
        | (with_reducible refine aw_then ?_) | (with_reducible refine aw_skip ?_) | (with_reducible refine aw_ret ?_) | (with_reducible refine aw_exit ?_) | (with_reducible refine aw_block ?_) | (with_reducible refine xr_reg (by decide +kernel) ?_)
        | (with_reducible refine xr_nil ?_) | (with_reducible refine k_norm ?_) | (with_reducible refine k_ret ?_) | (with_reducible refine k_exit ?_) | (with_reducible refine b_norm ?_) | (with_reducible refine b_ret ?_) | (with_reducible refine b_exit ?_) | (with_reducible refine b_past (by decide) ?_)
        | (refine xr_cl (f := ?_) (fs := ?_) (cs := ?_) (args := ?_) (K := ?_) ?_ ?_ ?_ ?_ ?_
           rotate_left 5
           · simp only [ev]; rfl
           · first | with_reducible exact Ty.ok14 | with_reducible exact Ty.ok15 | with_reducible exact Ty.ok16 | with_reducible exact Ty.ok17 | with_reducible exact Ty.ok18 | with_reducible exact Ty.ok19 | with_reducible exact Ty.ok20 | with_reducible exact Ty.ok21 | with_reducible exact Ty.ok22 | with_reducible exact Ty.ok23)
        | (refine xr_gcl (f := ?_) (fs := ?_) (cs := ?_) (args := ?_) (K := ?_) (by exact rfl) ?_ ?_ ?_ ?_ ?_ ?_
           rotate_left 5
           · simp only [ev, put_some, reduceIte, Nat.reduceEqDiff, Bool.not_true, Bool.not_false, *]
           · simp only [ev]; rfl
           · first | with_reducible exact Ty.ok14 | with_reducible exact Ty.ok15 | with_reducible exact Ty.ok16 | with_reducible exact Ty.ok17 | with_reducible exact Ty.ok18 | with_reducible exact Ty.ok19 | with_reducible exact Ty.ok20 | with_reducible exact Ty.ok21 | with_reducible exact Ty.ok22 | with_reducible exact Ty.ok23)
        | (refine xr_do (v := ?_) (h' := ?_) (by exact rfl) ?_ ?_; rotate_left 2)
        | (refine xr_st (v := ?_) (h' := ?_) (by exact rfl) ?_ ?_; rotate_left 2)
        | (refine xr_gdo (v := ?_) (h' := ?_) (by exact rfl) (by exact rfl) ?_ ?_ ?_
           rotate_left 2
           · simp only [ev, put_some, reduceIte, Nat.reduceEqDiff, Bool.not_true, Bool.not_false, *])
        | (refine xr_gst (v := ?_) (h' := ?_) (by exact rfl) (by exact rfl) ?_ ?_ ?_
           rotate_left 2
           · simp only [ev, put_some, reduceIte, Nat.reduceEqDiff, Bool.not_true, Bool.not_false, *])
        | (refine xr_goff (by exact rfl) ?_ ?_
           · simp only [ev, put_some, reduceIte, Nat.reduceEqDiff, Bool.not_true, Bool.not_false, *])
        | (refine xr_gsoff (by exact rfl) ?_ ?_
           · simp only [ev, put_some, reduceIte, Nat.reduceEqDiff, Bool.not_true, Bool.not_false, *])
        | (refine xr_gund (by exact rfl) ?_ ?_
           · simp only [ev, put_some, reduceIte, Nat.reduceEqDiff, Bool.not_true, Bool.not_false, *])
        | (refine xr_gsund (by exact rfl) ?_ ?_
           · simp only [ev, put_some, reduceIte, Nat.reduceEqDiff, Bool.not_true, Bool.not_false, *])
        | (refine xr_gif (b := ?_) (by exact rfl) ?_ (fun hb => ?_) (fun hb => ?_)
           rotate_left 1
           · simp only [ev, put_some, reduceIte, Nat.reduceEqDiff, Bool.not_true, Bool.not_false, *]; rfl)
        | (refine aw_ift (by decide) ?_ ?_
           · simp only [ev, put_some, reduceIte, Nat.reduceEqDiff, *])
        | (refine aw_iff (by decide) ?_ ?_
           · simp only [ev, put_some, reduceIte, Nat.reduceEqDiff, *])
        | (refine aw_if (b := ?_) (by decide) ?_ (fun hb => ?_) (fun hb => ?_)
           rotate_left 1
           · simp only [ev, put_some, reduceIte, Nat.reduceEqDiff, *]; rfl)
        | (refine r_ret (vs := ?_) ?_ ?_
           rotate_left 1
           · simp only [resV, ev, put_some, reduceIte, Nat.reduceEqDiff, Option.map_some, *]; rfl)
        | (with_reducible refine specPlayGroup_ok _ ?_ _ _ ?_ ?_
           rotate_left 1
           · first | assumption | exact Sl.old (by assumption) _ | ((try (simp only [deskV, deskL, mset_some, mset_none, set_at, set_at0, List.set_cons_succ, List.set_cons_zero, List.append_assoc, List.cons_append, List.nil_append, List.length_append, List.length_cons, List.length_nil, Nat.zero_add, Nat.add_zero, Nat.reduceAdd, Nat.add_assoc])); first | exact Sl.old (by assumption) _ | exact sl_nilints | exact sl_nilitems | (refine sl_ints (Nat.le_refl _) ?_; exact rfl) | (refine sl_items (Nat.le_refl _) ?_; exact rfl) | (refine sl_ints0 (Nat.le_refl _) ?_; exact rfl) | (refine sl_items0 (Nat.le_refl _) ?_; exact rfl))
           · first | omega | (simp only [List.length_nil]; omega)
           )
        | (with_reducible exact toGroup_ok _ _)
        | (with_reducible refine toIntS_ok ?_ _ _ ?_ ?_
           rotate_left 1
           · first | assumption | exact Sl.old (by assumption) _ | ((try (simp only [deskV, deskL, mset_some, mset_none, set_at, set_at0, List.set_cons_succ, List.set_cons_zero, List.append_assoc, List.cons_append, List.nil_append, List.length_append, List.length_cons, List.length_nil, Nat.zero_add, Nat.add_zero, Nat.reduceAdd, Nat.add_assoc])); first | exact Sl.old (by assumption) _ | exact sl_nilints | exact sl_nilitems | (refine sl_ints (Nat.le_refl _) ?_; exact rfl) | (refine sl_items (Nat.le_refl _) ?_; exact rfl) | (refine sl_ints0 (Nat.le_refl _) ?_; exact rfl) | (refine sl_items0 (Nat.le_refl _) ?_; exact rfl))
           · first | omega | (simp only [List.length_nil]; omega)
           )
        | (with_reducible refine implPlayGroup_ok _ ?_ _ _ ?_ ?_
           rotate_left 1
           · first | assumption | exact Sl.old (by assumption) _ | ((try (simp only [deskV, deskL, mset_some, mset_none, set_at, set_at0, List.set_cons_succ, List.set_cons_zero, List.append_assoc, List.cons_append, List.nil_append, List.length_append, List.length_cons, List.length_nil, Nat.zero_add, Nat.add_zero, Nat.reduceAdd, Nat.add_assoc])); first | exact Sl.old (by assumption) _ | exact sl_nilints | exact sl_nilitems | (refine sl_ints (Nat.le_refl _) ?_; exact rfl) | (refine sl_items (Nat.le_refl _) ?_; exact rfl) | (refine sl_ints0 (Nat.le_refl _) ?_; exact rfl) | (refine sl_items0 (Nat.le_refl _) ?_; exact rfl))
           · first | omega | (simp only [List.length_nil]; omega)
           )
        | (with_reducible exact eqGroup_ok _ _ _)
        | (with_reducible refine eqBoolS_ok ?_ ?_ _ _ _ ?_ ?_ ?_ ?_
           rotate_left 2
           · first | assumption | exact Sl.old (by assumption) _ | ((try (simp only [deskV, deskL, mset_some, mset_none, set_at, set_at0, List.set_cons_succ, List.set_cons_zero, List.append_assoc, List.cons_append, List.nil_append, List.length_append, List.length_cons, List.length_nil, Nat.zero_add, Nat.add_zero, Nat.reduceAdd, Nat.add_assoc])); first | exact Sl.old (by assumption) _ | exact sl_nilbools | (refine sl_bools (Nat.le_refl _) ?_ ?_; (exact rfl); first | rfl | assumption | omega) | (refine sl_bools0 (Nat.le_refl _) ?_ ?_; (exact rfl); first | rfl | assumption | omega))
           · first | assumption | exact Sl.old (by assumption) _ | ((try (simp only [deskV, deskL, mset_some, mset_none, set_at, set_at0, List.set_cons_succ, List.set_cons_zero, List.append_assoc, List.cons_append, List.nil_append, List.length_append, List.length_cons, List.length_nil, Nat.zero_add, Nat.add_zero, Nat.reduceAdd, Nat.add_assoc])); first | exact Sl.old (by assumption) _ | exact sl_nilbools | (refine sl_bools (Nat.le_refl _) ?_ ?_; (exact rfl); first | rfl | assumption | omega) | (refine sl_bools0 (Nat.le_refl _) ?_ ?_; (exact rfl); first | rfl | assumption | omega))
           · first | omega | simp
           · first | omega | simp
           )
        | (with_reducible refine eqIntS_ok ?_ ?_ _ _ _ ?_ ?_ ?_ ?_
           rotate_left 2
           · first | assumption | exact Sl.old (by assumption) _ | ((try (simp only [deskV, deskL, mset_some, mset_none, set_at, set_at0, List.set_cons_succ, List.set_cons_zero, List.append_assoc, List.cons_append, List.nil_append, List.length_append, List.length_cons, List.length_nil, Nat.zero_add, Nat.add_zero, Nat.reduceAdd, Nat.add_assoc])); first | exact Sl.old (by assumption) _ | exact sl_nilints | exact sl_nilitems | (refine sl_ints (Nat.le_refl _) ?_; exact rfl) | (refine sl_items (Nat.le_refl _) ?_; exact rfl) | (refine sl_ints0 (Nat.le_refl _) ?_; exact rfl) | (refine sl_items0 (Nat.le_refl _) ?_; exact rfl))
           · first | assumption | exact Sl.old (by assumption) _ | ((try (simp only [deskV, deskL, mset_some, mset_none, set_at, set_at0, List.set_cons_succ, List.set_cons_zero, List.append_assoc, List.cons_append, List.nil_append, List.length_append, List.length_cons, List.length_nil, Nat.zero_add, Nat.add_zero, Nat.reduceAdd, Nat.add_assoc])); first | exact Sl.old (by assumption) _ | exact sl_nilints | exact sl_nilitems | (refine sl_ints (Nat.le_refl _) ?_; exact rfl) | (refine sl_items (Nat.le_refl _) ?_; exact rfl) | (refine sl_ints0 (Nat.le_refl _) ?_; exact rfl) | (refine sl_items0 (Nat.le_refl _) ?_; exact rfl))
           · grind
           · grind
           )
        | (with_reducible refine markIntS_ok ?_ ?_ _ _ _ ?_ ?_ ?_
           rotate_left 2
           · first | assumption | exact Own.old (by assumption) _ | ((try (simp only [deskV, deskL, mset_some, mset_none, set_at, set_at0, List.set_cons_succ, List.set_cons_zero, List.append_assoc, List.cons_append, List.nil_append, List.length_append, List.length_cons, List.length_nil, Nat.zero_add, Nat.add_zero, Nat.reduceAdd, Nat.add_assoc])); first | exact Own.old (by assumption) _ | exact Own.nil _ | (refine Own.at ?_ ?_ (Nat.le_refl _); (exact rfl); first | exact ints_flen _ | exact items_flen _ | (simp only [marksC_length]; done) | (simp only [marksC_length]; omega)) | (refine Own.at0 ?_ ?_ (Nat.le_refl _); (exact rfl); first | exact ints_flen _ | exact items_flen _ | (simp only [marksC_length]; done) | (simp only [marksC_length]; omega)))
           · first | omega | (simp only [List.length_nil]; omega)
           · first | omega | (simp only [List.length_nil]; omega)
           )
        | (with_reducible refine markBoolS_ok ?_ ?_ _ _ _ ?_ ?_ ?_
           rotate_left 2
           · first | assumption | exact Own.old (by assumption) _ | ((try (simp only [deskV, deskL, mset_some, mset_none, set_at, set_at0, List.set_cons_succ, List.set_cons_zero, List.append_assoc, List.cons_append, List.nil_append, List.length_append, List.length_cons, List.length_nil, Nat.zero_add, Nat.add_zero, Nat.reduceAdd, Nat.add_assoc])); first | exact Own.old (by assumption) _ | exact Own.nil _ | (refine Own.at ?_ ?_ (Nat.le_refl _); (exact rfl); simp only [bools_len, marksB_length]; omega) | (refine Own.at0 ?_ ?_ (Nat.le_refl _); (exact rfl); simp only [bools_len, marksB_length]; omega))
           · first | omega | (simp only [List.length_nil]; omega)
           · first | omega | (simp only [List.length_nil]; omega)
           )
        | (with_reducible refine heldBoolS_ok ?_ _ _ _ ?_ ?_ ?_
           rotate_left 1
           · first | assumption | exact Own.old (by assumption) _ | ((try (simp only [deskV, deskL, mset_some, mset_none, set_at, set_at0, List.set_cons_succ, List.set_cons_zero, List.append_assoc, List.cons_append, List.nil_append, List.length_append, List.length_cons, List.length_nil, Nat.zero_add, Nat.add_zero, Nat.reduceAdd, Nat.add_assoc])); first | exact Own.old (by assumption) _ | exact Own.nil _ | (refine Own.at ?_ ?_ (Nat.le_refl _); (exact rfl); simp only [bools_len, marksB_length]; omega) | (refine Own.at0 ?_ ?_ (Nat.le_refl _); (exact rfl); simp only [bools_len, marksB_length]; omega))
           · first | omega | (simp only [List.length_nil]; omega)
           · first | omega | (simp only [List.length_nil]; omega)
           )
        | rintro _ _ ⟨rfl, rfl⟩
        )
      all_goals first | rfl | (exfalso; simp at hb; done) | (exfalso; simp at hb; omega) | (exfalso; simp [playG_nil he] at hb)
    · skip
      refine acalls_fn Try.func3 rfl Try.ntmps3 (by simp) (by dsimp only [Try.f3]) ?_
      repeat' (first
        | ((with_reducible refine eq_go ?_); simp only [stp, ev, put_some, put_none, argT_list, List.getD_cons_zero, List.getD_cons_succ, reduceIte, Nat.reduceEqDiff, Option.map_some, Array.map_empty, List.map_toArray, List.map_cons, List.map_nil, List.append_toArray, Array.append_empty, Array.empty_append, List.nil_append, List.append_nil, and_self, if_true, decide_true, decide_false, Int.toNat_natCast, Int.natCast_nonneg, List.length_map, binV_add, binV_sub, binV_and, binV_shr, binV_shl, binV_str_eql, binV_str_neq, binV_mul, binV_eql, binV_neq, binV_lss, binV_leq, binV_gtr, binV_geq, unV_not, Bool.not_true, Bool.not_false, Bool.cond_true, Bool.cond_false, binV_bool_neq, binV_bool_eql, Ty.un4, ldv, stv, vcs, blt, lenV, List.size_toArray, List.length_cons, List.length_nil, Nat.zero_add, Array.getD_eq_getD_getElem?, List.getElem?_toArray, List.getElem?_cons_zero, List.getElem?_cons_succ, Option.getD_some, Option.isSome_some, Nat.add_assoc, List.toList_toArray, eq_self, Option.bind_some, List.append_assoc, List.cons_append, List.length_append, List.length_cons, List.length_nil, Nat.zero_add, Nat.add_zero, Nat.reduceAdd, Nat.reduceMul, Nat.reduceLeDiff, mset_some, mset_none, set_at, set_at0, getC_at, getC_at0, getC_zero, getC_succ, loadCs_at, loadCs_at0, loadCs_zero, loadCs_succ, setCs_at, setCs_at0, setCs_zero, setCs_succ, splice, List.set_cons_succ, List.set_cons_zero, List.getElem?_cons_zero, List.getElem?_cons_succ, List.drop_zero, List.drop_succ_cons, List.take_succ_cons, List.take_zero, newB, vcs, flat_int, flat_bool, flat_string, flat_slice, flat_pointer, flat_func, flat_nilFunc, List.all_cons, List.all_nil, Bool.and_true, Bool.and_self, Ty.ld3, Ty.sz3, Ty.zc3, Ty.by3, Ty.ld4, Ty.sz4, Ty.zc4, Ty.by4, Ty.ld23, Ty.sz23, Ty.zc23, Ty.by23, Ty.ld24, Ty.sz24, Ty.sl24, Ty.zc24, Ty.by24, Ty.ld25, Ty.sz25, Ty.zc25, Ty.by25, Ty.ld26, Ty.sz26, Ty.sl26, Ty.zc26, Ty.by26, Grp.cells_length, Grp.cells_flat, Grp.cells_take, Grp.cells_splice, playV, playL, if_true, Bool.false_and, Bool.false_eq_true, if_false, Bool.true_and, *]; rfl)
        | (with_reducible refine aw_then ?_) | (with_reducible refine aw_skip ?_) | (with_reducible refine aw_ret ?_) | (with_reducible refine aw_exit ?_) | (with_reducible refine aw_block ?_) | (with_reducible refine xr_reg (by decide +kernel) ?_)
        | (with_reducible refine xr_nil ?_) | (with_reducible refine k_norm ?_) | (with_reducible refine k_ret ?_) | (with_reducible refine k_exit ?_) | (with_reducible refine b_norm ?_) | (with_reducible refine b_ret ?_) | (with_reducible refine b_exit ?_) | (with_reducible refine b_past (by decide) ?_)
        | (refine xr_cl (f := ?_) (fs := ?_) (cs := ?_) (args := ?_) (K := ?_) ?_ ?_ ?_ ?_ ?_
           rotate_left 5
           · simp only [ev]; rfl
           · first | with_reducible exact Ty.ok14 | with_reducible exact Ty.ok15 | with_reducible exact Ty.ok16 | with_reducible exact Ty.ok17 | with_reducible exact Ty.ok18 | with_reducible exact Ty.ok19 | with_reducible exact Ty.ok20 | with_reducible exact Ty.ok21 | with_reducible exact Ty.ok22 | with_reducible exact Ty.ok23)
        | (refine xr_gcl (f := ?_) (fs := ?_) (cs := ?_) (args := ?_) (K := ?_) (by exact rfl) ?_ ?_ ?_ ?_ ?_ ?_
           rotate_left 5
           · simp only [ev, put_some, reduceIte, Nat.reduceEqDiff, Bool.not_true, Bool.not_false, *]
           · simp only [ev]; rfl
           · first | with_reducible exact Ty.ok14 | with_reducible exact Ty.ok15 | with_reducible exact Ty.ok16 | with_reducible exact Ty.ok17 | with_reducible exact Ty.ok18 | with_reducible exact Ty.ok19 | with_reducible exact Ty.ok20 | with_reducible exact Ty.ok21 | with_reducible exact Ty.ok22 | with_reducible exact Ty.ok23)
        | (refine xr_do (v := ?_) (h' := ?_) (by exact rfl) ?_ ?_; rotate_left 2)
        | (refine xr_st (v := ?_) (h' := ?_) (by exact rfl) ?_ ?_; rotate_left 2)
        | (refine xr_gdo (v := ?_) (h' := ?_) (by exact rfl) (by exact rfl) ?_ ?_ ?_
           rotate_left 2
           · simp only [ev, put_some, reduceIte, Nat.reduceEqDiff, Bool.not_true, Bool.not_false, *])
        | (refine xr_gst (v := ?_) (h' := ?_) (by exact rfl) (by exact rfl) ?_ ?_ ?_
           rotate_left 2
           · simp only [ev, put_some, reduceIte, Nat.reduceEqDiff, Bool.not_true, Bool.not_false, *])
        | (refine xr_goff (by exact rfl) ?_ ?_
           · simp only [ev, put_some, reduceIte, Nat.reduceEqDiff, Bool.not_true, Bool.not_false, *])
        | (refine xr_gsoff (by exact rfl) ?_ ?_
           · simp only [ev, put_some, reduceIte, Nat.reduceEqDiff, Bool.not_true, Bool.not_false, *])
        | (refine xr_gund (by exact rfl) ?_ ?_
           · simp only [ev, put_some, reduceIte, Nat.reduceEqDiff, Bool.not_true, Bool.not_false, *])
        | (refine xr_gsund (by exact rfl) ?_ ?_
           · simp only [ev, put_some, reduceIte, Nat.reduceEqDiff, Bool.not_true, Bool.not_false, *])
        | (refine xr_gif (b := ?_) (by exact rfl) ?_ (fun hb => ?_) (fun hb => ?_)
           rotate_left 1
           · simp only [ev, put_some, reduceIte, Nat.reduceEqDiff, Bool.not_true, Bool.not_false, *]; rfl)
        | (refine aw_ift (by decide) ?_ ?_
           · simp only [ev, put_some, reduceIte, Nat.reduceEqDiff, *])
        | (refine aw_iff (by decide) ?_ ?_
           · simp only [ev, put_some, reduceIte, Nat.reduceEqDiff, *])
        | (refine aw_if (b := ?_) (by decide) ?_ (fun hb => ?_) (fun hb => ?_)
           rotate_left 1
           · simp only [ev, put_some, reduceIte, Nat.reduceEqDiff, *]; rfl)
        | (refine r_ret (vs := ?_) ?_ ?_
           rotate_left 1
           · simp only [resV, ev, put_some, reduceIte, Nat.reduceEqDiff, Option.map_some, *]; rfl)
        | (with_reducible refine specPlayGroup_ok _ ?_ _ _ ?_ ?_
           rotate_left 1
           · first | assumption | exact Sl.old (by assumption) _ | ((try (simp only [deskV, deskL, mset_some, mset_none, set_at, set_at0, List.set_cons_succ, List.set_cons_zero, List.append_assoc, List.cons_append, List.nil_append, List.length_append, List.length_cons, List.length_nil, Nat.zero_add, Nat.add_zero, Nat.reduceAdd, Nat.add_assoc])); first | exact Sl.old (by assumption) _ | exact sl_nilints | exact sl_nilitems | (refine sl_ints (Nat.le_refl _) ?_; exact rfl) | (refine sl_items (Nat.le_refl _) ?_; exact rfl) | (refine sl_ints0 (Nat.le_refl _) ?_; exact rfl) | (refine sl_items0 (Nat.le_refl _) ?_; exact rfl))
           · first | omega | (simp only [List.length_nil]; omega)
           )
        | (with_reducible exact toGroup_ok _ _)
        | (with_reducible refine toIntS_ok ?_ _ _ ?_ ?_
           rotate_left 1
           · first | assumption | exact Sl.old (by assumption) _ | ((try (simp only [deskV, deskL, mset_some, mset_none, set_at, set_at0, List.set_cons_succ, List.set_cons_zero, List.append_assoc, List.cons_append, List.nil_append, List.length_append, List.length_cons, List.length_nil, Nat.zero_add, Nat.add_zero, Nat.reduceAdd, Nat.add_assoc])); first | exact Sl.old (by assumption) _ | exact sl_nilints | exact sl_nilitems | (refine sl_ints (Nat.le_refl _) ?_; exact rfl) | (refine sl_items (Nat.le_refl _) ?_; exact rfl) | (refine sl_ints0 (Nat.le_refl _) ?_; exact rfl) | (refine sl_items0 (Nat.le_refl _) ?_; exact rfl))
           · first | omega | (simp only [List.length_nil]; omega)
           )
        | (with_reducible refine implPlayGroup_ok _ ?_ _ _ ?_ ?_
           rotate_left 1
           · first | assumption | exact Sl.old (by assumption) _ | ((try (simp only [deskV, deskL, mset_some, mset_none, set_at, set_at0, List.set_cons_succ, List.set_cons_zero, List.append_assoc, List.cons_append, List.nil_append, List.length_append, List.length_cons, List.length_nil, Nat.zero_add, Nat.add_zero, Nat.reduceAdd, Nat.add_assoc])); first | exact Sl.old (by assumption) _ | exact sl_nilints | exact sl_nilitems | (refine sl_ints (Nat.le_refl _) ?_; exact rfl) | (refine sl_items (Nat.le_refl _) ?_; exact rfl) | (refine sl_ints0 (Nat.le_refl _) ?_; exact rfl) | (refine sl_items0 (Nat.le_refl _) ?_; exact rfl))
           · first | omega | (simp only [List.length_nil]; omega)
           )
        | (with_reducible exact eqGroup_ok _ _ _)
        | (with_reducible refine eqBoolS_ok ?_ ?_ _ _ _ ?_ ?_ ?_ ?_
           rotate_left 2
           · first | assumption | exact Sl.old (by assumption) _ | ((try (simp only [deskV, deskL, mset_some, mset_none, set_at, set_at0, List.set_cons_succ, List.set_cons_zero, List.append_assoc, List.cons_append, List.nil_append, List.length_append, List.length_cons, List.length_nil, Nat.zero_add, Nat.add_zero, Nat.reduceAdd, Nat.add_assoc])); first | exact Sl.old (by assumption) _ | exact sl_nilbools | (refine sl_bools (Nat.le_refl _) ?_ ?_; (exact rfl); first | rfl | assumption | omega) | (refine sl_bools0 (Nat.le_refl _) ?_ ?_; (exact rfl); first | rfl | assumption | omega))
           · first | assumption | exact Sl.old (by assumption) _ | ((try (simp only [deskV, deskL, mset_some, mset_none, set_at, set_at0, List.set_cons_succ, List.set_cons_zero, List.append_assoc, List.cons_append, List.nil_append, List.length_append, List.length_cons, List.length_nil, Nat.zero_add, Nat.add_zero, Nat.reduceAdd, Nat.add_assoc])); first | exact Sl.old (by assumption) _ | exact sl_nilbools | (refine sl_bools (Nat.le_refl _) ?_ ?_; (exact rfl); first | rfl | assumption | omega) | (refine sl_bools0 (Nat.le_refl _) ?_ ?_; (exact rfl); first | rfl | assumption | omega))
           · first | omega | simp
           · first | omega | simp
           )
        | (with_reducible refine eqIntS_ok ?_ ?_ _ _ _ ?_ ?_ ?_ ?_
           rotate_left 2
           · first | assumption | exact Sl.old (by assumption) _ | ((try (simp only [deskV, deskL, mset_some, mset_none, set_at, set_at0, List.set_cons_succ, List.set_cons_zero, List.append_assoc, List.cons_append, List.nil_append, List.length_append, List.length_cons, List.length_nil, Nat.zero_add, Nat.add_zero, Nat.reduceAdd, Nat.add_assoc])); first | exact Sl.old (by assumption) _ | exact sl_nilints | exact sl_nilitems | (refine sl_ints (Nat.le_refl _) ?_; exact rfl) | (refine sl_items (Nat.le_refl _) ?_; exact rfl) | (refine sl_ints0 (Nat.le_refl _) ?_; exact rfl) | (refine sl_items0 (Nat.le_refl _) ?_; exact rfl))
           · first | assumption | exact Sl.old (by assumption) _ | ((try (simp only [deskV, deskL, mset_some, mset_none, set_at, set_at0, List.set_cons_succ, List.set_cons_zero, List.append_assoc, List.cons_append, List.nil_append, List.length_append, List.length_cons, List.length_nil, Nat.zero_add, Nat.add_zero, Nat.reduceAdd, Nat.add_assoc])); first | exact Sl.old (by assumption) _ | exact sl_nilints | exact sl_nilitems | (refine sl_ints (Nat.le_refl _) ?_; exact rfl) | (refine sl_items (Nat.le_refl _) ?_; exact rfl) | (refine sl_ints0 (Nat.le_refl _) ?_; exact rfl) | (refine sl_items0 (Nat.le_refl _) ?_; exact rfl))
           · grind
           · grind
           )
        | (with_reducible refine markIntS_ok ?_ ?_ _ _ _ ?_ ?_ ?_
           rotate_left 2
           · first | assumption | exact Own.old (by assumption) _ | ((try (simp only [deskV, deskL, mset_some, mset_none, set_at, set_at0, List.set_cons_succ, List.set_cons_zero, List.append_assoc, List.cons_append, List.nil_append, List.length_append, List.length_cons, List.length_nil, Nat.zero_add, Nat.add_zero, Nat.reduceAdd, Nat.add_assoc])); first | exact Own.old (by assumption) _ | exact Own.nil _ | (refine Own.at ?_ ?_ (Nat.le_refl _); (exact rfl); first | exact ints_flen _ | exact items_flen _ | (simp only [marksC_length]; done) | (simp only [marksC_length]; omega)) | (refine Own.at0 ?_ ?_ (Nat.le_refl _); (exact rfl); first | exact ints_flen _ | exact items_flen _ | (simp only [marksC_length]; done) | (simp only [marksC_length]; omega)))
           · first | omega | (simp only [List.length_nil]; omega)
           · first | omega | (simp only [List.length_nil]; omega)
           )
        | (with_reducible refine markBoolS_ok ?_ ?_ _ _ _ ?_ ?_ ?_
           rotate_left 2
           · first | assumption | exact Own.old (by assumption) _ | ((try (simp only [deskV, deskL, mset_some, mset_none, set_at, set_at0, List.set_cons_succ, List.set_cons_zero, List.append_assoc, List.cons_append, List.nil_append, List.length_append, List.length_cons, List.length_nil, Nat.zero_add, Nat.add_zero, Nat.reduceAdd, Nat.add_assoc])); first | exact Own.old (by assumption) _ | exact Own.nil _ | (refine Own.at ?_ ?_ (Nat.le_refl _); (exact rfl); simp only [bools_len, marksB_length]; omega) | (refine Own.at0 ?_ ?_ (Nat.le_refl _); (exact rfl); simp only [bools_len, marksB_length]; omega))
           · first | omega | (simp only [List.length_nil]; omega)
           · first | omega | (simp only [List.length_nil]; omega)
           )
        | (with_reducible refine heldBoolS_ok ?_ _ _ _ ?_ ?_ ?_
           rotate_left 1
           · first | assumption | exact Own.old (by assumption) _ | ((try (simp only [deskV, deskL, mset_some, mset_none, set_at, set_at0, List.set_cons_succ, List.set_cons_zero, List.append_assoc, List.cons_append, List.nil_append, List.length_append, List.length_cons, List.length_nil, Nat.zero_add, Nat.add_zero, Nat.reduceAdd, Nat.add_assoc])); first | exact Own.old (by assumption) _ | exact Own.nil _ | (refine Own.at ?_ ?_ (Nat.le_refl _); (exact rfl); simp only [bools_len, marksB_length]; omega) | (refine Own.at0 ?_ ?_ (Nat.le_refl _); (exact rfl); simp only [bools_len, marksB_length]; omega))
           · first | omega | (simp only [List.length_nil]; omega)
           · first | omega | (simp only [List.length_nil]; omega)
           )
        | rintro _ _ ⟨rfl, rfl⟩
        )
      all_goals first | rfl | (exfalso; simp at hb; done) | (exfalso; simp at hb; omega)
  · refine acalls_fn Try.func3 rfl Try.ntmps3 (by simp) (by dsimp only [Try.f3]) ?_
    repeat' (first
      | ((with_reducible refine eq_go ?_); simp only [stp, ev, put_some, put_none, argT_list, List.getD_cons_zero, List.getD_cons_succ, reduceIte, Nat.reduceEqDiff, Option.map_some, Array.map_empty, List.map_toArray, List.map_cons, List.map_nil, List.append_toArray, Array.append_empty, Array.empty_append, List.nil_append, List.append_nil, and_self, if_true, decide_true, decide_false, Int.toNat_natCast, Int.natCast_nonneg, List.length_map, binV_add, binV_sub, binV_and, binV_shr, binV_shl, binV_str_eql, binV_str_neq, binV_mul, binV_eql, binV_neq, binV_lss, binV_leq, binV_gtr, binV_geq, unV_not, Bool.not_true, Bool.not_false, Bool.cond_true, Bool.cond_false, binV_bool_neq, binV_bool_eql, Ty.un4, ldv, stv, vcs, blt, lenV, List.size_toArray, List.length_cons, List.length_nil, Nat.zero_add, Array.getD_eq_getD_getElem?, List.getElem?_toArray, List.getElem?_cons_zero, List.getElem?_cons_succ, Option.getD_some, Option.isSome_some, Nat.add_assoc, List.toList_toArray, eq_self, Option.bind_some, List.append_assoc, List.cons_append, List.length_append, List.length_cons, List.length_nil, Nat.zero_add, Nat.add_zero, Nat.reduceAdd, Nat.reduceMul, Nat.reduceLeDiff, mset_some, mset_none, set_at, set_at0, getC_at, getC_at0, getC_zero, getC_succ, loadCs_at, loadCs_at0, loadCs_zero, loadCs_succ, setCs_at, setCs_at0, setCs_zero, setCs_succ, splice, List.set_cons_succ, List.set_cons_zero, List.getElem?_cons_zero, List.getElem?_cons_succ, List.drop_zero, List.drop_succ_cons, List.take_succ_cons, List.take_zero, newB, vcs, flat_int, flat_bool, flat_string, flat_slice, flat_pointer, flat_func, flat_nilFunc, List.all_cons, List.all_nil, Bool.and_true, Bool.and_self, Ty.ld3, Ty.sz3, Ty.zc3, Ty.by3, Ty.ld4, Ty.sz4, Ty.zc4, Ty.by4, Ty.ld23, Ty.sz23, Ty.zc23, Ty.by23, Ty.ld24, Ty.sz24, Ty.sl24, Ty.zc24, Ty.by24, Ty.ld25, Ty.sz25, Ty.zc25, Ty.by25, Ty.ld26, Ty.sz26, Ty.sl26, Ty.zc26, Ty.by26, Grp.cells_length, Grp.cells_flat, Grp.cells_take, Grp.cells_splice, playV, playL, Bool.false_eq_true, if_false, *]; rfl)
      | (with_reducible refine aw_then ?_) | (with_reducible refine aw_skip ?_) | (with_reducible refine aw_ret ?_) | (with_reducible refine aw_exit ?_) | (with_reducible refine aw_block ?_) | (with_reducible refine xr_reg (by decide +kernel) ?_)
      | (with_reducible refine xr_nil ?_) | (with_reducible refine k_norm ?_) | (with_reducible refine k_ret ?_) | (with_reducible refine k_exit ?_) | (with_reducible refine b_norm ?_) | (with_reducible refine b_ret ?_) | (with_reducible refine b_exit ?_) | (with_reducible refine b_past (by decide) ?_)
      | (refine xr_cl (f := ?_) (fs := ?_) (cs := ?_) (args := ?_) (K := ?_) ?_ ?_ ?_ ?_ ?_
         rotate_left 5
         · simp only [ev]; rfl
         · first | with_reducible exact Ty.ok14 | with_reducible exact Ty.ok15 | with_reducible exact Ty.ok16 | with_reducible exact Ty.ok17 | with_reducible exact Ty.ok18 | with_reducible exact Ty.ok19 | with_reducible exact Ty.ok20 | with_reducible exact Ty.ok21 | with_reducible exact Ty.ok22 | with_reducible exact Ty.ok23)
      | (refine xr_gcl (f := ?_) (fs := ?_) (cs := ?_) (args := ?_) (K := ?_) (by exact rfl) ?_ ?_ ?_ ?_ ?_ ?_
         rotate_left 5
         · simp only [ev, put_some, reduceIte, Nat.reduceEqDiff, Bool.not_true, Bool.not_false, *]
         · simp only [ev]; rfl
         · first | with_reducible exact Ty.ok14 | with_reducible exact Ty.ok15 | with_reducible exact Ty.ok16 | with_reducible exact Ty.ok17 | with_reducible exact Ty.ok18 | with_reducible exact Ty.ok19 | with_reducible exact Ty.ok20 | with_reducible exact Ty.ok21 | with_reducible exact Ty.ok22 | with_reducible exact Ty.ok23)
      | (refine xr_do (v := ?_) (h' := ?_) (by exact rfl) ?_ ?_; rotate_left 2)
      | (refine xr_st (v := ?_) (h' := ?_) (by exact rfl) ?_ ?_; rotate_left 2)
      | (refine xr_gdo (v := ?_) (h' := ?_) (by exact rfl) (by exact rfl) ?_ ?_ ?_
         rotate_left 2
         · simp only [ev, put_some, reduceIte, Nat.reduceEqDiff, Bool.not_true, Bool.not_false, *])
      | (refine xr_gst (v := ?_) (h' := ?_) (by exact rfl) (by exact rfl) ?_ ?_ ?_
         rotate_left 2
         · simp only [ev, put_some, reduceIte, Nat.reduceEqDiff, Bool.not_true, Bool.not_false, *])
      | (refine xr_goff (by exact rfl) ?_ ?_
         · simp only [ev, put_some, reduceIte, Nat.reduceEqDiff, Bool.not_true, Bool.not_false, *])
      | (refine xr_gsoff (by exact rfl) ?_ ?_
         · simp only [ev, put_some, reduceIte, Nat.reduceEqDiff, Bool.not_true, Bool.not_false, *])
      | (refine xr_gund (by exact rfl) ?_ ?_
         · simp only [ev, put_some, reduceIte, Nat.reduceEqDiff, Bool.not_true, Bool.not_false, *])
      | (refine xr_gsund (by exact rfl) ?_ ?_
         · simp only [ev, put_some, reduceIte, Nat.reduceEqDiff, Bool.not_true, Bool.not_false, *])
      | (refine xr_gif (b := ?_) (by exact rfl) ?_ (fun hb => ?_) (fun hb => ?_)
         rotate_left 1
         · simp only [ev, put_some, reduceIte, Nat.reduceEqDiff, Bool.not_true, Bool.not_false, *]; rfl)
      | (refine aw_ift (by decide) ?_ ?_
         · simp only [ev, put_some, reduceIte, Nat.reduceEqDiff, *])
      | (refine aw_iff (by decide) ?_ ?_
         · simp only [ev, put_some, reduceIte, Nat.reduceEqDiff, *])
      | (refine aw_if (b := ?_) (by decide) ?_ (fun hb => ?_) (fun hb => ?_)
         rotate_left 1
         · simp only [ev, put_some, reduceIte, Nat.reduceEqDiff, *]; rfl)
      | (refine r_ret (vs := ?_) ?_ ?_
         rotate_left 1
         · simp only [resV, ev, put_some, reduceIte, Nat.reduceEqDiff, Option.map_some, *]; rfl)
      | (with_reducible refine specPlayGroup_ok _ ?_ _ _ ?_ ?_
         rotate_left 1
         · first | assumption | exact Sl.old (by assumption) _ | ((try (simp only [deskV, deskL, mset_some, mset_none, set_at, set_at0, List.set_cons_succ, List.set_cons_zero, List.append_assoc, List.cons_append, List.nil_append, List.length_append, List.length_cons, List.length_nil, Nat.zero_add, Nat.add_zero, Nat.reduceAdd, Nat.add_assoc])); first | exact Sl.old (by assumption) _ | exact sl_nilints | exact sl_nilitems | (refine sl_ints (Nat.le_refl _) ?_; exact rfl) | (refine sl_items (Nat.le_refl _) ?_; exact rfl) | (refine sl_ints0 (Nat.le_refl _) ?_; exact rfl) | (refine sl_items0 (Nat.le_refl _) ?_; exact rfl))
         · first | omega | (simp only [List.length_nil]; omega)
         )
      | (with_reducible exact toGroup_ok _ _)
      | (with_reducible refine toIntS_ok ?_ _ _ ?_ ?_
         rotate_left 1
         · first | assumption | exact Sl.old (by assumption) _ | ((try (simp only [deskV, deskL, mset_some, mset_none, set_at, set_at0, List.set_cons_succ, List.set_cons_zero, List.append_assoc, List.cons_append, List.nil_append, List.length_append, List.length_cons, List.length_nil, Nat.zero_add, Nat.add_zero, Nat.reduceAdd, Nat.add_assoc])); first | exact Sl.old (by assumption) _ | exact sl_nilints | exact sl_nilitems | (refine sl_ints (Nat.le_refl _) ?_; exact rfl) | (refine sl_items (Nat.le_refl _) ?_; exact rfl) | (refine sl_ints0 (Nat.le_refl _) ?_; exact rfl) | (refine sl_items0 (Nat.le_refl _) ?_; exact rfl))
         · first | omega | (simp only [List.length_nil]; omega)
         )
      | (with_reducible refine implPlayGroup_ok _ ?_ _ _ ?_ ?_
         rotate_left 1
         · first | assumption | exact Sl.old (by assumption) _ | ((try (simp only [deskV, deskL, mset_some, mset_none, set_at, set_at0, List.set_cons_succ, List.set_cons_zero, List.append_assoc, List.cons_append, List.nil_append, List.length_append, List.length_cons, List.length_nil, Nat.zero_add, Nat.add_zero, Nat.reduceAdd, Nat.add_assoc])); first | exact Sl.old (by assumption) _ | exact sl_nilints | exact sl_nilitems | (refine sl_ints (Nat.le_refl _) ?_; exact rfl) | (refine sl_items (Nat.le_refl _) ?_; exact rfl) | (refine sl_ints0 (Nat.le_refl _) ?_; exact rfl) | (refine sl_items0 (Nat.le_refl _) ?_; exact rfl))
         · first | omega | (simp only [List.length_nil]; omega)
         )
      | (with_reducible exact eqGroup_ok _ _ _)
      | (with_reducible refine eqBoolS_ok ?_ ?_ _ _ _ ?_ ?_ ?_ ?_
         rotate_left 2
         · first | assumption | exact Sl.old (by assumption) _ | ((try (simp only [deskV, deskL, mset_some, mset_none, set_at, set_at0, List.set_cons_succ, List.set_cons_zero, List.append_assoc, List.cons_append, List.nil_append, List.length_append, List.length_cons, List.length_nil, Nat.zero_add, Nat.add_zero, Nat.reduceAdd, Nat.add_assoc])); first | exact Sl.old (by assumption) _ | exact sl_nilbools | (refine sl_bools (Nat.le_refl _) ?_ ?_; (exact rfl); first | rfl | assumption | omega) | (refine sl_bools0 (Nat.le_refl _) ?_ ?_; (exact rfl); first | rfl | assumption | omega))
         · first | assumption | exact Sl.old (by assumption) _ | ((try (simp only [deskV, deskL, mset_some, mset_none, set_at, set_at0, List.set_cons_succ, List.set_cons_zero, List.append_assoc, List.cons_append, List.nil_append, List.length_append, List.length_cons, List.length_nil, Nat.zero_add, Nat.add_zero, Nat.reduceAdd, Nat.add_assoc])); first | exact Sl.old (by assumption) _ | exact sl_nilbools | (refine sl_bools (Nat.le_refl _) ?_ ?_; (exact rfl); first | rfl | assumption | omega) | (refine sl_bools0 (Nat.le_refl _) ?_ ?_; (exact rfl); first | rfl | assumption | omega))
         · first | omega | simp
         · first | omega | simp
         )
      | (with_reducible refine eqIntS_ok ?_ ?_ _ _ _ ?_ ?_ ?_ ?_
         rotate_left 2
         · first | assumption | exact Sl.old (by assumption) _ | ((try (simp only [deskV, deskL, mset_some, mset_none, set_at, set_at0, List.set_cons_succ, List.set_cons_zero, List.append_assoc, List.cons_append, List.nil_append, List.length_append, List.length_cons, List.length_nil, Nat.zero_add, Nat.add_zero, Nat.reduceAdd, Nat.add_assoc])); first | exact Sl.old (by assumption) _ | exact sl_nilints | exact sl_nilitems | (refine sl_ints (Nat.le_refl _) ?_; exact rfl) | (refine sl_items (Nat.le_refl _) ?_; exact rfl) | (refine sl_ints0 (Nat.le_refl _) ?_; exact rfl) | (refine sl_items0 (Nat.le_refl _) ?_; exact rfl))
         · first | assumption | exact Sl.old (by assumption) _ | ((try (simp only [deskV, deskL, mset_some, mset_none, set_at, set_at0, List.set_cons_succ, List.set_cons_zero, List.append_assoc, List.cons_append, List.nil_append, List.length_append, List.length_cons, List.length_nil, Nat.zero_add, Nat.add_zero, Nat.reduceAdd, Nat.add_assoc])); first | exact Sl.old (by assumption) _ | exact sl_nilints | exact sl_nilitems | (refine sl_ints (Nat.le_refl _) ?_; exact rfl) | (refine sl_items (Nat.le_refl _) ?_; exact rfl) | (refine sl_ints0 (Nat.le_refl _) ?_; exact rfl) | (refine sl_items0 (Nat.le_refl _) ?_; exact rfl))
         · grind
         · grind
         )
      | (with_reducible refine markIntS_ok ?_ ?_ _ _ _ ?_ ?_ ?_
         rotate_left 2
         · first | assumption | exact Own.old (by assumption) _ | ((try (simp only [deskV, deskL, mset_some, mset_none, set_at, set_at0, List.set_cons_succ, List.set_cons_zero, List.append_assoc, List.cons_append, List.nil_append, List.length_append, List.length_cons, List.length_nil, Nat.zero_add, Nat.add_zero, Nat.reduceAdd, Nat.add_assoc])); first | exact Own.old (by assumption) _ | exact Own.nil _ | (refine Own.at ?_ ?_ (Nat.le_refl _); (exact rfl); first | exact ints_flen _ | exact items_flen _ | (simp only [marksC_length]; done) | (simp only [marksC_length]; omega)) | (refine Own.at0 ?_ ?_ (Nat.le_refl _); (exact rfl); first | exact ints_flen _ | exact items_flen _ | (simp only [marksC_length]; done) | (simp only [marksC_length]; omega)))
         · first | omega | (simp only [List.length_nil]; omega)
         · first | omega | (simp only [List.length_nil]; omega)
         )
      | (with_reducible refine markBoolS_ok ?_ ?_ _ _ _ ?_ ?_ ?_
         rotate_left 2
         · first | assumption | exact Own.old (by assumption) _ | ((try (simp only [deskV, deskL, mset_some, mset_none, set_at, set_at0, List.set_cons_succ, List.set_cons_zero, List.append_assoc, List.cons_append, List.nil_append, List.length_append, List.length_cons, List.length_nil, Nat.zero_add, Nat.add_zero, Nat.reduceAdd, Nat.add_assoc])); first | exact Own.old (by assumption) _ | exact Own.nil _ | (refine Own.at ?_ ?_ (Nat.le_refl _); (exact rfl); simp only [bools_len, marksB_length]; omega) | (refine Own.at0 ?_ ?_ (Nat.le_refl _); (exact rfl); simp only [bools_len, marksB_length]; omega))
         · first | omega | (simp only [List.length_nil]; omega)
         · first | omega | (simp only [List.length_nil]; omega)
         )
      | (with_reducible refine heldBoolS_ok ?_ _ _ _ ?_ ?_ ?_
         rotate_left 1
         · first | assumption | exact Own.old (by assumption) _ | ((try (simp only [deskV, deskL, mset_some, mset_none, set_at, set_at0, List.set_cons_succ, List.set_cons_zero, List.append_assoc, List.cons_append, List.nil_append, List.length_append, List.length_cons, List.length_nil, Nat.zero_add, Nat.add_zero, Nat.reduceAdd, Nat.add_assoc])); first | exact Own.old (by assumption) _ | exact Own.nil _ | (refine Own.at ?_ ?_ (Nat.le_refl _); (exact rfl); simp only [bools_len, marksB_length]; omega) | (refine Own.at0 ?_ ?_ (Nat.le_refl _); (exact rfl); simp only [bools_len, marksB_length]; omega))
         · first | omega | (simp only [List.length_nil]; omega)
         · first | omega | (simp only [List.length_nil]; omega)
         )
      | rintro _ _ ⟨rfl, rfl⟩
      )
    all_goals first | rfl | (exfalso; simp at hb; done) | (exfalso; simp at hb; omega)
end Go.Proofs.Ytodpfcgjlcecmaa.Am

