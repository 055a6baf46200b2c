/- Walks of drawn groups. Conditions: none. -/
import Derived.Test.YtiddnhhjlipebaaW30
import Derived.Test.YtiddnhhjlipebaaW22
namespace Go.Proofs.Ytiddnhhjlipebaa.Am
open Go Go.Proofs
set_option linter.unusedVariables false
set_option linter.unusedSimpArgs false
set_option maxRecDepth 100000
set_option maxHeartbeats 8000000

theorem CurAt.at2 {h L : Heap} {c : Cur} {k : Nat} (hs : Sl h c.v 1 (bytesR c.code)) (hne : bid c.v ≠ some h.length) (hb : c.bud k) : CurAt (h ++ c.blk :: L) h.length c := CurAt.at hs hne hb.1
theorem pick_ok2 (c : Cur) (n : Int) (id k : Nat) (h : Heap) (hc : CurAt h id c) (hb : c.bud k) (hk : k < 1000000) :
    ACalls Try.prog 0 81 #[.pointer (some ⟨id, 0, none⟩), .int .i64 n] h fun v h' => v = .int .i64 (c.pick n).1 ∧ h' = h.set id (c.pick n).2.blk := pick_ok c n id h hc (by have := hb.2; omega)
theorem one_ok2 (c : Cur) (n : Int) (id k : Nat) (h : Heap) (hc : CurAt h id c) (hb : c.bud k) (hk : k < 1000000) :
    ACalls Try.prog 0 82 #[.pointer (some ⟨id, 0, none⟩), .int .i64 n] h fun v h' => v = .bool (decide ((c.pick n).1 = 0)) ∧ h' = h.set id (c.pick n).2.blk := one_ok c n id h hc (by have := hb.2; omega)

theorem among_ok2 (c : Cur) (l : List Int) (vl : Value) (id k : Nat) (h : Heap) (hc : CurAt h id c) (hb : c.bud k) (hk : k < 1000000) (hs : Sl h vl 1 (ints l)) (hne : bid vl ≠ some id) (hl : 1 ≤ l.length) (hl2 : l.length ≤ 1000) :
    ACalls Try.prog 0 83 #[.pointer (some ⟨id, 0, none⟩), vl] h fun v h' => v = .int .i64 (l.getD (c.pick l.length).1.toNat 0) ∧ h' = h.set id (c.pick l.length).2.blk := among_ok c l vl id h hc (by have := hb.2; omega) hs hne hl hl2
theorem Cur.bud_mono {c : Cur} {a b : Nat} (h : c.bud a) (hab : a ≤ b) : c.bud b := ⟨h.1, Nat.le_trans h.2 hab⟩

theorem group_at (c : Cur) (k : Nat) (h L : Heap) (hs0 : Sl h c.v 1 (bytesR c.code)) (hne : bid c.v ≠ some h.length) (hbud : c.bud k) (hk : k < 100000) :
    ACalls Try.prog 0 80 #[.pointer (some ⟨h.length, 0, none⟩)] (h ++ c.blk :: L)
    fun v h' => ∃ (g : Grp) (c' : Cur) (E : Heap), v = .agg g.cells.toArray ∧ h' = h ++ c'.blk :: (L ++ E) ∧ c'.v = c.v ∧ c'.code = c.code ∧ c'.bud (k + 20) := by
  refine acalls_fn Try.func80 rfl Try.ntmps80 (by simp) (by dsimp only [Try.f80]) ?_
  repeat' (first
    | ((with_reducible refine eq_go ?_); simp only [stp, ev, put_some, put_none, argT_list, List.getD_cons_zero, List.getD_cons_succ, reduceIte, Nat.reduceEqDiff, Option.map_some, Array.map_empty, List.map_toArray, List.map_cons, List.map_nil, List.append_toArray, Array.append_empty, Array.empty_append, List.nil_append, List.append_nil, and_self, if_true, decide_true, decide_false, Int.toNat_natCast, Int.natCast_nonneg, List.length_map, binV_add, binV_sub, binV_and, binV_shr, binV_shl, binV_str_eql, binV_str_neq, binV_mul, binV_eql, binV_neq, binV_lss, binV_leq, binV_gtr, binV_geq, unV_not, Bool.not_true, Bool.not_false, Bool.cond_true, Bool.cond_false, bld, fillL, vcs, splice, List.getElem?_toArray, List.getElem?_cons_zero, List.getElem?_cons_succ, true_and, ldv, stv, vcs, fldA, blt, lenV, List.size_toArray, List.length_cons, List.length_nil, Nat.zero_add, Array.getD_eq_getD_getElem?, List.getElem?_toArray, List.getElem?_cons_zero, List.getElem?_cons_succ, Option.getD_some, Option.isSome_some, Nat.add_assoc, List.toList_toArray, eq_self, Option.bind_some, List.append_assoc, List.cons_append, List.length_append, List.length_cons, List.length_nil, Nat.zero_add, Nat.add_zero, Nat.reduceAdd, Nat.reduceMul, Nat.reduceLeDiff, mset_some, mset_none, set_at, set_at0, killL_nil, killL_cons, getC_succ2, getC_succ3, getC_succ4, getC_succ5, getC_succ6, loadCs_succ2, loadCs_succ3, loadCs_succ4, loadCs_succ5, loadCs_succ6, setCs_succ2, setCs_succ3, setCs_succ4, setCs_succ5, setCs_succ6, getC_at, getC_at0, getC_zero, getC_succ, loadCs_at, loadCs_at0, loadCs_zero, loadCs_succ, setCs_at, setCs_at0, setCs_zero, setCs_succ, splice, List.set_cons_succ, List.set_cons_zero, List.getElem?_cons_zero, List.getElem?_cons_succ, List.drop_zero, List.drop_succ_cons, List.take_succ_cons, List.take_zero, newB, vcs, flat_int, flat_bool, flat_string, flat_slice, flat_pointer, flat_func, flat_nilFunc, List.all_cons, List.all_nil, Bool.and_true, Bool.and_self, Ty.ld3, Ty.sz3, Ty.zc3, Ty.by3, Ty.ld4, Ty.sz4, Ty.zc4, Ty.by4, Ty.ld5, Ty.sz5, Ty.zc5, Ty.by5, Ty.ld24, Ty.sz24, Ty.sl24, Ty.zc24, Ty.by24, Ty.ld25, Ty.sz25, Ty.zc25, Ty.by25, Ty.pl25, Ty.fl25_0, Ty.fl25_1, Ty.fl25_2, Ty.fl25_3, Ty.fl25_4, Ty.fl25_5, Ty.ld37, Ty.sz37, Ty.sl37, Ty.zc37, Ty.by37, Ty.ld103, Ty.sz103, Ty.zc103, Ty.by103, Ty.ld104, Ty.sz104, Ty.zc104, Ty.by104, Ty.ld106, Ty.sz106, Ty.zc106, Ty.by106, Ty.pl106, Ty.fl106_0, Ty.fl106_1, Ty.fl106_2, *]; rfl)
    | (with_reducible refine aw_then ?_) | (with_reducible refine aw_skip ?_) | (with_reducible refine aw_ret ?_) | (with_reducible refine aw_exit ?_) | (with_reducible refine aw_block ?_) | (with_reducible refine xr_reg (by decide +kernel) ?_)
    | (with_reducible refine xr_nil ?_) | (with_reducible refine k_norm ?_) | (with_reducible refine k_ret ?_) | (with_reducible refine k_exit ?_) | (with_reducible refine b_norm ?_) | (with_reducible refine b_ret ?_) | (with_reducible refine b_exit ?_) | (with_reducible refine b_past (by decide) ?_)
    | (with_reducible refine xd_nil ?_)
    | (refine xr_cl (f := ?_) (fs := ?_) (cs := ?_) (args := ?_) (K := ?_) ?_ ?_ ?_ ?_ ?_
       rotate_left 5
       · simp only [ev]; rfl
       first
       | (· with_reducible exact Ty.ok81
          rotate_left 2
          refine hk_tag 81 ?_
          rotate_right 2)
       | (· with_reducible exact Ty.ok82
          rotate_left 2
          refine hk_tag 82 ?_
          rotate_right 2)
       | (· with_reducible exact Ty.ok83
          rotate_left 2
          refine hk_tag 83 ?_
          rotate_right 2)
       | (· with_reducible exact Ty.ok85
          rotate_left 2
          refine hk_tag 85 ?_
          rotate_right 2)
       )
    | (refine xd_cl (f := ?_) (fs := ?_) (cs := ?_) (args := ?_) (v := ?_) ?_ ?_ ?_ ?_ ?_ ?_
       rotate_left 5
       · simp only [ev]; rfl
       · first | with_reducible exact Ty.ok81 | with_reducible exact Ty.ok82 | with_reducible exact Ty.ok83 | with_reducible exact Ty.ok85
       rotate_left 1
       · decide +kernel
       rotate_right 1)
    | (refine xr_do (v := ?_) (h' := ?_) (by exact rfl) ?_ ?_; rotate_left 2)
    | (refine xr_st (v := ?_) (h' := ?_) (by exact rfl) ?_ ?_; rotate_left 2)
    | (refine xe_reg (ms := [0, 1, 0, 0, 0, 16, 56, 120, 252, 511, 1023, 2047]) Ty.mx (by decide +kernel) (by decide +kernel) [[],[],[],[],[],[],[],[],[h.length],[],[],[h.length+(L.length+2)]] ?_)
    | (with_reducible refine xe_nil ?_)
    | (refine xe_do (v := ?_) (ids := [h.length]) (by exact rfl) (by decide +kernel) (by exact rfl) (by exact rfl) ?_ ?_; rotate_left 1)
    | (refine xe_st (v := ?_) (a := ?_) (h' := ?_) (ids := [h.length]) (by decide +kernel) (by exact rfl) ?_ ?_ ?_ ?_ ?_
       rotate_left 3
       · simp only [stp, ev, put_some, put_none, argT_list, List.getD_cons_zero, List.getD_cons_succ, reduceIte, Nat.reduceEqDiff, Option.map_some, Array.map_empty, List.map_toArray, List.map_cons, List.map_nil, List.append_toArray, Array.append_empty, Array.empty_append, List.nil_append, List.append_nil, and_self, if_true, decide_true, decide_false, Int.toNat_natCast, Int.natCast_nonneg, List.length_map, binV_add, binV_sub, binV_and, binV_shr, binV_shl, binV_str_eql, binV_str_neq, binV_mul, binV_eql, binV_neq, binV_lss, binV_leq, binV_gtr, binV_geq, unV_not, Bool.not_true, Bool.not_false, Bool.cond_true, Bool.cond_false, bld, fillL, vcs, splice, List.getElem?_toArray, List.getElem?_cons_zero, List.getElem?_cons_succ, true_and, ldv, stv, vcs, fldA, blt, lenV, List.size_toArray, List.length_cons, List.length_nil, Nat.zero_add, Array.getD_eq_getD_getElem?, List.getElem?_toArray, List.getElem?_cons_zero, List.getElem?_cons_succ, Option.getD_some, Option.isSome_some, Nat.add_assoc, List.toList_toArray, eq_self, Option.bind_some, List.append_assoc, List.cons_append, List.length_append, List.length_cons, List.length_nil, Nat.zero_add, Nat.add_zero, Nat.reduceAdd, Nat.reduceMul, Nat.reduceLeDiff, mset_some, mset_none, set_at, set_at0, killL_nil, killL_cons, getC_succ2, getC_succ3, getC_succ4, getC_succ5, getC_succ6, loadCs_succ2, loadCs_succ3, loadCs_succ4, loadCs_succ5, loadCs_succ6, setCs_succ2, setCs_succ3, setCs_succ4, setCs_succ5, setCs_succ6, getC_at, getC_at0, getC_zero, getC_succ, loadCs_at, loadCs_at0, loadCs_zero, loadCs_succ, setCs_at, setCs_at0, setCs_zero, setCs_succ, splice, List.set_cons_succ, List.set_cons_zero, List.getElem?_cons_zero, List.getElem?_cons_succ, List.drop_zero, List.drop_succ_cons, List.take_succ_cons, List.take_zero, newB, vcs, flat_int, flat_bool, flat_string, flat_slice, flat_pointer, flat_func, flat_nilFunc, List.all_cons, List.all_nil, Bool.and_true, Bool.and_self, Ty.ld3, Ty.sz3, Ty.zc3, Ty.by3, Ty.ld4, Ty.sz4, Ty.zc4, Ty.by4, Ty.ld5, Ty.sz5, Ty.zc5, Ty.by5, Ty.ld24, Ty.sz24, Ty.sl24, Ty.zc24, Ty.by24, Ty.ld25, Ty.sz25, Ty.zc25, Ty.by25, Ty.pl25, Ty.fl25_0, Ty.fl25_1, Ty.fl25_2, Ty.fl25_3, Ty.fl25_4, Ty.fl25_5, Ty.ld37, Ty.sz37, Ty.sl37, Ty.zc37, Ty.by37, Ty.ld103, Ty.sz103, Ty.zc103, Ty.by103, Ty.ld104, Ty.sz104, Ty.zc104, Ty.by104, Ty.ld106, Ty.sz106, Ty.zc106, Ty.by106, Ty.pl106, Ty.fl106_0, Ty.fl106_1, Ty.fl106_2, *]; rfl
       · exact rfl
       · simp
       skip)
    | (refine xe_do (v := ?_) (ids := []) (by exact rfl) (by decide +kernel) (by exact rfl) (by exact rfl) ?_ ?_; rotate_left 1)
    | (refine xe_st (v := ?_) (a := ?_) (h' := ?_) (ids := []) (by decide +kernel) (by exact rfl) ?_ ?_ ?_ ?_ ?_
       rotate_left 3
       · simp only [stp, ev, put_some, put_none, argT_list, List.getD_cons_zero, List.getD_cons_succ, reduceIte, Nat.reduceEqDiff, Option.map_some, Array.map_empty, List.map_toArray, List.map_cons, List.map_nil, List.append_toArray, Array.append_empty, Array.empty_append, List.nil_append, List.append_nil, and_self, if_true, decide_true, decide_false, Int.toNat_natCast, Int.natCast_nonneg, List.length_map, binV_add, binV_sub, binV_and, binV_shr, binV_shl, binV_str_eql, binV_str_neq, binV_mul, binV_eql, binV_neq, binV_lss, binV_leq, binV_gtr, binV_geq, unV_not, Bool.not_true, Bool.not_false, Bool.cond_true, Bool.cond_false, bld, fillL, vcs, splice, List.getElem?_toArray, List.getElem?_cons_zero, List.getElem?_cons_succ, true_and, ldv, stv, vcs, fldA, blt, lenV, List.size_toArray, List.length_cons, List.length_nil, Nat.zero_add, Array.getD_eq_getD_getElem?, List.getElem?_toArray, List.getElem?_cons_zero, List.getElem?_cons_succ, Option.getD_some, Option.isSome_some, Nat.add_assoc, List.toList_toArray, eq_self, Option.bind_some, List.append_assoc, List.cons_append, List.length_append, List.length_cons, List.length_nil, Nat.zero_add, Nat.add_zero, Nat.reduceAdd, Nat.reduceMul, Nat.reduceLeDiff, mset_some, mset_none, set_at, set_at0, killL_nil, killL_cons, getC_succ2, getC_succ3, getC_succ4, getC_succ5, getC_succ6, loadCs_succ2, loadCs_succ3, loadCs_succ4, loadCs_succ5, loadCs_succ6, setCs_succ2, setCs_succ3, setCs_succ4, setCs_succ5, setCs_succ6, getC_at, getC_at0, getC_zero, getC_succ, loadCs_at, loadCs_at0, loadCs_zero, loadCs_succ, setCs_at, setCs_at0, setCs_zero, setCs_succ, splice, List.set_cons_succ, List.set_cons_zero, List.getElem?_cons_zero, List.getElem?_cons_succ, List.drop_zero, List.drop_succ_cons, List.take_succ_cons, List.take_zero, newB, vcs, flat_int, flat_bool, flat_string, flat_slice, flat_pointer, flat_func, flat_nilFunc, List.all_cons, List.all_nil, Bool.and_true, Bool.and_self, Ty.ld3, Ty.sz3, Ty.zc3, Ty.by3, Ty.ld4, Ty.sz4, Ty.zc4, Ty.by4, Ty.ld5, Ty.sz5, Ty.zc5, Ty.by5, Ty.ld24, Ty.sz24, Ty.sl24, Ty.zc24, Ty.by24, Ty.ld25, Ty.sz25, Ty.zc25, Ty.by25, Ty.pl25, Ty.fl25_0, Ty.fl25_1, Ty.fl25_2, Ty.fl25_3, Ty.fl25_4, Ty.fl25_5, Ty.ld37, Ty.sz37, Ty.sl37, Ty.zc37, Ty.by37, Ty.ld103, Ty.sz103, Ty.zc103, Ty.by103, Ty.ld104, Ty.sz104, Ty.zc104, Ty.by104, Ty.ld106, Ty.sz106, Ty.zc106, Ty.by106, Ty.pl106, Ty.fl106_0, Ty.fl106_1, Ty.fl106_2, *]; rfl
       · exact rfl
       · simp
       skip)
    | (refine xe_alloc (z := ?_) ?_ ?_ (by exact rfl) ?_
       rotate_left 1
       · first | exact Ty.zc3 | exact Ty.zc24 | exact Ty.zc25 | exact Ty.zc103
       · decide)
    | (refine xe_cset (f := ?_) (fs := ?_) (cs := ?_) (args := ?_) (v := ?_) (id := ?_) (b := ?_) (b0 := ?_) ?_ ?_ ?_ (by decide +kernel) (by exact rfl) ?_ ?_ ?_ ?_ ?_
       rotate_left 8
       · simp only [ev]; rfl
       · first | with_reducible exact Ty.ok81 | with_reducible exact Ty.ok82 | with_reducible exact Ty.ok83 | with_reducible exact Ty.ok85
       · simp only [stp, ev, put_some, put_none, argT_list, List.getD_cons_zero, List.getD_cons_succ, reduceIte, Nat.reduceEqDiff, Option.map_some, Array.map_empty, List.map_toArray, List.map_cons, List.map_nil, List.append_toArray, Array.append_empty, Array.empty_append, List.nil_append, List.append_nil, and_self, if_true, decide_true, decide_false, Int.toNat_natCast, Int.natCast_nonneg, List.length_map, binV_add, binV_sub, binV_and, binV_shr, binV_shl, binV_str_eql, binV_str_neq, binV_mul, binV_eql, binV_neq, binV_lss, binV_leq, binV_gtr, binV_geq, unV_not, Bool.not_true, Bool.not_false, Bool.cond_true, Bool.cond_false, bld, fillL, vcs, splice, List.getElem?_toArray, List.getElem?_cons_zero, List.getElem?_cons_succ, true_and, ldv, stv, vcs, fldA, blt, lenV, List.size_toArray, List.length_cons, List.length_nil, Nat.zero_add, Array.getD_eq_getD_getElem?, List.getElem?_toArray, List.getElem?_cons_zero, List.getElem?_cons_succ, Option.getD_some, Option.isSome_some, Nat.add_assoc, List.toList_toArray, eq_self, Option.bind_some, List.append_assoc, List.cons_append, List.length_append, List.length_cons, List.length_nil, Nat.zero_add, Nat.add_zero, Nat.reduceAdd, Nat.reduceMul, Nat.reduceLeDiff, mset_some, mset_none, set_at, set_at0, killL_nil, killL_cons, getC_succ2, getC_succ3, getC_succ4, getC_succ5, getC_succ6, loadCs_succ2, loadCs_succ3, loadCs_succ4, loadCs_succ5, loadCs_succ6, setCs_succ2, setCs_succ3, setCs_succ4, setCs_succ5, setCs_succ6, getC_at, getC_at0, getC_zero, getC_succ, loadCs_at, loadCs_at0, loadCs_zero, loadCs_succ, setCs_at, setCs_at0, setCs_zero, setCs_succ, splice, List.set_cons_succ, List.set_cons_zero, List.getElem?_cons_zero, List.getElem?_cons_succ, List.drop_zero, List.drop_succ_cons, List.take_succ_cons, List.take_zero, newB, vcs, flat_int, flat_bool, flat_string, flat_slice, flat_pointer, flat_func, flat_nilFunc, List.all_cons, List.all_nil, Bool.and_true, Bool.and_self, Ty.ld3, Ty.sz3, Ty.zc3, Ty.by3, Ty.ld4, Ty.sz4, Ty.zc4, Ty.by4, Ty.ld5, Ty.sz5, Ty.zc5, Ty.by5, Ty.ld24, Ty.sz24, Ty.sl24, Ty.zc24, Ty.by24, Ty.ld25, Ty.sz25, Ty.zc25, Ty.by25, Ty.pl25, Ty.fl25_0, Ty.fl25_1, Ty.fl25_2, Ty.fl25_3, Ty.fl25_4, Ty.fl25_5, Ty.ld37, Ty.sz37, Ty.sl37, Ty.zc37, Ty.by37, Ty.ld103, Ty.sz103, Ty.zc103, Ty.by103, Ty.ld104, Ty.sz104, Ty.zc104, Ty.by104, Ty.ld106, Ty.sz106, Ty.zc106, Ty.by106, Ty.pl106, Ty.fl106_0, Ty.fl106_1, Ty.fl106_2, *]; rfl
       rotate_left 1
       · first
         | (with_reducible refine pick_ok2 ?_ _ _ ?_ _ ?_ ?_ ?_
            rotate_left 2
            · ((try (simp only [set_at, set_at0, List.set_cons_succ, List.set_cons_zero, List.append_assoc, List.cons_append, List.nil_append])); refine CurAt.at2 (k := ?_) ?_ ?_ ?_; rotate_left 1; (simpa only [Cur.pick_v1, Cur.pick_v2] using hs0); (simpa only [Cur.pick_v1] using hne); ((repeat' (first | exact hbud | refine Cur.pick_bud (k := ?_) ?_ ?_ _)) <;> omega))
            · ((repeat' (first | exact hbud | refine Cur.pick_bud (k := ?_) ?_ ?_ _)) <;> omega)
            · omega
            )
         | (with_reducible refine one_ok2 ?_ _ _ ?_ _ ?_ ?_ ?_
            rotate_left 2
            · ((try (simp only [set_at, set_at0, List.set_cons_succ, List.set_cons_zero, List.append_assoc, List.cons_append, List.nil_append])); refine CurAt.at2 (k := ?_) ?_ ?_ ?_; rotate_left 1; (simpa only [Cur.pick_v1, Cur.pick_v2] using hs0); (simpa only [Cur.pick_v1] using hne); ((repeat' (first | exact hbud | refine Cur.pick_bud (k := ?_) ?_ ?_ _)) <;> omega))
            · ((repeat' (first | exact hbud | refine Cur.pick_bud (k := ?_) ?_ ?_ _)) <;> omega)
            · omega
            )
         | (with_reducible refine among_ok2 ?_ [0, 20, 21] _ _ ?_ _ ?_ ?_ ?_ ?_ ?_ ?_ ?_
            rotate_left 2
            · ((try (simp only [set_at, set_at0, List.set_cons_succ, List.set_cons_zero, List.append_assoc, List.cons_append, List.nil_append])); refine CurAt.at2 (k := ?_) ?_ ?_ ?_; rotate_left 1; (simpa only [Cur.pick_v1, Cur.pick_v2] using hs0); (simpa only [Cur.pick_v1] using hne); ((repeat' (first | exact hbud | refine Cur.pick_bud (k := ?_) ?_ ?_ _)) <;> omega))
            · ((repeat' (first | exact hbud | refine Cur.pick_bud (k := ?_) ?_ ?_ _)) <;> omega)
            · omega
            · ((try (simp only [set_at, set_at0, List.set_cons_zero, List.append_assoc, List.cons_append, List.nil_append])); refine sl_at (k := L.length + 3) ?_ (ints_len _) ?_ (Nat.le_refl _); (rw [show L.length + 3 = (L.length + 2) + 1 from rfl, List.getElem?_cons_succ, List.getElem?_append_right (Nat.le_add_right _ _), Nat.add_sub_cancel_left]; rfl); rfl)
            · simp only [bid, ne_eq, Option.some.injEq]; omega
            · decide
            · decide
            )
         | (with_reducible refine l1Least_ok _ _ _
            )
       rotate_right 1
       · exact rfl
       · simp only [get_at, get_at0, List.append_assoc, List.cons_append]; rfl
       · simp [Cur.blk]
       skip)
    | (refine xe_pure (ids := []) (f := ?_) (fs := ?_) (cs := ?_) (args := ?_) (v := ?_) ?_ ?_ ?_ (by decide +kernel) (by exact rfl) (by exact rfl) ?_ ?_
       rotate_left 5
       · simp only [ev]; rfl
       · first | with_reducible exact Ty.ok81 | with_reducible exact Ty.ok82 | with_reducible exact Ty.ok83 | with_reducible exact Ty.ok85
       · simp only [stp, ev, put_some, put_none, argT_list, List.getD_cons_zero, List.getD_cons_succ, reduceIte, Nat.reduceEqDiff, Option.map_some, Array.map_empty, List.map_toArray, List.map_cons, List.map_nil, List.append_toArray, Array.append_empty, Array.empty_append, List.nil_append, List.append_nil, and_self, if_true, decide_true, decide_false, Int.toNat_natCast, Int.natCast_nonneg, List.length_map, binV_add, binV_sub, binV_and, binV_shr, binV_shl, binV_str_eql, binV_str_neq, binV_mul, binV_eql, binV_neq, binV_lss, binV_leq, binV_gtr, binV_geq, unV_not, Bool.not_true, Bool.not_false, Bool.cond_true, Bool.cond_false, bld, fillL, vcs, splice, List.getElem?_toArray, List.getElem?_cons_zero, List.getElem?_cons_succ, true_and, ldv, stv, vcs, fldA, blt, lenV, List.size_toArray, List.length_cons, List.length_nil, Nat.zero_add, Array.getD_eq_getD_getElem?, List.getElem?_toArray, List.getElem?_cons_zero, List.getElem?_cons_succ, Option.getD_some, Option.isSome_some, Nat.add_assoc, List.toList_toArray, eq_self, Option.bind_some, List.append_assoc, List.cons_append, List.length_append, List.length_cons, List.length_nil, Nat.zero_add, Nat.add_zero, Nat.reduceAdd, Nat.reduceMul, Nat.reduceLeDiff, mset_some, mset_none, set_at, set_at0, killL_nil, killL_cons, getC_succ2, getC_succ3, getC_succ4, getC_succ5, getC_succ6, loadCs_succ2, loadCs_succ3, loadCs_succ4, loadCs_succ5, loadCs_succ6, setCs_succ2, setCs_succ3, setCs_succ4, setCs_succ5, setCs_succ6, getC_at, getC_at0, getC_zero, getC_succ, loadCs_at, loadCs_at0, loadCs_zero, loadCs_succ, setCs_at, setCs_at0, setCs_zero, setCs_succ, splice, List.set_cons_succ, List.set_cons_zero, List.getElem?_cons_zero, List.getElem?_cons_succ, List.drop_zero, List.drop_succ_cons, List.take_succ_cons, List.take_zero, newB, vcs, flat_int, flat_bool, flat_string, flat_slice, flat_pointer, flat_func, flat_nilFunc, List.all_cons, List.all_nil, Bool.and_true, Bool.and_self, Ty.ld3, Ty.sz3, Ty.zc3, Ty.by3, Ty.ld4, Ty.sz4, Ty.zc4, Ty.by4, Ty.ld5, Ty.sz5, Ty.zc5, Ty.by5, Ty.ld24, Ty.sz24, Ty.sl24, Ty.zc24, Ty.by24, Ty.ld25, Ty.sz25, Ty.zc25, Ty.by25, Ty.pl25, Ty.fl25_0, Ty.fl25_1, Ty.fl25_2, Ty.fl25_3, Ty.fl25_4, Ty.fl25_5, Ty.ld37, Ty.sz37, Ty.sl37, Ty.zc37, Ty.by37, Ty.ld103, Ty.sz103, Ty.zc103, Ty.by103, Ty.ld104, Ty.sz104, Ty.zc104, Ty.by104, Ty.ld106, Ty.sz106, Ty.zc106, Ty.by106, Ty.pl106, Ty.fl106_0, Ty.fl106_1, Ty.fl106_2, *]; rfl
       · first
         | (with_reducible refine pick_ok2 ?_ _ _ ?_ _ ?_ ?_ ?_
            rotate_left 2
            · ((try (simp only [set_at, set_at0, List.set_cons_succ, List.set_cons_zero, List.append_assoc, List.cons_append, List.nil_append])); refine CurAt.at2 (k := ?_) ?_ ?_ ?_; rotate_left 1; (simpa only [Cur.pick_v1, Cur.pick_v2] using hs0); (simpa only [Cur.pick_v1] using hne); ((repeat' (first | exact hbud | refine Cur.pick_bud (k := ?_) ?_ ?_ _)) <;> omega))
            · ((repeat' (first | exact hbud | refine Cur.pick_bud (k := ?_) ?_ ?_ _)) <;> omega)
            · omega
            )
         | (with_reducible refine one_ok2 ?_ _ _ ?_ _ ?_ ?_ ?_
            rotate_left 2
            · ((try (simp only [set_at, set_at0, List.set_cons_succ, List.set_cons_zero, List.append_assoc, List.cons_append, List.nil_append])); refine CurAt.at2 (k := ?_) ?_ ?_ ?_; rotate_left 1; (simpa only [Cur.pick_v1, Cur.pick_v2] using hs0); (simpa only [Cur.pick_v1] using hne); ((repeat' (first | exact hbud | refine Cur.pick_bud (k := ?_) ?_ ?_ _)) <;> omega))
            · ((repeat' (first | exact hbud | refine Cur.pick_bud (k := ?_) ?_ ?_ _)) <;> omega)
            · omega
            )
         | (with_reducible refine among_ok2 ?_ [0, 20, 21] _ _ ?_ _ ?_ ?_ ?_ ?_ ?_ ?_ ?_
            rotate_left 2
            · ((try (simp only [set_at, set_at0, List.set_cons_succ, List.set_cons_zero, List.append_assoc, List.cons_append, List.nil_append])); refine CurAt.at2 (k := ?_) ?_ ?_ ?_; rotate_left 1; (simpa only [Cur.pick_v1, Cur.pick_v2] using hs0); (simpa only [Cur.pick_v1] using hne); ((repeat' (first | exact hbud | refine Cur.pick_bud (k := ?_) ?_ ?_ _)) <;> omega))
            · ((repeat' (first | exact hbud | refine Cur.pick_bud (k := ?_) ?_ ?_ _)) <;> omega)
            · omega
            · ((try (simp only [set_at, set_at0, List.set_cons_zero, List.append_assoc, List.cons_append, List.nil_append])); refine sl_at (k := L.length + 3) ?_ (ints_len _) ?_ (Nat.le_refl _); (rw [show L.length + 3 = (L.length + 2) + 1 from rfl, List.getElem?_cons_succ, List.getElem?_append_right (Nat.le_add_right _ _), Nat.add_sub_cancel_left]; rfl); rfl)
            · simp only [bid, ne_eq, Option.some.injEq]; omega
            · decide
            · decide
            )
         | (with_reducible refine l1Least_ok _ _ _
            )
       skip)
    | (refine xd_do (v := ?_) (by exact rfl) (by decide +kernel) ?_ ?_; rotate_left 1)
    | (refine aw_ift (by decide) ?_ ?_
       · simp only [ev, put_some, reduceIte, Nat.reduceEqDiff, *])
    | (refine aw_iff (by decide) ?_ ?_
       · simp only [ev, put_some, reduceIte, Nat.reduceEqDiff, *])
    | (refine aw_if (b := ?_) (by decide) ?_ (fun hb => ?_) (fun hb => ?_)
       rotate_left 1
       · simp only [ev, put_some, reduceIte, Nat.reduceEqDiff, *]; rfl)
    | (refine r_ret (vs := ?_) ?_ ?_
       rotate_left 1
       · simp only [resV, oneOf, stp, ev, put_some, put_none, argT_list, List.getD_cons_zero, List.getD_cons_succ, reduceIte, Nat.reduceEqDiff, Option.map_some, Array.map_empty, List.map_toArray, List.map_cons, List.map_nil, List.append_toArray, Array.append_empty, Array.empty_append, List.nil_append, List.append_nil, and_self, if_true, decide_true, decide_false, Int.toNat_natCast, Int.natCast_nonneg, List.length_map, binV_add, binV_sub, binV_and, binV_shr, binV_shl, binV_str_eql, binV_str_neq, binV_mul, binV_eql, binV_neq, binV_lss, binV_leq, binV_gtr, binV_geq, unV_not, Bool.not_true, Bool.not_false, Bool.cond_true, Bool.cond_false, bld, fillL, vcs, splice, List.getElem?_toArray, List.getElem?_cons_zero, List.getElem?_cons_succ, true_and, ldv, stv, vcs, fldA, blt, lenV, List.size_toArray, List.length_cons, List.length_nil, Nat.zero_add, Array.getD_eq_getD_getElem?, List.getElem?_toArray, List.getElem?_cons_zero, List.getElem?_cons_succ, Option.getD_some, Option.isSome_some, Nat.add_assoc, List.toList_toArray, eq_self, Option.bind_some, List.append_assoc, List.cons_append, List.length_append, List.length_cons, List.length_nil, Nat.zero_add, Nat.add_zero, Nat.reduceAdd, Nat.reduceMul, Nat.reduceLeDiff, mset_some, mset_none, set_at, set_at0, killL_nil, killL_cons, getC_succ2, getC_succ3, getC_succ4, getC_succ5, getC_succ6, loadCs_succ2, loadCs_succ3, loadCs_succ4, loadCs_succ5, loadCs_succ6, setCs_succ2, setCs_succ3, setCs_succ4, setCs_succ5, setCs_succ6, getC_at, getC_at0, getC_zero, getC_succ, loadCs_at, loadCs_at0, loadCs_zero, loadCs_succ, setCs_at, setCs_at0, setCs_zero, setCs_succ, splice, List.set_cons_succ, List.set_cons_zero, List.getElem?_cons_zero, List.getElem?_cons_succ, List.drop_zero, List.drop_succ_cons, List.take_succ_cons, List.take_zero, newB, vcs, flat_int, flat_bool, flat_string, flat_slice, flat_pointer, flat_func, flat_nilFunc, List.all_cons, List.all_nil, Bool.and_true, Bool.and_self, Ty.ld3, Ty.sz3, Ty.zc3, Ty.by3, Ty.ld4, Ty.sz4, Ty.zc4, Ty.by4, Ty.ld5, Ty.sz5, Ty.zc5, Ty.by5, Ty.ld24, Ty.sz24, Ty.sl24, Ty.zc24, Ty.by24, Ty.ld25, Ty.sz25, Ty.zc25, Ty.by25, Ty.pl25, Ty.fl25_0, Ty.fl25_1, Ty.fl25_2, Ty.fl25_3, Ty.fl25_4, Ty.fl25_5, Ty.ld37, Ty.sz37, Ty.sl37, Ty.zc37, Ty.by37, Ty.ld103, Ty.sz103, Ty.zc103, Ty.by103, Ty.ld104, Ty.sz104, Ty.zc104, Ty.by104, Ty.ld106, Ty.sz106, Ty.zc106, Ty.by106, Ty.pl106, Ty.fl106_0, Ty.fl106_1, Ty.fl106_2, *]; rfl)
    | (with_reducible refine pick_ok2 ?_ _ _ ?_ _ ?_ ?_ ?_
       rotate_left 2
       · ((try (simp only [set_at, set_at0, List.set_cons_succ, List.set_cons_zero, List.append_assoc, List.cons_append, List.nil_append])); refine CurAt.at2 (k := ?_) ?_ ?_ ?_; rotate_left 1; (simpa only [Cur.pick_v1, Cur.pick_v2] using hs0); (simpa only [Cur.pick_v1] using hne); ((repeat' (first | exact hbud | refine Cur.pick_bud (k := ?_) ?_ ?_ _)) <;> omega))
       · ((repeat' (first | exact hbud | refine Cur.pick_bud (k := ?_) ?_ ?_ _)) <;> omega)
       · first | omega | (simp only [List.length_nil]; omega)
       )
    | (with_reducible refine one_ok2 ?_ _ _ ?_ _ ?_ ?_ ?_
       rotate_left 2
       · ((try (simp only [set_at, set_at0, List.set_cons_succ, List.set_cons_zero, List.append_assoc, List.cons_append, List.nil_append])); refine CurAt.at2 (k := ?_) ?_ ?_ ?_; rotate_left 1; (simpa only [Cur.pick_v1, Cur.pick_v2] using hs0); (simpa only [Cur.pick_v1] using hne); ((repeat' (first | exact hbud | refine Cur.pick_bud (k := ?_) ?_ ?_ _)) <;> omega))
       · ((repeat' (first | exact hbud | refine Cur.pick_bud (k := ?_) ?_ ?_ _)) <;> omega)
       · first | omega | (simp only [List.length_nil]; omega)
       )
    | (with_reducible refine among_ok2 ?_ [0, 20, 21] _ _ ?_ _ ?_ ?_ ?_ ?_ ?_ ?_ ?_
       rotate_left 2
       · ((try (simp only [set_at, set_at0, List.set_cons_succ, List.set_cons_zero, List.append_assoc, List.cons_append, List.nil_append])); refine CurAt.at2 (k := ?_) ?_ ?_ ?_; rotate_left 1; (simpa only [Cur.pick_v1, Cur.pick_v2] using hs0); (simpa only [Cur.pick_v1] using hne); ((repeat' (first | exact hbud | refine Cur.pick_bud (k := ?_) ?_ ?_ _)) <;> omega))
       · ((repeat' (first | exact hbud | refine Cur.pick_bud (k := ?_) ?_ ?_ _)) <;> omega)
       · first | omega | (simp only [List.length_nil]; omega)
       · ((try (simp only [set_at, set_at0, List.set_cons_zero, List.append_assoc, List.cons_append, List.nil_append])); refine sl_at (k := L.length + 3) ?_ (ints_len _) ?_ (Nat.le_refl _); (rw [show L.length + 3 = (L.length + 2) + 1 from rfl, List.getElem?_cons_succ, List.getElem?_append_right (Nat.le_add_right _ _), Nat.add_sub_cancel_left]; rfl); rfl)
       · simp only [bid, ne_eq, Option.some.injEq]; omega
       · decide
       · decide
       )
    | (with_reducible exact l1Least_ok _ _ _)
    | ((with_reducible refine HkTag.mk (n := 81) ?_); rintro _ _ ⟨rfl, hh⟩; replace hh := hh.symm; subst hh)
    | ((with_reducible refine HkTag.mk (n := 82) ?_); rintro _ _ ⟨rfl, hh⟩; replace hh := hh.symm; subst hh)
    | ((with_reducible refine HkTag.mk (n := 83) ?_); rintro _ _ ⟨rfl, hh⟩; replace hh := hh.symm; subst hh)
    | ((with_reducible refine HkTag.mk (n := 85) ?_); rintro _ _ ⟨rfl, hh⟩; replace hh := hh.symm; subst hh)
    )
  all_goals refine ⟨⟨_, _, _, _, _, _⟩, _, _, rfl, rfl, ?_, ?_, ?_⟩
  all_goals first | (simp only [Cur.pick_v1, Cur.pick_v2]; done) | (refine Cur.bud_mono (a := ?_) ?_ ?_; rotate_left 1; ((repeat' (first | exact hbud | refine Cur.pick_bud (k := ?_) ?_ ?_ _)) <;> omega); omega)
end Go.Proofs.Ytiddnhhjlipebaa.Am

