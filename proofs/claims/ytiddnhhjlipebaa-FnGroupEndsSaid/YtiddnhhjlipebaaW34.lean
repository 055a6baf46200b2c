/- Walk of the draw of a play. Conditions: none. -/
import Derived.Test.YtiddnhhjlipebaaW33
namespace Go.Proofs.Ytiddnhhjlipebaa.Am
open Go Go.Proofs
set_option linter.unusedVariables false
set_option linter.unusedSimpArgs false
set_option maxRecDepth 100000
set_option maxHeartbeats 8000000

theorem get_deep (E L R : Heap) (Y B X A : Blk) : (Y :: B :: (E ++ X :: (L ++ A :: R)))[E.length + (L.length + 3)]? = some A := by
  rw [show E.length + (L.length + 3) = (E.length + (L.length + 1)) + 1 + 1 by omega, List.getElem?_cons_succ, List.getElem?_cons_succ, get_at, List.getElem?_cons_succ, get_at0]
  rfl
theorem App.sl {h2 L : Heap} {v : Value} {e n : Nat} {rows : List (List Value)} (ha : App n L v e rows.flatten rows.length) (hn : n = h2.length) (hr : ∀ r ∈ rows, r.length = e) : Sl (h2 ++ L) v e rows := by
  subst hn
  rcases ha with ⟨rfl, h1, _⟩ | ⟨_, _, k, rfl, h4⟩
  · rw [List.length_eq_zero_iff.1 h1]; exact Sl.nil _ e
  · exact sl_at h4 hr rfl (Nat.le_refl _)
def amg (c : Cur) : Int := ([1, 1, 2, 2, 2, 3, 4] : List Int).getD (c.pick 7).1.toNat 0
theorem among7 (c : Cur) (vl : Value) (k id : Nat) (H h L : Heap) (hH : H = h ++ c.blk :: L) (hid : id = h.length) (hs0 : Sl h c.v 1 (bytesR c.code)) (hne : bid c.v ≠ some h.length) (hb : c.bud k) (hk : k < 1000000)
    (hs : Sl H vl 1 (ints [1, 1, 2, 2, 2, 3, 4])) (hne2 : bid vl ≠ some id) :
    ACalls Try.prog 0 83 #[.pointer (some ⟨id, 0, none⟩), vl] H fun v h' => v = .int .i64 (amg c) ∧ h' = h ++ (c.pick 7).2.blk :: L :=
  among_ok3 c [1, 1, 2, 2, 2, 3, 4] vl k id H h L hH hid hs0 hne hb hk hs hne2 (by decide) (by decide)

theorem drawPlayGroup_ok (code : List Int) (vc : Value) (h : Heap) (hsl : Sl h vc 1 (bytesR code)) (hbid : ∀ k, bid vc ≠ some (h.length + k)) (hcl : code.length ≤ 9223372036854775807) (hcw : ∀ x ∈ code, 0 ≤ x ∧ x ≤ 255) :
    ACalls Try.prog 0 26 #[vc] h fun v h' => ∃ (g : Grp) (l : List Int) (vl : Value) (E : Heap), v = .tuple #[.agg g.cells.toArray, vl] ∧ h' = h ++ E ∧ Sl (h ++ E) vl 1 (ints l) ∧ l.length ≤ 1000 := by
  obtain ⟨vb, vcap, rfl, hvc, hvrow⟩ := id hsl
  generalize hnn : (bytesR code).length = nn at hsl hbid ⊢
  clear hvrow hvc
  refine acalls_fn Try.func26 rfl Try.ntmps26 (by simp) (by dsimp only [Try.f26]) ?_
  repeat' (first
    | ((with_reducible refine eq_go ?_); simp only [stp, ev, put_some, put_none, argT_list, List.getD_cons_zero, List.getD_cons_succ, reduceIte, Nat.reduceEqDiff, Option.map_some, Array.map_empty, List.map_toArray, List.map_cons, List.map_nil, List.append_toArray, Array.append_empty, Array.empty_append, List.nil_append, List.append_nil, and_self, if_true, decide_true, decide_false, Int.toNat_natCast, Int.natCast_nonneg, List.length_map, binV_add, binV_sub, binV_and, binV_shr, binV_shl, binV_str_eql, binV_str_neq, binV_mul, binV_eql, binV_neq, binV_lss, binV_leq, binV_gtr, binV_geq, unV_not, Bool.not_true, Bool.not_false, Bool.cond_true, Bool.cond_false, bld, fillL, vcs, splice, List.getElem?_toArray, List.getElem?_cons_zero, List.getElem?_cons_succ, true_and, ldv, stv, vcs, blt, lenV, List.size_toArray, List.length_cons, List.length_nil, Nat.zero_add, Array.getD_eq_getD_getElem?, List.getElem?_toArray, List.getElem?_cons_zero, List.getElem?_cons_succ, Option.getD_some, Option.isSome_some, Nat.add_assoc, List.toList_toArray, eq_self, Option.bind_some, List.append_assoc, List.cons_append, List.length_append, List.length_cons, List.length_nil, Nat.zero_add, Nat.add_zero, Nat.reduceAdd, Nat.reduceMul, Nat.reduceLeDiff, mset_some, mset_none, set_at, set_at0, killL_nil, killL_cons, getC_succ2, getC_succ3, getC_succ4, getC_succ5, getC_succ6, loadCs_succ2, loadCs_succ3, loadCs_succ4, loadCs_succ5, loadCs_succ6, setCs_succ2, setCs_succ3, setCs_succ4, setCs_succ5, setCs_succ6, getC_at, getC_at0, getC_zero, getC_succ, loadCs_at, loadCs_at0, loadCs_zero, loadCs_succ, setCs_at, setCs_at0, setCs_zero, setCs_succ, splice, List.set_cons_succ, List.set_cons_zero, List.getElem?_cons_zero, List.getElem?_cons_succ, List.drop_zero, List.drop_succ_cons, List.take_succ_cons, List.take_zero, newB, vcs, flat_int, flat_bool, flat_string, flat_slice, flat_pointer, flat_func, flat_nilFunc, List.all_cons, List.all_nil, Bool.and_true, Bool.and_self, Ty.ld3, Ty.sz3, Ty.zc3, Ty.by3, Ty.ld4, Ty.sz4, Ty.zc4, Ty.by4, Ty.ld5, Ty.sz5, Ty.zc5, Ty.by5, Ty.ld24, Ty.sz24, Ty.sl24, Ty.zc24, Ty.by24, Ty.ld25, Ty.sz25, Ty.zc25, Ty.by25, Ty.pl25, Ty.ld37, Ty.sz37, Ty.sl37, Ty.zc37, Ty.by37, Ty.ld103, Ty.sz103, Ty.zc103, Ty.by103, Ty.ld104, Ty.sz104, Ty.zc104, Ty.by104, Ty.ld106, Ty.sz106, Ty.zc106, Ty.by106, Ty.pl106, Grp.cells_length, Grp.cells_flat, Grp.cells_take, Grp.cells_splice, *]; rfl)
    | (with_reducible refine aw_then ?_) | (with_reducible refine aw_skip ?_) | (with_reducible refine aw_ret ?_) | (with_reducible refine aw_exit ?_) | (with_reducible refine aw_block ?_) | (with_reducible refine xr_reg (by decide +kernel) ?_)
    | (with_reducible refine xr_nil ?_) | (with_reducible refine k_norm ?_) | (with_reducible refine k_ret ?_) | (with_reducible refine k_exit ?_) | (with_reducible refine b_norm ?_) | (with_reducible refine b_ret ?_) | (with_reducible refine b_exit ?_) | (with_reducible refine b_past (by decide) ?_)
    | (refine xr_cl (f := ?_) (fs := ?_) (cs := ?_) (args := ?_) (K := ?_) ?_ ?_ ?_ ?_ ?_
       rotate_left 5
       · simp only [ev]; rfl
       first
       | (· with_reducible exact Ty.ok80
          rotate_left 2
          refine hk_tag 80 ?_
          rotate_right 2)
       | (· with_reducible exact Ty.ok81
          rotate_left 2
          refine hk_tag 81 ?_
          rotate_right 2)
       | (· with_reducible exact Ty.ok82
          rotate_left 2
          refine hk_tag 82 ?_
          rotate_right 2)
       | (· with_reducible exact Ty.ok83
          rotate_left 2
          refine hk_tag 83 ?_
          rotate_right 2)
       )
    | (refine xr_do (v := ?_) (h' := ?_) (by exact rfl) ?_ ?_; rotate_left 2)
    | (refine xr_st (v := ?_) (h' := ?_) (by exact rfl) ?_ ?_; rotate_left 2)
    | (refine aw_ift (by decide) ?_ ?_
       · simp only [ev, put_some, reduceIte, Nat.reduceEqDiff, *])
    | (refine aw_iff (by decide) ?_ ?_
       · simp only [ev, put_some, reduceIte, Nat.reduceEqDiff, *])
    | (refine aw_if (b := ?_) (by decide) ?_ (fun hb => ?_) (fun hb => ?_)
       rotate_left 1
       · simp only [ev, put_some, reduceIte, Nat.reduceEqDiff, *]; rfl)
    | (refine r_ret (vs := ?_) ?_ ?_
       rotate_left 1
       · simp only [resV, oneOf, stp, ev, put_some, put_none, argT_list, List.getD_cons_zero, List.getD_cons_succ, reduceIte, Nat.reduceEqDiff, Option.map_some, Array.map_empty, List.map_toArray, List.map_cons, List.map_nil, List.append_toArray, Array.append_empty, Array.empty_append, List.nil_append, List.append_nil, and_self, if_true, decide_true, decide_false, Int.toNat_natCast, Int.natCast_nonneg, List.length_map, binV_add, binV_sub, binV_and, binV_shr, binV_shl, binV_str_eql, binV_str_neq, binV_mul, binV_eql, binV_neq, binV_lss, binV_leq, binV_gtr, binV_geq, unV_not, Bool.not_true, Bool.not_false, Bool.cond_true, Bool.cond_false, bld, fillL, vcs, splice, List.getElem?_toArray, List.getElem?_cons_zero, List.getElem?_cons_succ, true_and, ldv, stv, vcs, blt, lenV, List.size_toArray, List.length_cons, List.length_nil, Nat.zero_add, Array.getD_eq_getD_getElem?, List.getElem?_toArray, List.getElem?_cons_zero, List.getElem?_cons_succ, Option.getD_some, Option.isSome_some, Nat.add_assoc, List.toList_toArray, eq_self, Option.bind_some, List.append_assoc, List.cons_append, List.length_append, List.length_cons, List.length_nil, Nat.zero_add, Nat.add_zero, Nat.reduceAdd, Nat.reduceMul, Nat.reduceLeDiff, mset_some, mset_none, set_at, set_at0, killL_nil, killL_cons, getC_succ2, getC_succ3, getC_succ4, getC_succ5, getC_succ6, loadCs_succ2, loadCs_succ3, loadCs_succ4, loadCs_succ5, loadCs_succ6, setCs_succ2, setCs_succ3, setCs_succ4, setCs_succ5, setCs_succ6, getC_at, getC_at0, getC_zero, getC_succ, loadCs_at, loadCs_at0, loadCs_zero, loadCs_succ, setCs_at, setCs_at0, setCs_zero, setCs_succ, splice, List.set_cons_succ, List.set_cons_zero, List.getElem?_cons_zero, List.getElem?_cons_succ, List.drop_zero, List.drop_succ_cons, List.take_succ_cons, List.take_zero, newB, vcs, flat_int, flat_bool, flat_string, flat_slice, flat_pointer, flat_func, flat_nilFunc, List.all_cons, List.all_nil, Bool.and_true, Bool.and_self, Ty.ld3, Ty.sz3, Ty.zc3, Ty.by3, Ty.ld4, Ty.sz4, Ty.zc4, Ty.by4, Ty.ld5, Ty.sz5, Ty.zc5, Ty.by5, Ty.ld24, Ty.sz24, Ty.sl24, Ty.zc24, Ty.by24, Ty.ld25, Ty.sz25, Ty.zc25, Ty.by25, Ty.pl25, Ty.ld37, Ty.sz37, Ty.sl37, Ty.zc37, Ty.by37, Ty.ld103, Ty.sz103, Ty.zc103, Ty.by103, Ty.ld104, Ty.sz104, Ty.zc104, Ty.by104, Ty.ld106, Ty.sz106, Ty.zc106, Ty.by106, Ty.pl106, Grp.cells_length, Grp.cells_flat, Grp.cells_take, Grp.cells_splice, *]; rfl)
    | (with_reducible refine group_ok ⟨.slice vb nn vcap, code, 0, 0⟩ 0 _ _ (h ++ [⟨2, 1, [.int .i64 0, .int .i64 0, .int .i64 0, .int .i64 0, .int .i64 0, .bool false]⟩]) [] ?_ ?_ ?_ ?_ ?_ ?_
       · (rw [List.append_assoc]; rfl)
       · simp
       · exact hsl.old _
       · simpa using hbid 1
       · exact cur0_bud hcl hcw
       · first | omega | (simp only [List.length_nil]; omega)
       )
    | (with_reducible refine pick_ok3 ?_ _ ?_ _ _ (h ++ [⟨2, 1, [.int .i64 0, .int .i64 0, .int .i64 0, .int .i64 0, .int .i64 0, .bool false]⟩]) ?_ ?_ ?_ ?_ ?_ ?_ ?_
       rotate_left 3
       · (simp only [List.append_assoc, List.cons_append, List.nil_append]; rfl)
       · simp
       · (simpa only [Cur.pick_v1, Cur.pick_v2, hv1, hcd1] using hsl.old _)
       · (simpa [Cur.pick_v1, hv1] using hbid 1)
       · ((repeat' (first | exact hbud | refine Cur.pick_bud (k := ?_) ?_ ?_ _)) <;> omega)
       · first | omega | (simp only [List.length_nil]; omega)
       )
    | (with_reducible refine one_ok3 ?_ _ ?_ _ _ (h ++ [⟨2, 1, [.int .i64 0, .int .i64 0, .int .i64 0, .int .i64 0, .int .i64 0, .bool false]⟩]) ?_ ?_ ?_ ?_ ?_ ?_ ?_
       rotate_left 3
       · (simp only [List.append_assoc, List.cons_append, List.nil_append]; rfl)
       · simp
       · (simpa only [Cur.pick_v1, Cur.pick_v2, hv1, hcd1] using hsl.old _)
       · (simpa [Cur.pick_v1, hv1] using hbid 1)
       · ((repeat' (first | exact hbud | refine Cur.pick_bud (k := ?_) ?_ ?_ _)) <;> omega)
       · first | omega | (simp only [List.length_nil]; omega)
       )
    | (with_reducible refine among7 cc _ ?_ _ _ (h ++ [⟨2, 1, [.int .i64 0, .int .i64 0, .int .i64 0, .int .i64 0, .int .i64 0, .bool false]⟩]) ?_ ?_ ?_ ?_ ?_ ?_ ?_ ?_ ?_
       rotate_left 2
       · (simp only [List.append_assoc, List.cons_append, List.nil_append]; rfl)
       · simp
       · (simpa only [hv2, hcd2] using hsl.old _)
       · (simpa [hv2] using hbid 1)
       · exact hbud2
       · first | omega | (simp only [List.length_nil]; omega)
       · ((try (simp only [List.append_assoc, List.cons_append, List.nil_append])); refine sl_at (k := E1.length + (L.length + 3)) ?_ (ints_len _) ?_ (Nat.le_refl _); (exact get_deep _ _ _ _ _ _ _); rfl)
       · (simp only [bid, ne_eq, Option.some.injEq]; omega)
       )
    | ((with_reducible refine HkTag.mk (n := 80) ?_); rintro _ _ ⟨g, c1, E1, rfl, rfl, hv1, hcd1, hbud⟩)
    | ((with_reducible refine HkTag.mk (n := 81) ?_); rintro _ _ ⟨rfl, hh⟩; replace hh := hh.symm; subst hh)
    | ((with_reducible refine HkTag.mk (n := 82) ?_); rintro _ _ ⟨rfl, hh⟩; replace hh := hh.symm; subst hh)
    | ((with_reducible refine HkTag.mk (n := 83) ?_); rintro _ _ ⟨rfl, hh⟩; replace hh := hh.symm; subst hh)
    )
  · have hbx : (((c1.pick 12).2.pick 30).2).bud 24 := by ((repeat' (first | exact hbud | refine Cur.pick_bud (k := ?_) ?_ ?_ _)) <;> omega)
    have hr := Cur.pick_range hbx.1 (by have := hbx.2; omega) 2
    have hX : IntKind.i64.wrap (60 + (((c1.pick 12).2.pick 30).2.pick 2).1) = (((IntKind.i64.wrap (60 + (((c1.pick 12).2.pick 30).2.pick 2).1)).toNat : Nat) : Int) := by rw [wrap_id (by omega)]; omega
    have hn0 : (IntKind.i64.wrap (60 + (((c1.pick 12).2.pick 30).2.pick 2).1)).toNat ≤ 61 := by rw [wrap_id (by omega)]; omega
    have hbc : ((((c1.pick 12).2.pick 30).2.pick 2).2).bud 30 := Cur.bud_mono (a := 26) (by ((repeat' (first | exact hbud | refine Cur.pick_bud (k := ?_) ?_ ?_ _)) <;> omega)) (by omega)
    generalize hq0 : (IntKind.i64.wrap (60 + (((c1.pick 12).2.pick 30).2.pick 2).1)).toNat = n0 at hX hn0
    refine aw_loop (n := n0) (fun m T h' => ∃ (cc : Cur) (L : Heap) (l : List Int), h' = h ++ (⟨2, 1, [.int .i64 0, .int .i64 0, .int .i64 0, .int .i64 0, .int .i64 0, .bool false]⟩ :: cc.blk :: (E1 ++ ⟨2, 1, g.cells⟩ :: L)) ∧ cc.v = .slice vb nn vcap ∧ cc.code = code ∧ cc.bud (30 + 2 * (61 - m)) ∧ m ≤ 61 ∧ T 7 = .int .i64 m ∧
      T 4 = .pointer (some ⟨h.length + 1, 0, none⟩) ∧ T 5 = .pointer (some ⟨h.length + (E1.length + 2), 0, none⟩) ∧ T 2 = .pointer (some ⟨h.length, 0, none⟩) ∧ App (h.length + (E1.length + 3)) L (T 6) 1 (ints l).flatten l.length ∧ l.length + m ≤ 61)
      ⟨(((c1.pick 12).2.pick 30).2.pick 2).2, [], [], by first | rfl | (simp only [List.append_assoc, List.cons_append, List.nil_append]), by simp only [Cur.pick_v1, hv1], by simp only [Cur.pick_v2, hcd1], Cur.bud_mono hbc (by omega), hn0, by rw [← hX]; rfl, rfl, rfl, rfl, App.nil _ _ _, by simpa using hn0⟩ ?_
    clear hX hn0 hq0 hbc hr hbx hbud hb
    rintro m T h' ⟨cc, L, l, rfl, hv2, hcd2, hbud2, hm, h7, h4, h5, h2, hap, hlm⟩
    by_cases hm0 : m = 0
    · subst hm0
      have hlt : ¬ (0 : Int) < ((0 : Nat) : Int) := by omega
      repeat' (first
        | ((with_reducible refine eq_go ?_); simp only [stp, ev, put_some, put_none, argT_list, List.getD_cons_zero, List.getD_cons_succ, reduceIte, Nat.reduceEqDiff, Option.map_some, Array.map_empty, List.map_toArray, List.map_cons, List.map_nil, List.append_toArray, Array.append_empty, Array.empty_append, List.nil_append, List.append_nil, and_self, if_true, decide_true, decide_false, Int.toNat_natCast, Int.natCast_nonneg, List.length_map, binV_add, binV_sub, binV_and, binV_shr, binV_shl, binV_str_eql, binV_str_neq, binV_mul, binV_eql, binV_neq, binV_lss, binV_leq, binV_gtr, binV_geq, unV_not, Bool.not_true, Bool.not_false, Bool.cond_true, Bool.cond_false, bld, fillL, vcs, splice, List.getElem?_toArray, List.getElem?_cons_zero, List.getElem?_cons_succ, true_and, ldv, stv, vcs, blt, lenV, List.size_toArray, List.length_cons, List.length_nil, Nat.zero_add, Array.getD_eq_getD_getElem?, List.getElem?_toArray, List.getElem?_cons_zero, List.getElem?_cons_succ, Option.getD_some, Option.isSome_some, Nat.add_assoc, List.toList_toArray, eq_self, Option.bind_some, List.append_assoc, List.cons_append, List.length_append, List.length_cons, List.length_nil, Nat.zero_add, Nat.add_zero, Nat.reduceAdd, Nat.reduceMul, Nat.reduceLeDiff, mset_some, mset_none, set_at, set_at0, killL_nil, killL_cons, getC_succ2, getC_succ3, getC_succ4, getC_succ5, getC_succ6, loadCs_succ2, loadCs_succ3, loadCs_succ4, loadCs_succ5, loadCs_succ6, setCs_succ2, setCs_succ3, setCs_succ4, setCs_succ5, setCs_succ6, getC_at, getC_at0, getC_zero, getC_succ, loadCs_at, loadCs_at0, loadCs_zero, loadCs_succ, setCs_at, setCs_at0, setCs_zero, setCs_succ, splice, List.set_cons_succ, List.set_cons_zero, List.getElem?_cons_zero, List.getElem?_cons_succ, List.drop_zero, List.drop_succ_cons, List.take_succ_cons, List.take_zero, newB, vcs, flat_int, flat_bool, flat_string, flat_slice, flat_pointer, flat_func, flat_nilFunc, List.all_cons, List.all_nil, Bool.and_true, Bool.and_self, Ty.ld3, Ty.sz3, Ty.zc3, Ty.by3, Ty.ld4, Ty.sz4, Ty.zc4, Ty.by4, Ty.ld5, Ty.sz5, Ty.zc5, Ty.by5, Ty.ld24, Ty.sz24, Ty.sl24, Ty.zc24, Ty.by24, Ty.ld25, Ty.sz25, Ty.zc25, Ty.by25, Ty.pl25, Ty.ld37, Ty.sz37, Ty.sl37, Ty.zc37, Ty.by37, Ty.ld103, Ty.sz103, Ty.zc103, Ty.by103, Ty.ld104, Ty.sz104, Ty.zc104, Ty.by104, Ty.ld106, Ty.sz106, Ty.zc106, Ty.by106, Ty.pl106, Grp.cells_length, Grp.cells_flat, Grp.cells_take, Grp.cells_splice, *]; rfl)
        | (with_reducible refine aw_then ?_) | (with_reducible refine aw_skip ?_) | (with_reducible refine aw_ret ?_) | (with_reducible refine aw_exit ?_) | (with_reducible refine aw_block ?_) | (with_reducible refine xr_reg (by decide +kernel) ?_)
        | (with_reducible refine xr_nil ?_) | (with_reducible refine k_norm ?_) | (with_reducible refine k_ret ?_) | (with_reducible refine k_exit ?_) | (with_reducible refine b_norm ?_) | (with_reducible refine b_ret ?_) | (with_reducible refine b_exit ?_) | (with_reducible refine b_past (by decide) ?_)
        | (refine xr_cl (f := ?_) (fs := ?_) (cs := ?_) (args := ?_) (K := ?_) ?_ ?_ ?_ ?_ ?_
           rotate_left 5
           · simp only [ev]; rfl
           first
           | (· with_reducible exact Ty.ok80
              rotate_left 2
              refine hk_tag 80 ?_
              rotate_right 2)
           | (· with_reducible exact Ty.ok81
              rotate_left 2
              refine hk_tag 81 ?_
              rotate_right 2)
           | (· with_reducible exact Ty.ok82
              rotate_left 2
              refine hk_tag 82 ?_
              rotate_right 2)
           | (· with_reducible exact Ty.ok83
              rotate_left 2
              refine hk_tag 83 ?_
              rotate_right 2)
           )
        | (refine xr_do (v := ?_) (h' := ?_) (by exact rfl) ?_ ?_; rotate_left 2)
        | (refine xr_st (v := ?_) (h' := ?_) (by exact rfl) ?_ ?_; rotate_left 2)
        | (refine aw_ift (by decide) ?_ ?_
           · simp only [ev, put_some, reduceIte, Nat.reduceEqDiff, *])
        | (refine aw_iff (by decide) ?_ ?_
           · simp only [ev, put_some, reduceIte, Nat.reduceEqDiff, *])
        | (refine aw_if (b := ?_) (by decide) ?_ (fun hb => ?_) (fun hb => ?_)
           rotate_left 1
           · simp only [ev, put_some, reduceIte, Nat.reduceEqDiff, *]; rfl)
        | (refine r_ret (vs := ?_) ?_ ?_
           rotate_left 1
           · simp only [resV, oneOf, stp, ev, put_some, put_none, argT_list, List.getD_cons_zero, List.getD_cons_succ, reduceIte, Nat.reduceEqDiff, Option.map_some, Array.map_empty, List.map_toArray, List.map_cons, List.map_nil, List.append_toArray, Array.append_empty, Array.empty_append, List.nil_append, List.append_nil, and_self, if_true, decide_true, decide_false, Int.toNat_natCast, Int.natCast_nonneg, List.length_map, binV_add, binV_sub, binV_and, binV_shr, binV_shl, binV_str_eql, binV_str_neq, binV_mul, binV_eql, binV_neq, binV_lss, binV_leq, binV_gtr, binV_geq, unV_not, Bool.not_true, Bool.not_false, Bool.cond_true, Bool.cond_false, bld, fillL, vcs, splice, List.getElem?_toArray, List.getElem?_cons_zero, List.getElem?_cons_succ, true_and, ldv, stv, vcs, blt, lenV, List.size_toArray, List.length_cons, List.length_nil, Nat.zero_add, Array.getD_eq_getD_getElem?, List.getElem?_toArray, List.getElem?_cons_zero, List.getElem?_cons_succ, Option.getD_some, Option.isSome_some, Nat.add_assoc, List.toList_toArray, eq_self, Option.bind_some, List.append_assoc, List.cons_append, List.length_append, List.length_cons, List.length_nil, Nat.zero_add, Nat.add_zero, Nat.reduceAdd, Nat.reduceMul, Nat.reduceLeDiff, mset_some, mset_none, set_at, set_at0, killL_nil, killL_cons, getC_succ2, getC_succ3, getC_succ4, getC_succ5, getC_succ6, loadCs_succ2, loadCs_succ3, loadCs_succ4, loadCs_succ5, loadCs_succ6, setCs_succ2, setCs_succ3, setCs_succ4, setCs_succ5, setCs_succ6, getC_at, getC_at0, getC_zero, getC_succ, loadCs_at, loadCs_at0, loadCs_zero, loadCs_succ, setCs_at, setCs_at0, setCs_zero, setCs_succ, splice, List.set_cons_succ, List.set_cons_zero, List.getElem?_cons_zero, List.getElem?_cons_succ, List.drop_zero, List.drop_succ_cons, List.take_succ_cons, List.take_zero, newB, vcs, flat_int, flat_bool, flat_string, flat_slice, flat_pointer, flat_func, flat_nilFunc, List.all_cons, List.all_nil, Bool.and_true, Bool.and_self, Ty.ld3, Ty.sz3, Ty.zc3, Ty.by3, Ty.ld4, Ty.sz4, Ty.zc4, Ty.by4, Ty.ld5, Ty.sz5, Ty.zc5, Ty.by5, Ty.ld24, Ty.sz24, Ty.sl24, Ty.zc24, Ty.by24, Ty.ld25, Ty.sz25, Ty.zc25, Ty.by25, Ty.pl25, Ty.ld37, Ty.sz37, Ty.sl37, Ty.zc37, Ty.by37, Ty.ld103, Ty.sz103, Ty.zc103, Ty.by103, Ty.ld104, Ty.sz104, Ty.zc104, Ty.by104, Ty.ld106, Ty.sz106, Ty.zc106, Ty.by106, Ty.pl106, Grp.cells_length, Grp.cells_flat, Grp.cells_take, Grp.cells_splice, *]; rfl)
        | (with_reducible refine group_ok ⟨.slice vb nn vcap, code, 0, 0⟩ 0 _ _ (h ++ [⟨2, 1, [.int .i64 0, .int .i64 0, .int .i64 0, .int .i64 0, .int .i64 0, .bool false]⟩]) [] ?_ ?_ ?_ ?_ ?_ ?_
           · (rw [List.append_assoc]; rfl)
           · simp
           · exact hsl.old _
           · simpa using hbid 1
           · exact cur0_bud hcl hcw
           · first | omega | (simp only [List.length_nil]; omega)
           )
        | (with_reducible refine pick_ok3 ?_ _ ?_ _ _ (h ++ [⟨2, 1, [.int .i64 0, .int .i64 0, .int .i64 0, .int .i64 0, .int .i64 0, .bool false]⟩]) ?_ ?_ ?_ ?_ ?_ ?_ ?_
           rotate_left 3
           · (simp only [List.append_assoc, List.cons_append, List.nil_append]; rfl)
           · simp
           · (simpa only [Cur.pick_v1, Cur.pick_v2, hv1, hcd1] using hsl.old _)
           · (simpa [Cur.pick_v1, hv1] using hbid 1)
           · ((repeat' (first | exact hbud | refine Cur.pick_bud (k := ?_) ?_ ?_ _)) <;> omega)
           · first | omega | (simp only [List.length_nil]; omega)
           )
        | (with_reducible refine one_ok3 ?_ _ ?_ _ _ (h ++ [⟨2, 1, [.int .i64 0, .int .i64 0, .int .i64 0, .int .i64 0, .int .i64 0, .bool false]⟩]) ?_ ?_ ?_ ?_ ?_ ?_ ?_
           rotate_left 3
           · (simp only [List.append_assoc, List.cons_append, List.nil_append]; rfl)
           · simp
           · (simpa only [Cur.pick_v1, Cur.pick_v2, hv1, hcd1] using hsl.old _)
           · (simpa [Cur.pick_v1, hv1] using hbid 1)
           · ((repeat' (first | exact hbud | refine Cur.pick_bud (k := ?_) ?_ ?_ _)) <;> omega)
           · first | omega | (simp only [List.length_nil]; omega)
           )
        | (with_reducible refine among7 cc _ ?_ _ _ (h ++ [⟨2, 1, [.int .i64 0, .int .i64 0, .int .i64 0, .int .i64 0, .int .i64 0, .bool false]⟩]) ?_ ?_ ?_ ?_ ?_ ?_ ?_ ?_ ?_
           rotate_left 2
           · (simp only [List.append_assoc, List.cons_append, List.nil_append]; rfl)
           · simp
           · (simpa only [hv2, hcd2] using hsl.old _)
           · (simpa [hv2] using hbid 1)
           · exact hbud2
           · first | omega | (simp only [List.length_nil]; omega)
           · ((try (simp only [List.append_assoc, List.cons_append, List.nil_append])); refine sl_at (k := E1.length + (L.length + 3)) ?_ (ints_len _) ?_ (Nat.le_refl _); (exact get_deep _ _ _ _ _ _ _); rfl)
           · (simp only [bid, ne_eq, Option.some.injEq]; omega)
           )
        | ((with_reducible refine HkTag.mk (n := 80) ?_); rintro _ _ ⟨g, c1, E1, rfl, rfl, hv1, hcd1, hbud⟩)
        | ((with_reducible refine HkTag.mk (n := 81) ?_); rintro _ _ ⟨rfl, hh⟩; replace hh := hh.symm; subst hh)
        | ((with_reducible refine HkTag.mk (n := 82) ?_); rintro _ _ ⟨rfl, hh⟩; replace hh := hh.symm; subst hh)
        | ((with_reducible refine HkTag.mk (n := 83) ?_); rintro _ _ ⟨rfl, hh⟩; replace hh := hh.symm; subst hh)
        )
      refine ⟨g, l, T 6, _, rfl, rfl, ?_, by omega⟩
      have := App.sl (h2 := h ++ (⟨2, 1, g.cells⟩ :: cc.blk :: (E1 ++ [⟨2, 1, g.cells⟩]))) (rows := ints l) (by rw [List.length_map]; exact hap) (by simp) (ints_len l)
      simpa using this
    · have hlt : (0 : Int) < (m : Int) := by omega
      have hw : IntKind.i64.wrap ((m : Int) - 1) = ((m - 1 : Nat) : Int) := by rw [wrap_id (by omega)]; omega
      have hb7 : bsl Try.prog 24 (h ++ ⟨2, 1, [.int .i64 0, .int .i64 0, .int .i64 0, .int .i64 0, .int .i64 0, .bool false]⟩ :: cc.blk :: (E1 ++ ⟨2, 1, g.cells⟩ :: L)) 7 [(0, .int .i64 1), (1, .int .i64 1), (2, .int .i64 2), (3, .int .i64 2), (4, .int .i64 2), (5, .int .i64 3), (6, .int .i64 4)] = some (.slice (some ⟨(h ++ ⟨2, 1, [.int .i64 0, .int .i64 0, .int .i64 0, .int .i64 0, .int .i64 0, .bool false]⟩ :: cc.blk :: (E1 ++ ⟨2, 1, g.cells⟩ :: L)).length, 0, none⟩) 7 7, h ++ ⟨2, 1, [.int .i64 0, .int .i64 0, .int .i64 0, .int .i64 0, .int .i64 0, .bool false]⟩ :: cc.blk :: (E1 ++ ⟨2, 1, g.cells⟩ :: L) ++ [⟨2, 1, [.int .i64 1, .int .i64 1, .int .i64 2, .int .i64 2, .int .i64 2, .int .i64 3, .int .i64 4]⟩]) := rfl
      have hbs := bsl_one (h := h ++ ⟨2, 1, [.int .i64 0, .int .i64 0, .int .i64 0, .int .i64 0, .int .i64 0, .bool false]⟩ :: (cc.pick 7).2.blk :: (E1 ++ ⟨2, 1, g.cells⟩ :: (L ++ [⟨2, 1, [.int .i64 1, .int .i64 1, .int .i64 2, .int .i64 2, .int .i64 2, .int .i64 3, .int .i64 4]⟩]))) (x := .int .i64 (amg cc)) Ty.sl24 Ty.zc3 rfl rfl
      obtain ⟨v', L', hap', happ⟩ := app_step (h2 := h ++ (⟨2, 1, [.int .i64 0, .int .i64 0, .int .i64 0, .int .i64 0, .int .i64 0, .bool false]⟩ :: (cc.pick 7).2.blk :: (E1 ++ [⟨2, 1, g.cells⟩]))) (L := L) (E := [⟨2, 1, [.int .i64 1, .int .i64 1, .int .i64 2, .int .i64 2, .int .i64 2, .int .i64 3, .int .i64 4]⟩, ⟨2, 1, [.int .i64 (amg cc)]⟩]) (j := 1) (ix := h.length + (E1.length + (L.length + 4)))
        Ty.sl24 Ty.zc3 Ty.by3 (by simpa using hap) rfl rfl (by simp; omega) (by omega) (by omega)
      simp only [List.append_assoc, List.cons_append, List.nil_append, List.length_append, List.length_cons, List.length_nil, Nat.zero_add, Nat.add_assoc, Nat.reduceAdd] at hb7 hbs hap' happ
      repeat' (first
        | ((with_reducible refine eq_go ?_); simp only [stp, ev, put_some, put_none, argT_list, List.getD_cons_zero, List.getD_cons_succ, reduceIte, Nat.reduceEqDiff, Option.map_some, Array.map_empty, List.map_toArray, List.map_cons, List.map_nil, List.append_toArray, Array.append_empty, Array.empty_append, List.nil_append, List.append_nil, and_self, if_true, decide_true, decide_false, Int.toNat_natCast, Int.natCast_nonneg, List.length_map, binV_add, binV_sub, binV_and, binV_shr, binV_shl, binV_str_eql, binV_str_neq, binV_mul, binV_eql, binV_neq, binV_lss, binV_leq, binV_gtr, binV_geq, unV_not, Bool.not_true, Bool.not_false, Bool.cond_true, Bool.cond_false, bld, fillL, vcs, splice, List.getElem?_toArray, List.getElem?_cons_zero, List.getElem?_cons_succ, true_and, ldv, stv, vcs, blt, lenV, List.size_toArray, List.length_cons, List.length_nil, Nat.zero_add, Array.getD_eq_getD_getElem?, List.getElem?_toArray, List.getElem?_cons_zero, List.getElem?_cons_succ, Option.getD_some, Option.isSome_some, Nat.add_assoc, List.toList_toArray, eq_self, Option.bind_some, List.append_assoc, List.cons_append, List.length_append, List.length_cons, List.length_nil, Nat.zero_add, Nat.add_zero, Nat.reduceAdd, Nat.reduceMul, Nat.reduceLeDiff, mset_some, mset_none, set_at, set_at0, killL_nil, killL_cons, getC_succ2, getC_succ3, getC_succ4, getC_succ5, getC_succ6, loadCs_succ2, loadCs_succ3, loadCs_succ4, loadCs_succ5, loadCs_succ6, setCs_succ2, setCs_succ3, setCs_succ4, setCs_succ5, setCs_succ6, getC_at, getC_at0, getC_zero, getC_succ, loadCs_at, loadCs_at0, loadCs_zero, loadCs_succ, setCs_at, setCs_at0, setCs_zero, setCs_succ, splice, List.set_cons_succ, List.set_cons_zero, List.getElem?_cons_zero, List.getElem?_cons_succ, List.drop_zero, List.drop_succ_cons, List.take_succ_cons, List.take_zero, newB, vcs, flat_int, flat_bool, flat_string, flat_slice, flat_pointer, flat_func, flat_nilFunc, List.all_cons, List.all_nil, Bool.and_true, Bool.and_self, Ty.ld3, Ty.sz3, Ty.zc3, Ty.by3, Ty.ld4, Ty.sz4, Ty.zc4, Ty.by4, Ty.ld5, Ty.sz5, Ty.zc5, Ty.by5, Ty.ld24, Ty.sz24, Ty.sl24, Ty.zc24, Ty.by24, Ty.ld25, Ty.sz25, Ty.zc25, Ty.by25, Ty.pl25, Ty.ld37, Ty.sz37, Ty.sl37, Ty.zc37, Ty.by37, Ty.ld103, Ty.sz103, Ty.zc103, Ty.by103, Ty.ld104, Ty.sz104, Ty.zc104, Ty.by104, Ty.ld106, Ty.sz106, Ty.zc106, Ty.by106, Ty.pl106, Grp.cells_length, Grp.cells_flat, Grp.cells_take, Grp.cells_splice, *]; rfl)
        | (with_reducible refine aw_then ?_) | (with_reducible refine aw_skip ?_) | (with_reducible refine aw_ret ?_) | (with_reducible refine aw_exit ?_) | (with_reducible refine aw_block ?_) | (with_reducible refine xr_reg (by decide +kernel) ?_)
        | (with_reducible refine xr_nil ?_) | (with_reducible refine k_norm ?_) | (with_reducible refine k_ret ?_) | (with_reducible refine k_exit ?_) | (with_reducible refine b_norm ?_) | (with_reducible refine b_ret ?_) | (with_reducible refine b_exit ?_) | (with_reducible refine b_past (by decide) ?_)
        | (refine xr_cl (f := ?_) (fs := ?_) (cs := ?_) (args := ?_) (K := ?_) ?_ ?_ ?_ ?_ ?_
           rotate_left 5
           · simp only [ev]; rfl
           first
           | (· with_reducible exact Ty.ok80
              rotate_left 2
              refine hk_tag 80 ?_
              rotate_right 2)
           | (· with_reducible exact Ty.ok81
              rotate_left 2
              refine hk_tag 81 ?_
              rotate_right 2)
           | (· with_reducible exact Ty.ok82
              rotate_left 2
              refine hk_tag 82 ?_
              rotate_right 2)
           | (· with_reducible exact Ty.ok83
              rotate_left 2
              refine hk_tag 83 ?_
              rotate_right 2)
           )
        | (refine xr_do (v := ?_) (h' := ?_) (by exact rfl) ?_ ?_; rotate_left 2)
        | (refine xr_st (v := ?_) (h' := ?_) (by exact rfl) ?_ ?_; rotate_left 2)
        | (refine aw_ift (by decide) ?_ ?_
           · simp only [ev, put_some, reduceIte, Nat.reduceEqDiff, *])
        | (refine aw_iff (by decide) ?_ ?_
           · simp only [ev, put_some, reduceIte, Nat.reduceEqDiff, *])
        | (refine aw_if (b := ?_) (by decide) ?_ (fun hb => ?_) (fun hb => ?_)
           rotate_left 1
           · simp only [ev, put_some, reduceIte, Nat.reduceEqDiff, *]; rfl)
        | (refine r_ret (vs := ?_) ?_ ?_
           rotate_left 1
           · simp only [resV, oneOf, stp, ev, put_some, put_none, argT_list, List.getD_cons_zero, List.getD_cons_succ, reduceIte, Nat.reduceEqDiff, Option.map_some, Array.map_empty, List.map_toArray, List.map_cons, List.map_nil, List.append_toArray, Array.append_empty, Array.empty_append, List.nil_append, List.append_nil, and_self, if_true, decide_true, decide_false, Int.toNat_natCast, Int.natCast_nonneg, List.length_map, binV_add, binV_sub, binV_and, binV_shr, binV_shl, binV_str_eql, binV_str_neq, binV_mul, binV_eql, binV_neq, binV_lss, binV_leq, binV_gtr, binV_geq, unV_not, Bool.not_true, Bool.not_false, Bool.cond_true, Bool.cond_false, bld, fillL, vcs, splice, List.getElem?_toArray, List.getElem?_cons_zero, List.getElem?_cons_succ, true_and, ldv, stv, vcs, blt, lenV, List.size_toArray, List.length_cons, List.length_nil, Nat.zero_add, Array.getD_eq_getD_getElem?, List.getElem?_toArray, List.getElem?_cons_zero, List.getElem?_cons_succ, Option.getD_some, Option.isSome_some, Nat.add_assoc, List.toList_toArray, eq_self, Option.bind_some, List.append_assoc, List.cons_append, List.length_append, List.length_cons, List.length_nil, Nat.zero_add, Nat.add_zero, Nat.reduceAdd, Nat.reduceMul, Nat.reduceLeDiff, mset_some, mset_none, set_at, set_at0, killL_nil, killL_cons, getC_succ2, getC_succ3, getC_succ4, getC_succ5, getC_succ6, loadCs_succ2, loadCs_succ3, loadCs_succ4, loadCs_succ5, loadCs_succ6, setCs_succ2, setCs_succ3, setCs_succ4, setCs_succ5, setCs_succ6, getC_at, getC_at0, getC_zero, getC_succ, loadCs_at, loadCs_at0, loadCs_zero, loadCs_succ, setCs_at, setCs_at0, setCs_zero, setCs_succ, splice, List.set_cons_succ, List.set_cons_zero, List.getElem?_cons_zero, List.getElem?_cons_succ, List.drop_zero, List.drop_succ_cons, List.take_succ_cons, List.take_zero, newB, vcs, flat_int, flat_bool, flat_string, flat_slice, flat_pointer, flat_func, flat_nilFunc, List.all_cons, List.all_nil, Bool.and_true, Bool.and_self, Ty.ld3, Ty.sz3, Ty.zc3, Ty.by3, Ty.ld4, Ty.sz4, Ty.zc4, Ty.by4, Ty.ld5, Ty.sz5, Ty.zc5, Ty.by5, Ty.ld24, Ty.sz24, Ty.sl24, Ty.zc24, Ty.by24, Ty.ld25, Ty.sz25, Ty.zc25, Ty.by25, Ty.pl25, Ty.ld37, Ty.sz37, Ty.sl37, Ty.zc37, Ty.by37, Ty.ld103, Ty.sz103, Ty.zc103, Ty.by103, Ty.ld104, Ty.sz104, Ty.zc104, Ty.by104, Ty.ld106, Ty.sz106, Ty.zc106, Ty.by106, Ty.pl106, Grp.cells_length, Grp.cells_flat, Grp.cells_take, Grp.cells_splice, *]; rfl)
        | (with_reducible refine group_ok ⟨.slice vb nn vcap, code, 0, 0⟩ 0 _ _ (h ++ [⟨2, 1, [.int .i64 0, .int .i64 0, .int .i64 0, .int .i64 0, .int .i64 0, .bool false]⟩]) [] ?_ ?_ ?_ ?_ ?_ ?_
           · (rw [List.append_assoc]; rfl)
           · simp
           · exact hsl.old _
           · simpa using hbid 1
           · exact cur0_bud hcl hcw
           · first | omega | (simp only [List.length_nil]; omega)
           )
        | (with_reducible refine pick_ok3 ?_ _ ?_ _ _ (h ++ [⟨2, 1, [.int .i64 0, .int .i64 0, .int .i64 0, .int .i64 0, .int .i64 0, .bool false]⟩]) ?_ ?_ ?_ ?_ ?_ ?_ ?_
           rotate_left 3
           · (simp only [List.append_assoc, List.cons_append, List.nil_append]; rfl)
           · simp
           · (simpa only [Cur.pick_v1, Cur.pick_v2, hv1, hcd1] using hsl.old _)
           · (simpa [Cur.pick_v1, hv1] using hbid 1)
           · ((repeat' (first | exact hbud | refine Cur.pick_bud (k := ?_) ?_ ?_ _)) <;> omega)
           · first | omega | (simp only [List.length_nil]; omega)
           )
        | (with_reducible refine one_ok3 ?_ _ ?_ _ _ (h ++ [⟨2, 1, [.int .i64 0, .int .i64 0, .int .i64 0, .int .i64 0, .int .i64 0, .bool false]⟩]) ?_ ?_ ?_ ?_ ?_ ?_ ?_
           rotate_left 3
           · (simp only [List.append_assoc, List.cons_append, List.nil_append]; rfl)
           · simp
           · (simpa only [Cur.pick_v1, Cur.pick_v2, hv1, hcd1] using hsl.old _)
           · (simpa [Cur.pick_v1, hv1] using hbid 1)
           · ((repeat' (first | exact hbud | refine Cur.pick_bud (k := ?_) ?_ ?_ _)) <;> omega)
           · first | omega | (simp only [List.length_nil]; omega)
           )
        | (with_reducible refine among7 cc _ ?_ _ _ (h ++ [⟨2, 1, [.int .i64 0, .int .i64 0, .int .i64 0, .int .i64 0, .int .i64 0, .bool false]⟩]) ?_ ?_ ?_ ?_ ?_ ?_ ?_ ?_ ?_
           rotate_left 2
           · (simp only [List.append_assoc, List.cons_append, List.nil_append]; rfl)
           · simp
           · (simpa only [hv2, hcd2] using hsl.old _)
           · (simpa [hv2] using hbid 1)
           · exact hbud2
           · first | omega | (simp only [List.length_nil]; omega)
           · ((try (simp only [List.append_assoc, List.cons_append, List.nil_append])); refine sl_at (k := E1.length + (L.length + 3)) ?_ (ints_len _) ?_ (Nat.le_refl _); (exact get_deep _ _ _ _ _ _ _); rfl)
           · (simp only [bid, ne_eq, Option.some.injEq]; omega)
           )
        | ((with_reducible refine HkTag.mk (n := 80) ?_); rintro _ _ ⟨g, c1, E1, rfl, rfl, hv1, hcd1, hbud⟩)
        | ((with_reducible refine HkTag.mk (n := 81) ?_); rintro _ _ ⟨rfl, hh⟩; replace hh := hh.symm; subst hh)
        | ((with_reducible refine HkTag.mk (n := 82) ?_); rintro _ _ ⟨rfl, hh⟩; replace hh := hh.symm; subst hh)
        | ((with_reducible refine HkTag.mk (n := 83) ?_); rintro _ _ ⟨rfl, hh⟩; replace hh := hh.symm; subst hh)
        )
      refine ⟨m - 1, by omega, (cc.pick 7).2, L', l ++ [amg cc], rfl, by rw [Cur.pick_v1]; exact hv2, by rw [Cur.pick_v2]; exact hcd2, Cur.bud_mono (Cur.pick_bud hbud2 (by omega) 7) (by omega), by omega, ?_, ?_, ?_, ?_, ?_, ?_⟩
      · simp only [put_some, reduceIte, Nat.reduceEqDiff]
      · simp only [put_some, reduceIte, Nat.reduceEqDiff]; exact h4
      · simp only [put_some, reduceIte, Nat.reduceEqDiff]; exact h5
      · simp only [put_some, reduceIte, Nat.reduceEqDiff]; exact h2
      · simp only [put_some, reduceIte, Nat.reduceEqDiff]
        exact happ.cast rfl rfl rfl (by simp) (by simp)
      · simp; omega
  · have hbx : (c1).bud 20 := by ((repeat' (first | exact hbud | refine Cur.pick_bud (k := ?_) ?_ ?_ _)) <;> omega)
    have hr := Cur.pick_range hbx.1 (by have := hbx.2; omega) 12
    have hX : (c1.pick 12).1 = (((c1.pick 12).1.toNat : Nat) : Int) := by omega
    have hn0 : (c1.pick 12).1.toNat ≤ 61 := by omega
    have hbc : (((c1.pick 12).2.pick 30).2).bud 30 := Cur.bud_mono (a := 24) (by ((repeat' (first | exact hbud | refine Cur.pick_bud (k := ?_) ?_ ?_ _)) <;> omega)) (by omega)
    generalize hq0 : (c1.pick 12).1.toNat = n0 at hX hn0
    refine aw_loop (n := n0) (fun m T h' => ∃ (cc : Cur) (L : Heap) (l : List Int), h' = h ++ (⟨2, 1, [.int .i64 0, .int .i64 0, .int .i64 0, .int .i64 0, .int .i64 0, .bool false]⟩ :: cc.blk :: (E1 ++ ⟨2, 1, g.cells⟩ :: L)) ∧ cc.v = .slice vb nn vcap ∧ cc.code = code ∧ cc.bud (30 + 2 * (61 - m)) ∧ m ≤ 61 ∧ T 7 = .int .i64 m ∧
      T 4 = .pointer (some ⟨h.length + 1, 0, none⟩) ∧ T 5 = .pointer (some ⟨h.length + (E1.length + 2), 0, none⟩) ∧ T 2 = .pointer (some ⟨h.length, 0, none⟩) ∧ App (h.length + (E1.length + 3)) L (T 6) 1 (ints l).flatten l.length ∧ l.length + m ≤ 61)
      ⟨((c1.pick 12).2.pick 30).2, [], [], by first | rfl | (simp only [List.append_assoc, List.cons_append, List.nil_append]), by simp only [Cur.pick_v1, hv1], by simp only [Cur.pick_v2, hcd1], Cur.bud_mono hbc (by omega), hn0, by rw [← hX]; rfl, rfl, rfl, rfl, App.nil _ _ _, by simpa using hn0⟩ ?_
    clear hX hn0 hq0 hbc hr hbx hbud hb
    rintro m T h' ⟨cc, L, l, rfl, hv2, hcd2, hbud2, hm, h7, h4, h5, h2, hap, hlm⟩
    by_cases hm0 : m = 0
    · subst hm0
      have hlt : ¬ (0 : Int) < ((0 : Nat) : Int) := by omega
      repeat' (first
        | ((with_reducible refine eq_go ?_); simp only [stp, ev, put_some, put_none, argT_list, List.getD_cons_zero, List.getD_cons_succ, reduceIte, Nat.reduceEqDiff, Option.map_some, Array.map_empty, List.map_toArray, List.map_cons, List.map_nil, List.append_toArray, Array.append_empty, Array.empty_append, List.nil_append, List.append_nil, and_self, if_true, decide_true, decide_false, Int.toNat_natCast, Int.natCast_nonneg, List.length_map, binV_add, binV_sub, binV_and, binV_shr, binV_shl, binV_str_eql, binV_str_neq, binV_mul, binV_eql, binV_neq, binV_lss, binV_leq, binV_gtr, binV_geq, unV_not, Bool.not_true, Bool.not_false, Bool.cond_true, Bool.cond_false, bld, fillL, vcs, splice, List.getElem?_toArray, List.getElem?_cons_zero, List.getElem?_cons_succ, true_and, ldv, stv, vcs, blt, lenV, List.size_toArray, List.length_cons, List.length_nil, Nat.zero_add, Array.getD_eq_getD_getElem?, List.getElem?_toArray, List.getElem?_cons_zero, List.getElem?_cons_succ, Option.getD_some, Option.isSome_some, Nat.add_assoc, List.toList_toArray, eq_self, Option.bind_some, List.append_assoc, List.cons_append, List.length_append, List.length_cons, List.length_nil, Nat.zero_add, Nat.add_zero, Nat.reduceAdd, Nat.reduceMul, Nat.reduceLeDiff, mset_some, mset_none, set_at, set_at0, killL_nil, killL_cons, getC_succ2, getC_succ3, getC_succ4, getC_succ5, getC_succ6, loadCs_succ2, loadCs_succ3, loadCs_succ4, loadCs_succ5, loadCs_succ6, setCs_succ2, setCs_succ3, setCs_succ4, setCs_succ5, setCs_succ6, getC_at, getC_at0, getC_zero, getC_succ, loadCs_at, loadCs_at0, loadCs_zero, loadCs_succ, setCs_at, setCs_at0, setCs_zero, setCs_succ, splice, List.set_cons_succ, List.set_cons_zero, List.getElem?_cons_zero, List.getElem?_cons_succ, List.drop_zero, List.drop_succ_cons, List.take_succ_cons, List.take_zero, newB, vcs, flat_int, flat_bool, flat_string, flat_slice, flat_pointer, flat_func, flat_nilFunc, List.all_cons, List.all_nil, Bool.and_true, Bool.and_self, Ty.ld3, Ty.sz3, Ty.zc3, Ty.by3, Ty.ld4, Ty.sz4, Ty.zc4, Ty.by4, Ty.ld5, Ty.sz5, Ty.zc5, Ty.by5, Ty.ld24, Ty.sz24, Ty.sl24, Ty.zc24, Ty.by24, Ty.ld25, Ty.sz25, Ty.zc25, Ty.by25, Ty.pl25, Ty.ld37, Ty.sz37, Ty.sl37, Ty.zc37, Ty.by37, Ty.ld103, Ty.sz103, Ty.zc103, Ty.by103, Ty.ld104, Ty.sz104, Ty.zc104, Ty.by104, Ty.ld106, Ty.sz106, Ty.zc106, Ty.by106, Ty.pl106, Grp.cells_length, Grp.cells_flat, Grp.cells_take, Grp.cells_splice, *]; rfl)
        | (with_reducible refine aw_then ?_) | (with_reducible refine aw_skip ?_) | (with_reducible refine aw_ret ?_) | (with_reducible refine aw_exit ?_) | (with_reducible refine aw_block ?_) | (with_reducible refine xr_reg (by decide +kernel) ?_)
        | (with_reducible refine xr_nil ?_) | (with_reducible refine k_norm ?_) | (with_reducible refine k_ret ?_) | (with_reducible refine k_exit ?_) | (with_reducible refine b_norm ?_) | (with_reducible refine b_ret ?_) | (with_reducible refine b_exit ?_) | (with_reducible refine b_past (by decide) ?_)
        | (refine xr_cl (f := ?_) (fs := ?_) (cs := ?_) (args := ?_) (K := ?_) ?_ ?_ ?_ ?_ ?_
           rotate_left 5
           · simp only [ev]; rfl
           first
           | (· with_reducible exact Ty.ok80
              rotate_left 2
              refine hk_tag 80 ?_
              rotate_right 2)
           | (· with_reducible exact Ty.ok81
              rotate_left 2
              refine hk_tag 81 ?_
              rotate_right 2)
           | (· with_reducible exact Ty.ok82
              rotate_left 2
              refine hk_tag 82 ?_
              rotate_right 2)
           | (· with_reducible exact Ty.ok83
              rotate_left 2
              refine hk_tag 83 ?_
              rotate_right 2)
           )
        | (refine xr_do (v := ?_) (h' := ?_) (by exact rfl) ?_ ?_; rotate_left 2)
        | (refine xr_st (v := ?_) (h' := ?_) (by exact rfl) ?_ ?_; rotate_left 2)
        | (refine aw_ift (by decide) ?_ ?_
           · simp only [ev, put_some, reduceIte, Nat.reduceEqDiff, *])
        | (refine aw_iff (by decide) ?_ ?_
           · simp only [ev, put_some, reduceIte, Nat.reduceEqDiff, *])
        | (refine aw_if (b := ?_) (by decide) ?_ (fun hb => ?_) (fun hb => ?_)
           rotate_left 1
           · simp only [ev, put_some, reduceIte, Nat.reduceEqDiff, *]; rfl)
        | (refine r_ret (vs := ?_) ?_ ?_
           rotate_left 1
           · simp only [resV, oneOf, stp, ev, put_some, put_none, argT_list, List.getD_cons_zero, List.getD_cons_succ, reduceIte, Nat.reduceEqDiff, Option.map_some, Array.map_empty, List.map_toArray, List.map_cons, List.map_nil, List.append_toArray, Array.append_empty, Array.empty_append, List.nil_append, List.append_nil, and_self, if_true, decide_true, decide_false, Int.toNat_natCast, Int.natCast_nonneg, List.length_map, binV_add, binV_sub, binV_and, binV_shr, binV_shl, binV_str_eql, binV_str_neq, binV_mul, binV_eql, binV_neq, binV_lss, binV_leq, binV_gtr, binV_geq, unV_not, Bool.not_true, Bool.not_false, Bool.cond_true, Bool.cond_false, bld, fillL, vcs, splice, List.getElem?_toArray, List.getElem?_cons_zero, List.getElem?_cons_succ, true_and, ldv, stv, vcs, blt, lenV, List.size_toArray, List.length_cons, List.length_nil, Nat.zero_add, Array.getD_eq_getD_getElem?, List.getElem?_toArray, List.getElem?_cons_zero, List.getElem?_cons_succ, Option.getD_some, Option.isSome_some, Nat.add_assoc, List.toList_toArray, eq_self, Option.bind_some, List.append_assoc, List.cons_append, List.length_append, List.length_cons, List.length_nil, Nat.zero_add, Nat.add_zero, Nat.reduceAdd, Nat.reduceMul, Nat.reduceLeDiff, mset_some, mset_none, set_at, set_at0, killL_nil, killL_cons, getC_succ2, getC_succ3, getC_succ4, getC_succ5, getC_succ6, loadCs_succ2, loadCs_succ3, loadCs_succ4, loadCs_succ5, loadCs_succ6, setCs_succ2, setCs_succ3, setCs_succ4, setCs_succ5, setCs_succ6, getC_at, getC_at0, getC_zero, getC_succ, loadCs_at, loadCs_at0, loadCs_zero, loadCs_succ, setCs_at, setCs_at0, setCs_zero, setCs_succ, splice, List.set_cons_succ, List.set_cons_zero, List.getElem?_cons_zero, List.getElem?_cons_succ, List.drop_zero, List.drop_succ_cons, List.take_succ_cons, List.take_zero, newB, vcs, flat_int, flat_bool, flat_string, flat_slice, flat_pointer, flat_func, flat_nilFunc, List.all_cons, List.all_nil, Bool.and_true, Bool.and_self, Ty.ld3, Ty.sz3, Ty.zc3, Ty.by3, Ty.ld4, Ty.sz4, Ty.zc4, Ty.by4, Ty.ld5, Ty.sz5, Ty.zc5, Ty.by5, Ty.ld24, Ty.sz24, Ty.sl24, Ty.zc24, Ty.by24, Ty.ld25, Ty.sz25, Ty.zc25, Ty.by25, Ty.pl25, Ty.ld37, Ty.sz37, Ty.sl37, Ty.zc37, Ty.by37, Ty.ld103, Ty.sz103, Ty.zc103, Ty.by103, Ty.ld104, Ty.sz104, Ty.zc104, Ty.by104, Ty.ld106, Ty.sz106, Ty.zc106, Ty.by106, Ty.pl106, Grp.cells_length, Grp.cells_flat, Grp.cells_take, Grp.cells_splice, *]; rfl)
        | (with_reducible refine group_ok ⟨.slice vb nn vcap, code, 0, 0⟩ 0 _ _ (h ++ [⟨2, 1, [.int .i64 0, .int .i64 0, .int .i64 0, .int .i64 0, .int .i64 0, .bool false]⟩]) [] ?_ ?_ ?_ ?_ ?_ ?_
           · (rw [List.append_assoc]; rfl)
           · simp
           · exact hsl.old _
           · simpa using hbid 1
           · exact cur0_bud hcl hcw
           · first | omega | (simp only [List.length_nil]; omega)
           )
        | (with_reducible refine pick_ok3 ?_ _ ?_ _ _ (h ++ [⟨2, 1, [.int .i64 0, .int .i64 0, .int .i64 0, .int .i64 0, .int .i64 0, .bool false]⟩]) ?_ ?_ ?_ ?_ ?_ ?_ ?_
           rotate_left 3
           · (simp only [List.append_assoc, List.cons_append, List.nil_append]; rfl)
           · simp
           · (simpa only [Cur.pick_v1, Cur.pick_v2, hv1, hcd1] using hsl.old _)
           · (simpa [Cur.pick_v1, hv1] using hbid 1)
           · ((repeat' (first | exact hbud | refine Cur.pick_bud (k := ?_) ?_ ?_ _)) <;> omega)
           · first | omega | (simp only [List.length_nil]; omega)
           )
        | (with_reducible refine one_ok3 ?_ _ ?_ _ _ (h ++ [⟨2, 1, [.int .i64 0, .int .i64 0, .int .i64 0, .int .i64 0, .int .i64 0, .bool false]⟩]) ?_ ?_ ?_ ?_ ?_ ?_ ?_
           rotate_left 3
           · (simp only [List.append_assoc, List.cons_append, List.nil_append]; rfl)
           · simp
           · (simpa only [Cur.pick_v1, Cur.pick_v2, hv1, hcd1] using hsl.old _)
           · (simpa [Cur.pick_v1, hv1] using hbid 1)
           · ((repeat' (first | exact hbud | refine Cur.pick_bud (k := ?_) ?_ ?_ _)) <;> omega)
           · first | omega | (simp only [List.length_nil]; omega)
           )
        | (with_reducible refine among7 cc _ ?_ _ _ (h ++ [⟨2, 1, [.int .i64 0, .int .i64 0, .int .i64 0, .int .i64 0, .int .i64 0, .bool false]⟩]) ?_ ?_ ?_ ?_ ?_ ?_ ?_ ?_ ?_
           rotate_left 2
           · (simp only [List.append_assoc, List.cons_append, List.nil_append]; rfl)
           · simp
           · (simpa only [hv2, hcd2] using hsl.old _)
           · (simpa [hv2] using hbid 1)
           · exact hbud2
           · first | omega | (simp only [List.length_nil]; omega)
           · ((try (simp only [List.append_assoc, List.cons_append, List.nil_append])); refine sl_at (k := E1.length + (L.length + 3)) ?_ (ints_len _) ?_ (Nat.le_refl _); (exact get_deep _ _ _ _ _ _ _); rfl)
           · (simp only [bid, ne_eq, Option.some.injEq]; omega)
           )
        | ((with_reducible refine HkTag.mk (n := 80) ?_); rintro _ _ ⟨g, c1, E1, rfl, rfl, hv1, hcd1, hbud⟩)
        | ((with_reducible refine HkTag.mk (n := 81) ?_); rintro _ _ ⟨rfl, hh⟩; replace hh := hh.symm; subst hh)
        | ((with_reducible refine HkTag.mk (n := 82) ?_); rintro _ _ ⟨rfl, hh⟩; replace hh := hh.symm; subst hh)
        | ((with_reducible refine HkTag.mk (n := 83) ?_); rintro _ _ ⟨rfl, hh⟩; replace hh := hh.symm; subst hh)
        )
      refine ⟨g, l, T 6, _, rfl, rfl, ?_, by omega⟩
      have := App.sl (h2 := h ++ (⟨2, 1, g.cells⟩ :: cc.blk :: (E1 ++ [⟨2, 1, g.cells⟩]))) (rows := ints l) (by rw [List.length_map]; exact hap) (by simp) (ints_len l)
      simpa using this
    · have hlt : (0 : Int) < (m : Int) := by omega
      have hw : IntKind.i64.wrap ((m : Int) - 1) = ((m - 1 : Nat) : Int) := by rw [wrap_id (by omega)]; omega
      have hb7 : bsl Try.prog 24 (h ++ ⟨2, 1, [.int .i64 0, .int .i64 0, .int .i64 0, .int .i64 0, .int .i64 0, .bool false]⟩ :: cc.blk :: (E1 ++ ⟨2, 1, g.cells⟩ :: L)) 7 [(0, .int .i64 1), (1, .int .i64 1), (2, .int .i64 2), (3, .int .i64 2), (4, .int .i64 2), (5, .int .i64 3), (6, .int .i64 4)] = some (.slice (some ⟨(h ++ ⟨2, 1, [.int .i64 0, .int .i64 0, .int .i64 0, .int .i64 0, .int .i64 0, .bool false]⟩ :: cc.blk :: (E1 ++ ⟨2, 1, g.cells⟩ :: L)).length, 0, none⟩) 7 7, h ++ ⟨2, 1, [.int .i64 0, .int .i64 0, .int .i64 0, .int .i64 0, .int .i64 0, .bool false]⟩ :: cc.blk :: (E1 ++ ⟨2, 1, g.cells⟩ :: L) ++ [⟨2, 1, [.int .i64 1, .int .i64 1, .int .i64 2, .int .i64 2, .int .i64 2, .int .i64 3, .int .i64 4]⟩]) := rfl
      have hbs := bsl_one (h := h ++ ⟨2, 1, [.int .i64 0, .int .i64 0, .int .i64 0, .int .i64 0, .int .i64 0, .bool false]⟩ :: (cc.pick 7).2.blk :: (E1 ++ ⟨2, 1, g.cells⟩ :: (L ++ [⟨2, 1, [.int .i64 1, .int .i64 1, .int .i64 2, .int .i64 2, .int .i64 2, .int .i64 3, .int .i64 4]⟩]))) (x := .int .i64 (amg cc)) Ty.sl24 Ty.zc3 rfl rfl
      obtain ⟨v', L', hap', happ⟩ := app_step (h2 := h ++ (⟨2, 1, [.int .i64 0, .int .i64 0, .int .i64 0, .int .i64 0, .int .i64 0, .bool false]⟩ :: (cc.pick 7).2.blk :: (E1 ++ [⟨2, 1, g.cells⟩]))) (L := L) (E := [⟨2, 1, [.int .i64 1, .int .i64 1, .int .i64 2, .int .i64 2, .int .i64 2, .int .i64 3, .int .i64 4]⟩, ⟨2, 1, [.int .i64 (amg cc)]⟩]) (j := 1) (ix := h.length + (E1.length + (L.length + 4)))
        Ty.sl24 Ty.zc3 Ty.by3 (by simpa using hap) rfl rfl (by simp; omega) (by omega) (by omega)
      simp only [List.append_assoc, List.cons_append, List.nil_append, List.length_append, List.length_cons, List.length_nil, Nat.zero_add, Nat.add_assoc, Nat.reduceAdd] at hb7 hbs hap' happ
      repeat' (first
        | ((with_reducible refine eq_go ?_); simp only [stp, ev, put_some, put_none, argT_list, List.getD_cons_zero, List.getD_cons_succ, reduceIte, Nat.reduceEqDiff, Option.map_some, Array.map_empty, List.map_toArray, List.map_cons, List.map_nil, List.append_toArray, Array.append_empty, Array.empty_append, List.nil_append, List.append_nil, and_self, if_true, decide_true, decide_false, Int.toNat_natCast, Int.natCast_nonneg, List.length_map, binV_add, binV_sub, binV_and, binV_shr, binV_shl, binV_str_eql, binV_str_neq, binV_mul, binV_eql, binV_neq, binV_lss, binV_leq, binV_gtr, binV_geq, unV_not, Bool.not_true, Bool.not_false, Bool.cond_true, Bool.cond_false, bld, fillL, vcs, splice, List.getElem?_toArray, List.getElem?_cons_zero, List.getElem?_cons_succ, true_and, ldv, stv, vcs, blt, lenV, List.size_toArray, List.length_cons, List.length_nil, Nat.zero_add, Array.getD_eq_getD_getElem?, List.getElem?_toArray, List.getElem?_cons_zero, List.getElem?_cons_succ, Option.getD_some, Option.isSome_some, Nat.add_assoc, List.toList_toArray, eq_self, Option.bind_some, List.append_assoc, List.cons_append, List.length_append, List.length_cons, List.length_nil, Nat.zero_add, Nat.add_zero, Nat.reduceAdd, Nat.reduceMul, Nat.reduceLeDiff, mset_some, mset_none, set_at, set_at0, killL_nil, killL_cons, getC_succ2, getC_succ3, getC_succ4, getC_succ5, getC_succ6, loadCs_succ2, loadCs_succ3, loadCs_succ4, loadCs_succ5, loadCs_succ6, setCs_succ2, setCs_succ3, setCs_succ4, setCs_succ5, setCs_succ6, getC_at, getC_at0, getC_zero, getC_succ, loadCs_at, loadCs_at0, loadCs_zero, loadCs_succ, setCs_at, setCs_at0, setCs_zero, setCs_succ, splice, List.set_cons_succ, List.set_cons_zero, List.getElem?_cons_zero, List.getElem?_cons_succ, List.drop_zero, List.drop_succ_cons, List.take_succ_cons, List.take_zero, newB, vcs, flat_int, flat_bool, flat_string, flat_slice, flat_pointer, flat_func, flat_nilFunc, List.all_cons, List.all_nil, Bool.and_true, Bool.and_self, Ty.ld3, Ty.sz3, Ty.zc3, Ty.by3, Ty.ld4, Ty.sz4, Ty.zc4, Ty.by4, Ty.ld5, Ty.sz5, Ty.zc5, Ty.by5, Ty.ld24, Ty.sz24, Ty.sl24, Ty.zc24, Ty.by24, Ty.ld25, Ty.sz25, Ty.zc25, Ty.by25, Ty.pl25, Ty.ld37, Ty.sz37, Ty.sl37, Ty.zc37, Ty.by37, Ty.ld103, Ty.sz103, Ty.zc103, Ty.by103, Ty.ld104, Ty.sz104, Ty.zc104, Ty.by104, Ty.ld106, Ty.sz106, Ty.zc106, Ty.by106, Ty.pl106, Grp.cells_length, Grp.cells_flat, Grp.cells_take, Grp.cells_splice, *]; rfl)
        | (with_reducible refine aw_then ?_) | (with_reducible refine aw_skip ?_) | (with_reducible refine aw_ret ?_) | (with_reducible refine aw_exit ?_) | (with_reducible refine aw_block ?_) | (with_reducible refine xr_reg (by decide +kernel) ?_)
        | (with_reducible refine xr_nil ?_) | (with_reducible refine k_norm ?_) | (with_reducible refine k_ret ?_) | (with_reducible refine k_exit ?_) | (with_reducible refine b_norm ?_) | (with_reducible refine b_ret ?_) | (with_reducible refine b_exit ?_) | (with_reducible refine b_past (by decide) ?_)
        | (refine xr_cl (f := ?_) (fs := ?_) (cs := ?_) (args := ?_) (K := ?_) ?_ ?_ ?_ ?_ ?_
           rotate_left 5
           · simp only [ev]; rfl
           first
           | (· with_reducible exact Ty.ok80
              rotate_left 2
              refine hk_tag 80 ?_
              rotate_right 2)
           | (· with_reducible exact Ty.ok81
              rotate_left 2
              refine hk_tag 81 ?_
              rotate_right 2)
           | (· with_reducible exact Ty.ok82
              rotate_left 2
              refine hk_tag 82 ?_
              rotate_right 2)
           | (· with_reducible exact Ty.ok83
              rotate_left 2
              refine hk_tag 83 ?_
              rotate_right 2)
           )
        | (refine xr_do (v := ?_) (h' := ?_) (by exact rfl) ?_ ?_; rotate_left 2)
        | (refine xr_st (v := ?_) (h' := ?_) (by exact rfl) ?_ ?_; rotate_left 2)
        | (refine aw_ift (by decide) ?_ ?_
           · simp only [ev, put_some, reduceIte, Nat.reduceEqDiff, *])
        | (refine aw_iff (by decide) ?_ ?_
           · simp only [ev, put_some, reduceIte, Nat.reduceEqDiff, *])
        | (refine aw_if (b := ?_) (by decide) ?_ (fun hb => ?_) (fun hb => ?_)
           rotate_left 1
           · simp only [ev, put_some, reduceIte, Nat.reduceEqDiff, *]; rfl)
        | (refine r_ret (vs := ?_) ?_ ?_
           rotate_left 1
           · simp only [resV, oneOf, stp, ev, put_some, put_none, argT_list, List.getD_cons_zero, List.getD_cons_succ, reduceIte, Nat.reduceEqDiff, Option.map_some, Array.map_empty, List.map_toArray, List.map_cons, List.map_nil, List.append_toArray, Array.append_empty, Array.empty_append, List.nil_append, List.append_nil, and_self, if_true, decide_true, decide_false, Int.toNat_natCast, Int.natCast_nonneg, List.length_map, binV_add, binV_sub, binV_and, binV_shr, binV_shl, binV_str_eql, binV_str_neq, binV_mul, binV_eql, binV_neq, binV_lss, binV_leq, binV_gtr, binV_geq, unV_not, Bool.not_true, Bool.not_false, Bool.cond_true, Bool.cond_false, bld, fillL, vcs, splice, List.getElem?_toArray, List.getElem?_cons_zero, List.getElem?_cons_succ, true_and, ldv, stv, vcs, blt, lenV, List.size_toArray, List.length_cons, List.length_nil, Nat.zero_add, Array.getD_eq_getD_getElem?, List.getElem?_toArray, List.getElem?_cons_zero, List.getElem?_cons_succ, Option.getD_some, Option.isSome_some, Nat.add_assoc, List.toList_toArray, eq_self, Option.bind_some, List.append_assoc, List.cons_append, List.length_append, List.length_cons, List.length_nil, Nat.zero_add, Nat.add_zero, Nat.reduceAdd, Nat.reduceMul, Nat.reduceLeDiff, mset_some, mset_none, set_at, set_at0, killL_nil, killL_cons, getC_succ2, getC_succ3, getC_succ4, getC_succ5, getC_succ6, loadCs_succ2, loadCs_succ3, loadCs_succ4, loadCs_succ5, loadCs_succ6, setCs_succ2, setCs_succ3, setCs_succ4, setCs_succ5, setCs_succ6, getC_at, getC_at0, getC_zero, getC_succ, loadCs_at, loadCs_at0, loadCs_zero, loadCs_succ, setCs_at, setCs_at0, setCs_zero, setCs_succ, splice, List.set_cons_succ, List.set_cons_zero, List.getElem?_cons_zero, List.getElem?_cons_succ, List.drop_zero, List.drop_succ_cons, List.take_succ_cons, List.take_zero, newB, vcs, flat_int, flat_bool, flat_string, flat_slice, flat_pointer, flat_func, flat_nilFunc, List.all_cons, List.all_nil, Bool.and_true, Bool.and_self, Ty.ld3, Ty.sz3, Ty.zc3, Ty.by3, Ty.ld4, Ty.sz4, Ty.zc4, Ty.by4, Ty.ld5, Ty.sz5, Ty.zc5, Ty.by5, Ty.ld24, Ty.sz24, Ty.sl24, Ty.zc24, Ty.by24, Ty.ld25, Ty.sz25, Ty.zc25, Ty.by25, Ty.pl25, Ty.ld37, Ty.sz37, Ty.sl37, Ty.zc37, Ty.by37, Ty.ld103, Ty.sz103, Ty.zc103, Ty.by103, Ty.ld104, Ty.sz104, Ty.zc104, Ty.by104, Ty.ld106, Ty.sz106, Ty.zc106, Ty.by106, Ty.pl106, Grp.cells_length, Grp.cells_flat, Grp.cells_take, Grp.cells_splice, *]; rfl)
        | (with_reducible refine group_ok ⟨.slice vb nn vcap, code, 0, 0⟩ 0 _ _ (h ++ [⟨2, 1, [.int .i64 0, .int .i64 0, .int .i64 0, .int .i64 0, .int .i64 0, .bool false]⟩]) [] ?_ ?_ ?_ ?_ ?_ ?_
           · (rw [List.append_assoc]; rfl)
           · simp
           · exact hsl.old _
           · simpa using hbid 1
           · exact cur0_bud hcl hcw
           · first | omega | (simp only [List.length_nil]; omega)
           )
        | (with_reducible refine pick_ok3 ?_ _ ?_ _ _ (h ++ [⟨2, 1, [.int .i64 0, .int .i64 0, .int .i64 0, .int .i64 0, .int .i64 0, .bool false]⟩]) ?_ ?_ ?_ ?_ ?_ ?_ ?_
           rotate_left 3
           · (simp only [List.append_assoc, List.cons_append, List.nil_append]; rfl)
           · simp
           · (simpa only [Cur.pick_v1, Cur.pick_v2, hv1, hcd1] using hsl.old _)
           · (simpa [Cur.pick_v1, hv1] using hbid 1)
           · ((repeat' (first | exact hbud | refine Cur.pick_bud (k := ?_) ?_ ?_ _)) <;> omega)
           · first | omega | (simp only [List.length_nil]; omega)
           )
        | (with_reducible refine one_ok3 ?_ _ ?_ _ _ (h ++ [⟨2, 1, [.int .i64 0, .int .i64 0, .int .i64 0, .int .i64 0, .int .i64 0, .bool false]⟩]) ?_ ?_ ?_ ?_ ?_ ?_ ?_
           rotate_left 3
           · (simp only [List.append_assoc, List.cons_append, List.nil_append]; rfl)
           · simp
           · (simpa only [Cur.pick_v1, Cur.pick_v2, hv1, hcd1] using hsl.old _)
           · (simpa [Cur.pick_v1, hv1] using hbid 1)
           · ((repeat' (first | exact hbud | refine Cur.pick_bud (k := ?_) ?_ ?_ _)) <;> omega)
           · first | omega | (simp only [List.length_nil]; omega)
           )
        | (with_reducible refine among7 cc _ ?_ _ _ (h ++ [⟨2, 1, [.int .i64 0, .int .i64 0, .int .i64 0, .int .i64 0, .int .i64 0, .bool false]⟩]) ?_ ?_ ?_ ?_ ?_ ?_ ?_ ?_ ?_
           rotate_left 2
           · (simp only [List.append_assoc, List.cons_append, List.nil_append]; rfl)
           · simp
           · (simpa only [hv2, hcd2] using hsl.old _)
           · (simpa [hv2] using hbid 1)
           · exact hbud2
           · first | omega | (simp only [List.length_nil]; omega)
           · ((try (simp only [List.append_assoc, List.cons_append, List.nil_append])); refine sl_at (k := E1.length + (L.length + 3)) ?_ (ints_len _) ?_ (Nat.le_refl _); (exact get_deep _ _ _ _ _ _ _); rfl)
           · (simp only [bid, ne_eq, Option.some.injEq]; omega)
           )
        | ((with_reducible refine HkTag.mk (n := 80) ?_); rintro _ _ ⟨g, c1, E1, rfl, rfl, hv1, hcd1, hbud⟩)
        | ((with_reducible refine HkTag.mk (n := 81) ?_); rintro _ _ ⟨rfl, hh⟩; replace hh := hh.symm; subst hh)
        | ((with_reducible refine HkTag.mk (n := 82) ?_); rintro _ _ ⟨rfl, hh⟩; replace hh := hh.symm; subst hh)
        | ((with_reducible refine HkTag.mk (n := 83) ?_); rintro _ _ ⟨rfl, hh⟩; replace hh := hh.symm; subst hh)
        )
      refine ⟨m - 1, by omega, (cc.pick 7).2, L', l ++ [amg cc], rfl, by rw [Cur.pick_v1]; exact hv2, by rw [Cur.pick_v2]; exact hcd2, Cur.bud_mono (Cur.pick_bud hbud2 (by omega) 7) (by omega), by omega, ?_, ?_, ?_, ?_, ?_, ?_⟩
      · simp only [put_some, reduceIte, Nat.reduceEqDiff]
      · simp only [put_some, reduceIte, Nat.reduceEqDiff]; exact h4
      · simp only [put_some, reduceIte, Nat.reduceEqDiff]; exact h5
      · simp only [put_some, reduceIte, Nat.reduceEqDiff]; exact h2
      · simp only [put_some, reduceIte, Nat.reduceEqDiff]
        exact happ.cast rfl rfl rfl (by simp) (by simp)
      · simp; omega
end Go.Proofs.Ytiddnhhjlipebaa.Am

