/- Walks of the draws of groups and of plays. Conditions: none. -/
import Derived.Test.YtiddnhhjlipebaaW31
import Derived.Test.YtiddnhhjlipebaaW32
namespace Go.Proofs.Ytiddnhhjlipebaa.Am
open Go Go.Proofs
set_option linter.unusedVariables false
set_option linter.unusedSimpArgs false
set_option maxRecDepth 100000
set_option maxHeartbeats 8000000

theorem group_ok (c : Cur) (k id : Nat) (H h L : Heap) (hH : H = h ++ c.blk :: L) (hid : id = h.length) (hs0 : Sl h c.v 1 (bytesR c.code)) (hne : bid c.v ≠ some h.length) (hbud : c.bud k) (hk : k < 100000) :
    ACalls Try.prog 0 80 #[.pointer (some ⟨id, 0, none⟩)] H
    fun v h' => ∃ (g : Grp) (c' : Cur) (E : Heap), v = .agg g.cells.toArray ∧ h' = h ++ c'.blk :: (L ++ E) ∧ c'.v = c.v ∧ c'.code = c.code ∧ c'.bud (k + 20) := by
  subst hH hid; exact group_at c k h L hs0 hne hbud hk
theorem set_eq {H h L : Heap} {b b' : Blk} {id : Nat} (hH : H = h ++ b :: L) (hid : id = h.length) : H.set id b' = h ++ b' :: L := by
  subst hH hid; rw [set_at0]; rfl
theorem pick_ok3 (c : Cur) (n : Int) (k id : Nat) (H h L : Heap) (hH : H = h ++ c.blk :: L) (hid : id = h.length) (hs0 : Sl h c.v 1 (bytesR c.code)) (hne : bid c.v ≠ some h.length) (hb : c.bud k) (hk : k < 1000000) :
    ACalls Try.prog 0 81 #[.pointer (some ⟨id, 0, none⟩), .int .i64 n] H fun v h' => v = .int .i64 (c.pick n).1 ∧ h' = h ++ (c.pick n).2.blk :: L := by
  rw [← set_eq (b' := (c.pick n).2.blk) hH hid]
  exact pick_ok2 c n id k H (by subst hH hid; exact CurAt.at2 hs0 hne hb) hb hk
theorem one_ok3 (c : Cur) (n : Int) (k id : Nat) (H h L : Heap) (hH : H = h ++ c.blk :: L) (hid : id = h.length) (hs0 : Sl h c.v 1 (bytesR c.code)) (hne : bid c.v ≠ some h.length) (hb : c.bud k) (hk : k < 1000000) :
    ACalls Try.prog 0 82 #[.pointer (some ⟨id, 0, none⟩), .int .i64 n] H fun v h' => v = .bool (decide ((c.pick n).1 = 0)) ∧ h' = h ++ (c.pick n).2.blk :: L := by
  rw [← set_eq (b' := (c.pick n).2.blk) hH hid]
  exact one_ok2 c n id k H (by subst hH hid; exact CurAt.at2 hs0 hne hb) hb hk
theorem among_ok3 (c : Cur) (l : List Int) (vl : Value) (k id : Nat) (H h L : Heap) (hH : H = h ++ c.blk :: L) (hid : id = h.length) (hs0 : Sl h c.v 1 (bytesR c.code)) (hne : bid c.v ≠ some h.length) (hb : c.bud k) (hk : k < 1000000)
    (hs : Sl H vl 1 (ints l)) (hne2 : bid vl ≠ some id) (hl : 1 ≤ l.length) (hl2 : l.length ≤ 1000) :
    ACalls Try.prog 0 83 #[.pointer (some ⟨id, 0, none⟩), vl] H fun v h' => v = .int .i64 (l.getD (c.pick l.length).1.toNat 0) ∧ h' = h ++ (c.pick l.length).2.blk :: L := by
  rw [← set_eq (b' := (c.pick l.length).2.blk) hH hid]
  exact among_ok2 c l vl id k H (by subst hH hid; exact CurAt.at2 hs0 hne hb) hb hk hs hne2 hl hl2

theorem cur0_bud {code : List Int} {vc : Value} (hcl : code.length ≤ 9223372036854775807) (hcw : ∀ x ∈ code, 0 ≤ x ∧ x ≤ 255) : Cur.bud ⟨vc, code, 0, 0⟩ 0 :=
  ⟨⟨by simp, hcl, hcw, by simp, by simp⟩, Nat.le_refl _⟩

theorem drawGoodGroup_ok (code : List Int) (vc : Value) (h : Heap) (hsl : Sl h vc 1 (bytesR code)) (hbid : ∀ k, bid vc ≠ some (h.length + k)) (hcl : code.length ≤ 9223372036854775807) (hcw : ∀ x ∈ code, 0 ≤ x ∧ x ≤ 255) :
    ACalls Try.prog 0 88 #[vc] h fun v h' => ∃ (g : Grp) (E : Heap), v = .agg g.cells.toArray ∧ h' = h ++ E := by
  obtain ⟨vb, vcap, rfl, hvc, hvrow⟩ := id hsl
  generalize hnn : (bytesR code).length = nn at hsl hbid ⊢
  clear hvrow hvc
  refine acalls_fn Try.func88 rfl Try.ntmps88 (by simp) (by dsimp only [Try.f88]) ?_
  repeat' (first
    | ((with_reducible refine eq_go ?_); simp only [stp, ev, put_some, put_none, argT_list, List.getD_cons_zero, List.getD_cons_succ, reduceIte, Nat.reduceEqDiff, Option.map_some, Array.map_empty, List.map_toArray, List.map_cons, List.map_nil, List.append_toArray, Array.append_empty, Array.empty_append, List.nil_append, List.append_nil, and_self, if_true, decide_true, decide_false, Int.toNat_natCast, Int.natCast_nonneg, List.length_map, binV_add, binV_sub, binV_and, binV_shr, binV_shl, binV_str_eql, binV_str_neq, binV_mul, binV_eql, binV_neq, binV_lss, binV_leq, binV_gtr, binV_geq, unV_not, Bool.not_true, Bool.not_false, Bool.cond_true, Bool.cond_false, bld, fillL, vcs, splice, List.getElem?_toArray, List.getElem?_cons_zero, List.getElem?_cons_succ, true_and, ldv, stv, vcs, blt, lenV, List.size_toArray, List.length_cons, List.length_nil, Nat.zero_add, Array.getD_eq_getD_getElem?, List.getElem?_toArray, List.getElem?_cons_zero, List.getElem?_cons_succ, Option.getD_some, Option.isSome_some, Nat.add_assoc, List.toList_toArray, eq_self, Option.bind_some, List.append_assoc, List.cons_append, List.length_append, List.length_cons, List.length_nil, Nat.zero_add, Nat.add_zero, Nat.reduceAdd, Nat.reduceMul, Nat.reduceLeDiff, mset_some, mset_none, set_at, set_at0, killL_nil, killL_cons, getC_succ2, getC_succ3, getC_succ4, getC_succ5, getC_succ6, loadCs_succ2, loadCs_succ3, loadCs_succ4, loadCs_succ5, loadCs_succ6, setCs_succ2, setCs_succ3, setCs_succ4, setCs_succ5, setCs_succ6, getC_at, getC_at0, getC_zero, getC_succ, loadCs_at, loadCs_at0, loadCs_zero, loadCs_succ, setCs_at, setCs_at0, setCs_zero, setCs_succ, splice, List.set_cons_succ, List.set_cons_zero, List.getElem?_cons_zero, List.getElem?_cons_succ, List.drop_zero, List.drop_succ_cons, List.take_succ_cons, List.take_zero, newB, vcs, flat_int, flat_bool, flat_string, flat_slice, flat_pointer, flat_func, flat_nilFunc, List.all_cons, List.all_nil, Bool.and_true, Bool.and_self, Ty.ld3, Ty.sz3, Ty.zc3, Ty.by3, Ty.ld4, Ty.sz4, Ty.zc4, Ty.by4, Ty.ld5, Ty.sz5, Ty.zc5, Ty.by5, Ty.ld25, Ty.sz25, Ty.zc25, Ty.by25, Ty.pl25, Ty.ld37, Ty.sz37, Ty.sl37, Ty.zc37, Ty.by37, Ty.ld103, Ty.sz103, Ty.zc103, Ty.by103, Ty.ld104, Ty.sz104, Ty.zc104, Ty.by104, Ty.ld106, Ty.sz106, Ty.zc106, Ty.by106, Ty.pl106, Grp.cells_length, Grp.cells_flat, Grp.cells_take, Grp.cells_splice, *]; rfl)
    | (with_reducible refine aw_then ?_) | (with_reducible refine aw_skip ?_) | (with_reducible refine aw_ret ?_) | (with_reducible refine aw_exit ?_) | (with_reducible refine aw_block ?_) | (with_reducible refine xr_reg (by decide +kernel) ?_)
    | (with_reducible refine xr_nil ?_) | (with_reducible refine k_norm ?_) | (with_reducible refine k_ret ?_) | (with_reducible refine k_exit ?_) | (with_reducible refine b_norm ?_) | (with_reducible refine b_ret ?_) | (with_reducible refine b_exit ?_) | (with_reducible refine b_past (by decide) ?_)
    | (refine xr_cl (f := ?_) (fs := ?_) (cs := ?_) (args := ?_) (K := ?_) ?_ ?_ ?_ ?_ ?_
       rotate_left 5
       · simp only [ev]; rfl
       first
       | (· with_reducible exact Ty.ok80
          rotate_left 2
          refine hk_tag 80 ?_
          rotate_right 2)
       )
    | (refine xr_do (v := ?_) (h' := ?_) (by exact rfl) ?_ ?_; rotate_left 2)
    | (refine xr_st (v := ?_) (h' := ?_) (by exact rfl) ?_ ?_; rotate_left 2)
    | (refine aw_ift (by decide) ?_ ?_
       · simp only [ev, put_some, reduceIte, Nat.reduceEqDiff, *])
    | (refine aw_iff (by decide) ?_ ?_
       · simp only [ev, put_some, reduceIte, Nat.reduceEqDiff, *])
    | (refine aw_if (b := ?_) (by decide) ?_ (fun hb => ?_) (fun hb => ?_)
       rotate_left 1
       · simp only [ev, put_some, reduceIte, Nat.reduceEqDiff, *]; rfl)
    | (refine r_ret (vs := ?_) ?_ ?_
       rotate_left 1
       · simp only [resV, oneOf, stp, ev, put_some, put_none, argT_list, List.getD_cons_zero, List.getD_cons_succ, reduceIte, Nat.reduceEqDiff, Option.map_some, Array.map_empty, List.map_toArray, List.map_cons, List.map_nil, List.append_toArray, Array.append_empty, Array.empty_append, List.nil_append, List.append_nil, and_self, if_true, decide_true, decide_false, Int.toNat_natCast, Int.natCast_nonneg, List.length_map, binV_add, binV_sub, binV_and, binV_shr, binV_shl, binV_str_eql, binV_str_neq, binV_mul, binV_eql, binV_neq, binV_lss, binV_leq, binV_gtr, binV_geq, unV_not, Bool.not_true, Bool.not_false, Bool.cond_true, Bool.cond_false, bld, fillL, vcs, splice, List.getElem?_toArray, List.getElem?_cons_zero, List.getElem?_cons_succ, true_and, ldv, stv, vcs, blt, lenV, List.size_toArray, List.length_cons, List.length_nil, Nat.zero_add, Array.getD_eq_getD_getElem?, List.getElem?_toArray, List.getElem?_cons_zero, List.getElem?_cons_succ, Option.getD_some, Option.isSome_some, Nat.add_assoc, List.toList_toArray, eq_self, Option.bind_some, List.append_assoc, List.cons_append, List.length_append, List.length_cons, List.length_nil, Nat.zero_add, Nat.add_zero, Nat.reduceAdd, Nat.reduceMul, Nat.reduceLeDiff, mset_some, mset_none, set_at, set_at0, killL_nil, killL_cons, getC_succ2, getC_succ3, getC_succ4, getC_succ5, getC_succ6, loadCs_succ2, loadCs_succ3, loadCs_succ4, loadCs_succ5, loadCs_succ6, setCs_succ2, setCs_succ3, setCs_succ4, setCs_succ5, setCs_succ6, getC_at, getC_at0, getC_zero, getC_succ, loadCs_at, loadCs_at0, loadCs_zero, loadCs_succ, setCs_at, setCs_at0, setCs_zero, setCs_succ, splice, List.set_cons_succ, List.set_cons_zero, List.getElem?_cons_zero, List.getElem?_cons_succ, List.drop_zero, List.drop_succ_cons, List.take_succ_cons, List.take_zero, newB, vcs, flat_int, flat_bool, flat_string, flat_slice, flat_pointer, flat_func, flat_nilFunc, List.all_cons, List.all_nil, Bool.and_true, Bool.and_self, Ty.ld3, Ty.sz3, Ty.zc3, Ty.by3, Ty.ld4, Ty.sz4, Ty.zc4, Ty.by4, Ty.ld5, Ty.sz5, Ty.zc5, Ty.by5, Ty.ld25, Ty.sz25, Ty.zc25, Ty.by25, Ty.pl25, Ty.ld37, Ty.sz37, Ty.sl37, Ty.zc37, Ty.by37, Ty.ld103, Ty.sz103, Ty.zc103, Ty.by103, Ty.ld104, Ty.sz104, Ty.zc104, Ty.by104, Ty.ld106, Ty.sz106, Ty.zc106, Ty.by106, Ty.pl106, Grp.cells_length, Grp.cells_flat, Grp.cells_take, Grp.cells_splice, *]; rfl)
    | (with_reducible refine group_ok ⟨.slice vb nn vcap, code, 0, 0⟩ 0 _ _ (h ++ [⟨2, 1, [.int .i64 0, .int .i64 0, .int .i64 0, .int .i64 0, .int .i64 0, .bool false]⟩]) [] ?_ ?_ ?_ ?_ ?_ ?_
       · (rw [List.append_assoc]; rfl)
       · simp
       · exact hsl.old _
       · simpa using hbid 1
       · exact cur0_bud hcl hcw
       · first | omega | (simp only [List.length_nil]; omega)
       )
    | ((with_reducible refine HkTag.mk (n := 80) ?_); rintro _ _ ⟨g, c1, E1, rfl, rfl, hv1, hcd1, hbud⟩)
    )
  exact ⟨_, _, rfl, rfl⟩

theorem drawLeftIn_ok (code : List Int) (vc : Value) (h : Heap) (hsl : Sl h vc 1 (bytesR code)) (hbid : ∀ k, bid vc ≠ some (h.length + k)) (hcl : code.length ≤ 9223372036854775807) (hcw : ∀ x ∈ code, 0 ≤ x ∧ x ≤ 255) :
    ACalls Try.prog 0 36 #[vc] h fun v h' => ∃ (g : Grp) (E : Heap), v = .agg g.cells.toArray ∧ h' = h ++ E := by
  have hf := hsl.flat
  refine acalls_fn Try.func36 rfl Try.ntmps36 (by simp) (by dsimp only [Try.f36]) ?_
  repeat' (first
    | ((with_reducible refine eq_go ?_); simp only [stp, ev, put_some, put_none, argT_list, List.getD_cons_zero, List.getD_cons_succ, reduceIte, Nat.reduceEqDiff, Option.map_some, Array.map_empty, List.map_toArray, List.map_cons, List.map_nil, List.append_toArray, Array.append_empty, Array.empty_append, List.nil_append, List.append_nil, and_self, if_true, decide_true, decide_false, Int.toNat_natCast, Int.natCast_nonneg, List.length_map, binV_add, binV_sub, binV_and, binV_shr, binV_shl, binV_str_eql, binV_str_neq, binV_mul, binV_eql, binV_neq, binV_lss, binV_leq, binV_gtr, binV_geq, unV_not, Bool.not_true, Bool.not_false, Bool.cond_true, Bool.cond_false, ldv, stv, vcs, blt, lenV, List.size_toArray, List.length_cons, List.length_nil, Nat.zero_add, Array.getD_eq_getD_getElem?, List.getElem?_toArray, List.getElem?_cons_zero, List.getElem?_cons_succ, Option.getD_some, Option.isSome_some, Nat.add_assoc, List.toList_toArray, eq_self, Option.bind_some, List.append_assoc, List.cons_append, List.length_append, List.length_cons, List.length_nil, Nat.zero_add, Nat.add_zero, Nat.reduceAdd, Nat.reduceMul, Nat.reduceLeDiff, mset_some, mset_none, set_at, set_at0, killL_nil, killL_cons, getC_succ2, getC_succ3, getC_succ4, getC_succ5, getC_succ6, loadCs_succ2, loadCs_succ3, loadCs_succ4, loadCs_succ5, loadCs_succ6, setCs_succ2, setCs_succ3, setCs_succ4, setCs_succ5, setCs_succ6, getC_at, getC_at0, getC_zero, getC_succ, loadCs_at, loadCs_at0, loadCs_zero, loadCs_succ, setCs_at, setCs_at0, setCs_zero, setCs_succ, splice, List.set_cons_succ, List.set_cons_zero, List.getElem?_cons_zero, List.getElem?_cons_succ, List.drop_zero, List.drop_succ_cons, List.take_succ_cons, List.take_zero, newB, vcs, flat_int, flat_bool, flat_string, flat_slice, flat_pointer, flat_func, flat_nilFunc, List.all_cons, List.all_nil, Bool.and_true, Bool.and_self, Ty.ld3, Ty.sz3, Ty.zc3, Ty.by3, Ty.ld4, Ty.sz4, Ty.zc4, Ty.by4, Ty.ld5, Ty.sz5, Ty.zc5, Ty.by5, Ty.ld25, Ty.sz25, Ty.zc25, Ty.by25, Ty.ld37, Ty.sz37, Ty.sl37, Ty.zc37, Ty.by37, Grp.cells_length, Grp.cells_flat, Grp.cells_take, Grp.cells_splice, *]; rfl)
    | (with_reducible refine aw_then ?_) | (with_reducible refine aw_skip ?_) | (with_reducible refine aw_ret ?_) | (with_reducible refine aw_exit ?_) | (with_reducible refine aw_block ?_) | (with_reducible refine xr_reg (by decide +kernel) ?_)
    | (with_reducible refine xr_nil ?_) | (with_reducible refine k_norm ?_) | (with_reducible refine k_ret ?_) | (with_reducible refine k_exit ?_) | (with_reducible refine b_norm ?_) | (with_reducible refine b_ret ?_) | (with_reducible refine b_exit ?_) | (with_reducible refine b_past (by decide) ?_)
    | (refine xr_cl (f := ?_) (fs := ?_) (cs := ?_) (args := ?_) (K := ?_) ?_ ?_ ?_ ?_ ?_
       rotate_left 5
       · simp only [ev]; rfl
       first
       | (· with_reducible exact Ty.ok88
          rotate_left 2
          refine hk_tag 88 ?_
          rotate_right 2)
       )
    | (refine xr_do (v := ?_) (h' := ?_) (by exact rfl) ?_ ?_; rotate_left 2)
    | (refine xr_st (v := ?_) (h' := ?_) (by exact rfl) ?_ ?_; rotate_left 2)
    | (refine aw_ift (by decide) ?_ ?_
       · simp only [ev, put_some, reduceIte, Nat.reduceEqDiff, *])
    | (refine aw_iff (by decide) ?_ ?_
       · simp only [ev, put_some, reduceIte, Nat.reduceEqDiff, *])
    | (refine aw_if (b := ?_) (by decide) ?_ (fun hb => ?_) (fun hb => ?_)
       rotate_left 1
       · simp only [ev, put_some, reduceIte, Nat.reduceEqDiff, *]; rfl)
    | (refine r_ret (vs := ?_) ?_ ?_
       rotate_left 1
       · simp only [resV, oneOf, stp, ev, put_some, put_none, argT_list, List.getD_cons_zero, List.getD_cons_succ, reduceIte, Nat.reduceEqDiff, Option.map_some, Array.map_empty, List.map_toArray, List.map_cons, List.map_nil, List.append_toArray, Array.append_empty, Array.empty_append, List.nil_append, List.append_nil, and_self, if_true, decide_true, decide_false, Int.toNat_natCast, Int.natCast_nonneg, List.length_map, binV_add, binV_sub, binV_and, binV_shr, binV_shl, binV_str_eql, binV_str_neq, binV_mul, binV_eql, binV_neq, binV_lss, binV_leq, binV_gtr, binV_geq, unV_not, Bool.not_true, Bool.not_false, Bool.cond_true, Bool.cond_false, ldv, stv, vcs, blt, lenV, List.size_toArray, List.length_cons, List.length_nil, Nat.zero_add, Array.getD_eq_getD_getElem?, List.getElem?_toArray, List.getElem?_cons_zero, List.getElem?_cons_succ, Option.getD_some, Option.isSome_some, Nat.add_assoc, List.toList_toArray, eq_self, Option.bind_some, List.append_assoc, List.cons_append, List.length_append, List.length_cons, List.length_nil, Nat.zero_add, Nat.add_zero, Nat.reduceAdd, Nat.reduceMul, Nat.reduceLeDiff, mset_some, mset_none, set_at, set_at0, killL_nil, killL_cons, getC_succ2, getC_succ3, getC_succ4, getC_succ5, getC_succ6, loadCs_succ2, loadCs_succ3, loadCs_succ4, loadCs_succ5, loadCs_succ6, setCs_succ2, setCs_succ3, setCs_succ4, setCs_succ5, setCs_succ6, getC_at, getC_at0, getC_zero, getC_succ, loadCs_at, loadCs_at0, loadCs_zero, loadCs_succ, setCs_at, setCs_at0, setCs_zero, setCs_succ, splice, List.set_cons_succ, List.set_cons_zero, List.getElem?_cons_zero, List.getElem?_cons_succ, List.drop_zero, List.drop_succ_cons, List.take_succ_cons, List.take_zero, newB, vcs, flat_int, flat_bool, flat_string, flat_slice, flat_pointer, flat_func, flat_nilFunc, List.all_cons, List.all_nil, Bool.and_true, Bool.and_self, Ty.ld3, Ty.sz3, Ty.zc3, Ty.by3, Ty.ld4, Ty.sz4, Ty.zc4, Ty.by4, Ty.ld5, Ty.sz5, Ty.zc5, Ty.by5, Ty.ld25, Ty.sz25, Ty.zc25, Ty.by25, Ty.ld37, Ty.sz37, Ty.sl37, Ty.zc37, Ty.by37, Grp.cells_length, Grp.cells_flat, Grp.cells_take, Grp.cells_splice, *]; rfl)
    | (with_reducible refine drawGoodGroup_ok ?_ _ _ ?_ ?_ ?_ ?_
       rotate_left 1
       · exact hsl.old _
       · (intro k; simpa [Nat.add_assoc] using hbid (1 + k))
       · assumption
       · assumption
       )
    | ((with_reducible refine HkTag.mk (n := 88) ?_); rintro _ _ ⟨g, E1, rfl, rfl⟩)
    )
  exact ⟨_, _, rfl, rfl⟩

theorem drawStepGroup_ok (code : List Int) (vc : Value) (h : Heap) (hsl : Sl h vc 1 (bytesR code)) (hbid : ∀ k, bid vc ≠ some (h.length + k)) (hcl : code.length ≤ 9223372036854775807) (hcw : ∀ x ∈ code, 0 ≤ x ∧ x ≤ 255) :
    ACalls Try.prog 0 34 #[vc] h fun v h' => ∃ (g : Grp) (k : Int) (E : Heap), v = .tuple #[.agg g.cells.toArray, .int .i64 k] ∧ h' = h ++ E := by
  obtain ⟨vb, vcap, rfl, hvc, hvrow⟩ := id hsl
  generalize hnn : (bytesR code).length = nn at hsl hbid ⊢
  clear hvrow hvc
  refine acalls_fn Try.func34 rfl Try.ntmps34 (by simp) (by dsimp only [Try.f34]) ?_
  repeat' (first
    | ((with_reducible refine eq_go ?_); simp only [stp, ev, put_some, put_none, argT_list, List.getD_cons_zero, List.getD_cons_succ, reduceIte, Nat.reduceEqDiff, Option.map_some, Array.map_empty, List.map_toArray, List.map_cons, List.map_nil, List.append_toArray, Array.append_empty, Array.empty_append, List.nil_append, List.append_nil, and_self, if_true, decide_true, decide_false, Int.toNat_natCast, Int.natCast_nonneg, List.length_map, binV_add, binV_sub, binV_and, binV_shr, binV_shl, binV_str_eql, binV_str_neq, binV_mul, binV_eql, binV_neq, binV_lss, binV_leq, binV_gtr, binV_geq, unV_not, Bool.not_true, Bool.not_false, Bool.cond_true, Bool.cond_false, bld, fillL, vcs, splice, List.getElem?_toArray, List.getElem?_cons_zero, List.getElem?_cons_succ, true_and, ldv, stv, vcs, blt, lenV, List.size_toArray, List.length_cons, List.length_nil, Nat.zero_add, Array.getD_eq_getD_getElem?, List.getElem?_toArray, List.getElem?_cons_zero, List.getElem?_cons_succ, Option.getD_some, Option.isSome_some, Nat.add_assoc, List.toList_toArray, eq_self, Option.bind_some, List.append_assoc, List.cons_append, List.length_append, List.length_cons, List.length_nil, Nat.zero_add, Nat.add_zero, Nat.reduceAdd, Nat.reduceMul, Nat.reduceLeDiff, mset_some, mset_none, set_at, set_at0, killL_nil, killL_cons, getC_succ2, getC_succ3, getC_succ4, getC_succ5, getC_succ6, loadCs_succ2, loadCs_succ3, loadCs_succ4, loadCs_succ5, loadCs_succ6, setCs_succ2, setCs_succ3, setCs_succ4, setCs_succ5, setCs_succ6, getC_at, getC_at0, getC_zero, getC_succ, loadCs_at, loadCs_at0, loadCs_zero, loadCs_succ, setCs_at, setCs_at0, setCs_zero, setCs_succ, splice, List.set_cons_succ, List.set_cons_zero, List.getElem?_cons_zero, List.getElem?_cons_succ, List.drop_zero, List.drop_succ_cons, List.take_succ_cons, List.take_zero, newB, vcs, flat_int, flat_bool, flat_string, flat_slice, flat_pointer, flat_func, flat_nilFunc, List.all_cons, List.all_nil, Bool.and_true, Bool.and_self, Ty.ld3, Ty.sz3, Ty.zc3, Ty.by3, Ty.ld4, Ty.sz4, Ty.zc4, Ty.by4, Ty.ld5, Ty.sz5, Ty.zc5, Ty.by5, Ty.ld25, Ty.sz25, Ty.zc25, Ty.by25, Ty.pl25, Ty.ld37, Ty.sz37, Ty.sl37, Ty.zc37, Ty.by37, Ty.ld103, Ty.sz103, Ty.zc103, Ty.by103, Ty.ld104, Ty.sz104, Ty.zc104, Ty.by104, Ty.ld106, Ty.sz106, Ty.zc106, Ty.by106, Ty.pl106, Grp.cells_length, Grp.cells_flat, Grp.cells_take, Grp.cells_splice, *]; rfl)
    | (with_reducible refine aw_then ?_) | (with_reducible refine aw_skip ?_) | (with_reducible refine aw_ret ?_) | (with_reducible refine aw_exit ?_) | (with_reducible refine aw_block ?_) | (with_reducible refine xr_reg (by decide +kernel) ?_)
    | (with_reducible refine xr_nil ?_) | (with_reducible refine k_norm ?_) | (with_reducible refine k_ret ?_) | (with_reducible refine k_exit ?_) | (with_reducible refine b_norm ?_) | (with_reducible refine b_ret ?_) | (with_reducible refine b_exit ?_) | (with_reducible refine b_past (by decide) ?_)
    | (refine xr_cl (f := ?_) (fs := ?_) (cs := ?_) (args := ?_) (K := ?_) ?_ ?_ ?_ ?_ ?_
       rotate_left 5
       · simp only [ev]; rfl
       first
       | (· with_reducible exact Ty.ok80
          rotate_left 2
          refine hk_tag 80 ?_
          rotate_right 2)
       | (· with_reducible exact Ty.ok81
          rotate_left 2
          refine hk_tag 81 ?_
          rotate_right 2)
       )
    | (refine xr_do (v := ?_) (h' := ?_) (by exact rfl) ?_ ?_; rotate_left 2)
    | (refine xr_st (v := ?_) (h' := ?_) (by exact rfl) ?_ ?_; rotate_left 2)
    | (refine aw_ift (by decide) ?_ ?_
       · simp only [ev, put_some, reduceIte, Nat.reduceEqDiff, *])
    | (refine aw_iff (by decide) ?_ ?_
       · simp only [ev, put_some, reduceIte, Nat.reduceEqDiff, *])
    | (refine aw_if (b := ?_) (by decide) ?_ (fun hb => ?_) (fun hb => ?_)
       rotate_left 1
       · simp only [ev, put_some, reduceIte, Nat.reduceEqDiff, *]; rfl)
    | (refine r_ret (vs := ?_) ?_ ?_
       rotate_left 1
       · simp only [resV, oneOf, stp, ev, put_some, put_none, argT_list, List.getD_cons_zero, List.getD_cons_succ, reduceIte, Nat.reduceEqDiff, Option.map_some, Array.map_empty, List.map_toArray, List.map_cons, List.map_nil, List.append_toArray, Array.append_empty, Array.empty_append, List.nil_append, List.append_nil, and_self, if_true, decide_true, decide_false, Int.toNat_natCast, Int.natCast_nonneg, List.length_map, binV_add, binV_sub, binV_and, binV_shr, binV_shl, binV_str_eql, binV_str_neq, binV_mul, binV_eql, binV_neq, binV_lss, binV_leq, binV_gtr, binV_geq, unV_not, Bool.not_true, Bool.not_false, Bool.cond_true, Bool.cond_false, bld, fillL, vcs, splice, List.getElem?_toArray, List.getElem?_cons_zero, List.getElem?_cons_succ, true_and, ldv, stv, vcs, blt, lenV, List.size_toArray, List.length_cons, List.length_nil, Nat.zero_add, Array.getD_eq_getD_getElem?, List.getElem?_toArray, List.getElem?_cons_zero, List.getElem?_cons_succ, Option.getD_some, Option.isSome_some, Nat.add_assoc, List.toList_toArray, eq_self, Option.bind_some, List.append_assoc, List.cons_append, List.length_append, List.length_cons, List.length_nil, Nat.zero_add, Nat.add_zero, Nat.reduceAdd, Nat.reduceMul, Nat.reduceLeDiff, mset_some, mset_none, set_at, set_at0, killL_nil, killL_cons, getC_succ2, getC_succ3, getC_succ4, getC_succ5, getC_succ6, loadCs_succ2, loadCs_succ3, loadCs_succ4, loadCs_succ5, loadCs_succ6, setCs_succ2, setCs_succ3, setCs_succ4, setCs_succ5, setCs_succ6, getC_at, getC_at0, getC_zero, getC_succ, loadCs_at, loadCs_at0, loadCs_zero, loadCs_succ, setCs_at, setCs_at0, setCs_zero, setCs_succ, splice, List.set_cons_succ, List.set_cons_zero, List.getElem?_cons_zero, List.getElem?_cons_succ, List.drop_zero, List.drop_succ_cons, List.take_succ_cons, List.take_zero, newB, vcs, flat_int, flat_bool, flat_string, flat_slice, flat_pointer, flat_func, flat_nilFunc, List.all_cons, List.all_nil, Bool.and_true, Bool.and_self, Ty.ld3, Ty.sz3, Ty.zc3, Ty.by3, Ty.ld4, Ty.sz4, Ty.zc4, Ty.by4, Ty.ld5, Ty.sz5, Ty.zc5, Ty.by5, Ty.ld25, Ty.sz25, Ty.zc25, Ty.by25, Ty.pl25, Ty.ld37, Ty.sz37, Ty.sl37, Ty.zc37, Ty.by37, Ty.ld103, Ty.sz103, Ty.zc103, Ty.by103, Ty.ld104, Ty.sz104, Ty.zc104, Ty.by104, Ty.ld106, Ty.sz106, Ty.zc106, Ty.by106, Ty.pl106, Grp.cells_length, Grp.cells_flat, Grp.cells_take, Grp.cells_splice, *]; rfl)
    | (with_reducible refine group_ok ⟨.slice vb nn vcap, code, 0, 0⟩ 0 _ _ (h ++ [⟨2, 1, [.int .i64 0, .int .i64 0, .int .i64 0, .int .i64 0, .int .i64 0, .bool false]⟩]) [] ?_ ?_ ?_ ?_ ?_ ?_
       · (rw [List.append_assoc]; rfl)
       · simp
       · exact hsl.old _
       · simpa using hbid 1
       · exact cur0_bud hcl hcw
       · first | omega | (simp only [List.length_nil]; omega)
       )
    | (with_reducible refine pick_ok3 ?_ _ ?_ _ _ (h ++ [⟨2, 1, [.int .i64 0, .int .i64 0, .int .i64 0, .int .i64 0, .int .i64 0, .bool false]⟩]) ?_ ?_ ?_ ?_ ?_ ?_ ?_
       rotate_left 3
       · (simp only [List.append_assoc, List.cons_append, List.nil_append]; rfl)
       · simp
       · (simpa only [Cur.pick_v1, Cur.pick_v2, hv1, hcd1] using hsl.old _)
       · (simpa [Cur.pick_v1, hv1] using hbid 1)
       · ((repeat' (first | exact hbud | refine Cur.pick_bud (k := ?_) ?_ ?_ _)) <;> omega)
       · first | omega | (simp only [List.length_nil]; omega)
       )
    | ((with_reducible refine HkTag.mk (n := 80) ?_); rintro _ _ ⟨g, c1, E1, rfl, rfl, hv1, hcd1, hbud⟩)
    | ((with_reducible refine HkTag.mk (n := 81) ?_); rintro _ _ ⟨rfl, hh⟩; replace hh := hh.symm; subst hh)
    )
  exact ⟨_, _, _, rfl, rfl⟩
end Go.Proofs.Ytiddnhhjlipebaa.Am

