/- Walks of the reference's lists of items, and of the laws about them. Conditions: none. -/
import Derived.Test.YtodpfcgjlcecmaaW15
namespace Go.Proofs.Ytodpfcgjlcecmaa.Am
open Go Go.Proofs
set_option linter.unusedVariables false
set_option linter.unusedSimpArgs false
set_option maxRecDepth 100000
set_option maxHeartbeats 8000000

theorem personOk_role2 {now who : Int} {people : List Int} {items : List Item} (h : personOk now people items who = true) {x : Item} (hx : x ∈ items) : 0 ≤ x.role ∧ x.role ≤ 3 := by
  simp only [personOk, deskOk, Bool.and_eq_true, List.all_eq_true] at h
  have := h.1.2.2.2.2 x hx
  simp only [itemOk, Bool.and_eq_true, decide_eq_true_eq] at this
  omega

theorem specHeldBy_ok (now who : Int) (people : List Int) (items : List Item) (vp vi : Value) (h : Heap) (hp : Sl h vp 1 (people.map fun n => [.int .i64 n])) (hi : Sl h vi 6 (items.map Item.cells))
    (hl : people.length ≤ 1048576) (hl2 : items.length ≤ 1048576) :
    ACalls Try.prog 0 49 #[.agg #[.int .i64 now, vp, vi], .int .i64 who] h
    fun v h' => v = .tuple #[listV h.length (withP now people items who (heldP who)), .bool (personOk now people items who)] ∧ h' = h ++ listL (withP now people items who (heldP who)) := by
  refine acalls_canon _ _ ?_
  have hf := hp.flat
  have hf2 := hi.flat
  have hwr : IntKind.i64.wrap ((people.length : Int) - 1) = (people.length : Int) - 1 := wrap_id (by omega)
  have hp' := hp
  obtain ⟨pb, pc, rfl, hpc, hprow⟩ := id hp
  obtain ⟨b2, c2, rfl, hc2, hrow⟩ := id hi
  simp only [List.length_map] at hf hf2 hc2 hi hp hp' hpc ⊢
  rcases Bool.eq_false_or_eq_true (deskOk now people items) with hk | hk
  · have h6 := deskOk_people hk
    by_cases hw : 0 ≤ who ∧ who ≤ (people.length : Int) - 1
    · have hw1 : decide (0 ≤ who ∧ who ≤ (people.length : Int) - 1) = true := decide_eq_true hw
      have hok : personOk now people items who = true := by simp only [personOk, hk, hw1, Bool.and_true]
      clear hw
      simp only [withP, hok, if_true]
      refine acalls_fn Try.func49 rfl Try.ntmps49 (by simp) (by dsimp only [Try.f49]) ?_
      repeat' (first
        | ((with_reducible refine eq_go ?_); simp only [stp, ev, put_some, put_none, argT_list, List.getD_cons_zero, List.getD_cons_succ, reduceIte, Nat.reduceEqDiff, Option.map_some, Array.map_empty, List.map_toArray, List.map_cons, List.map_nil, List.append_toArray, Array.append_empty, Array.empty_append, List.nil_append, List.append_nil, and_self, if_true, decide_true, decide_false, Int.toNat_natCast, Int.natCast_nonneg, List.length_map, binV_add, binV_sub, binV_and, binV_shr, binV_shl, binV_str_eql, binV_str_neq, binV_mul, binV_eql, binV_neq, binV_lss, binV_leq, binV_gtr, binV_geq, unV_not, Bool.not_true, Bool.not_false, Bool.cond_true, Bool.cond_false, ldv, stv, vcs, fldA, idxA, blt, lenV, List.size_toArray, List.length_cons, List.length_nil, Nat.zero_add, Array.getD_eq_getD_getElem?, List.getElem?_toArray, List.getElem?_cons_zero, List.getElem?_cons_succ, Option.getD_some, Option.isSome_some, Nat.add_assoc, List.toList_toArray, eq_self, Option.bind_some, List.append_assoc, List.cons_append, List.length_append, List.length_cons, List.length_nil, Nat.zero_add, Nat.add_zero, Nat.reduceAdd, Nat.reduceMul, Nat.reduceLeDiff, mset_some, mset_none, set_at, set_at0, getC_at, getC_at0, getC_zero, getC_succ, loadCs_at, loadCs_at0, loadCs_zero, loadCs_succ, setCs_at, setCs_at0, setCs_zero, setCs_succ, splice, List.set_cons_succ, List.set_cons_zero, List.getElem?_cons_zero, List.getElem?_cons_succ, List.drop_zero, List.drop_succ_cons, List.take_succ_cons, List.take_zero, newB, vcs, flat_int, flat_bool, flat_string, flat_slice, flat_pointer, flat_func, flat_nilFunc, List.all_cons, List.all_nil, Bool.and_true, Bool.and_self, Ty.ld3, Ty.sz3, Ty.zc3, Ty.by3, Ty.ld24, Ty.sz24, Ty.sl24, Ty.zc24, Ty.by24, Ty.ld56, Ty.sz56, Ty.sl56, Ty.zc56, Ty.by56, Ty.ld58, Ty.sz58, Ty.zc58, Ty.by58, Ty.fl58_0, Ty.fl58_1, Ty.fl58_2, Ty.ld77, Ty.sz77, Ty.zc77, Ty.by77, Ty.fl77_0, Ty.fl77_1, Ty.fl77_2, Ty.fl77_3, Ty.fl77_4, Ty.fl77_5, *]; rfl)
        | (with_reducible refine aw_then ?_) | (with_reducible refine aw_skip ?_) | (with_reducible refine aw_ret ?_) | (with_reducible refine aw_exit ?_) | (with_reducible refine aw_block ?_) | (with_reducible refine xr_reg (by decide +kernel) ?_)
        | (with_reducible refine xr_nil ?_) | (with_reducible refine k_norm ?_) | (with_reducible refine k_ret ?_) | (with_reducible refine k_exit ?_) | (with_reducible refine b_norm ?_) | (with_reducible refine b_ret ?_) | (with_reducible refine b_exit ?_) | (with_reducible refine b_past (by decide) ?_)
        | (refine xr_cl (f := ?_) (fs := ?_) (cs := ?_) (args := ?_) (K := ?_) ?_ ?_ ?_ ?_ ?_
           rotate_left 5
           · simp only [ev]; rfl
           · first | with_reducible exact Ty.ok39 | with_reducible exact Ty.ok78)
        | (refine xr_gcl (f := ?_) (fs := ?_) (cs := ?_) (args := ?_) (K := ?_) (by exact rfl) ?_ ?_ ?_ ?_ ?_ ?_
           rotate_left 5
           · simp only [ev, put_some, reduceIte, Nat.reduceEqDiff, Bool.not_true, Bool.not_false, *]
           · simp only [ev]; rfl
           · first | with_reducible exact Ty.ok39 | with_reducible exact Ty.ok78)
        | (refine xr_do (v := ?_) (h' := ?_) (by exact rfl) ?_ ?_; rotate_left 2)
        | (refine xr_st (v := ?_) (h' := ?_) (by exact rfl) ?_ ?_; rotate_left 2)
        | (refine xr_gdo (v := ?_) (h' := ?_) (by exact rfl) (by exact rfl) ?_ ?_ ?_
           rotate_left 2
           · simp only [ev, put_some, reduceIte, Nat.reduceEqDiff, Bool.not_true, Bool.not_false, *])
        | (refine xr_gst (v := ?_) (h' := ?_) (by exact rfl) (by exact rfl) ?_ ?_ ?_
           rotate_left 2
           · simp only [ev, put_some, reduceIte, Nat.reduceEqDiff, Bool.not_true, Bool.not_false, *])
        | (refine xr_goff (by exact rfl) ?_ ?_
           · simp only [ev, put_some, reduceIte, Nat.reduceEqDiff, Bool.not_true, Bool.not_false, *])
        | (refine xr_gsoff (by exact rfl) ?_ ?_
           · simp only [ev, put_some, reduceIte, Nat.reduceEqDiff, Bool.not_true, Bool.not_false, *])
        | (refine xr_gund (by exact rfl) ?_ ?_
           · simp only [ev, put_some, reduceIte, Nat.reduceEqDiff, Bool.not_true, Bool.not_false, *])
        | (refine xr_gsund (by exact rfl) ?_ ?_
           · simp only [ev, put_some, reduceIte, Nat.reduceEqDiff, Bool.not_true, Bool.not_false, *])
        | (refine xr_gif (b := ?_) (by exact rfl) ?_ (fun hb => ?_) (fun hb => ?_)
           rotate_left 1
           · simp only [ev, put_some, reduceIte, Nat.reduceEqDiff, Bool.not_true, Bool.not_false, *]; rfl)
        | (refine aw_ift (by decide) ?_ ?_
           · simp only [ev, put_some, reduceIte, Nat.reduceEqDiff, *])
        | (refine aw_iff (by decide) ?_ ?_
           · simp only [ev, put_some, reduceIte, Nat.reduceEqDiff, *])
        | (refine aw_if (b := ?_) (by decide) ?_ (fun hb => ?_) (fun hb => ?_)
           rotate_left 1
           · simp only [ev, put_some, reduceIte, Nat.reduceEqDiff, *]; rfl)
        | (refine r_ret (vs := ?_) ?_ ?_
           rotate_left 1
           · simp only [resV, ev, put_some, reduceIte, Nat.reduceEqDiff, Option.map_some, *]; rfl)
        | (with_reducible refine specGoodDesk_ok _ ?_ ?_ _ _ _ ?_ ?_ ?_ ?_
           rotate_left 2
           · first | assumption | exact Sl.old (by assumption) _ | ((try (simp only [deskV, deskL, mset_some, mset_none, set_at, set_at0, List.set_cons_succ, List.set_cons_zero, List.append_assoc, List.cons_append, List.nil_append, List.length_append, List.length_cons, List.length_nil, Nat.zero_add, Nat.add_zero, Nat.reduceAdd, Nat.add_assoc])); first | exact Sl.old (by assumption) _ | exact sl_nilints | exact sl_nilitems | (refine sl_ints (Nat.le_refl _) ?_; exact rfl) | (refine sl_items (Nat.le_refl _) ?_; exact rfl) | (refine sl_ints0 (Nat.le_refl _) ?_; exact rfl) | (refine sl_items0 (Nat.le_refl _) ?_; exact rfl))
           · first | assumption | exact Sl.old (by assumption) _ | ((try (simp only [deskV, deskL, mset_some, mset_none, set_at, set_at0, List.set_cons_succ, List.set_cons_zero, List.append_assoc, List.cons_append, List.nil_append, List.length_append, List.length_cons, List.length_nil, Nat.zero_add, Nat.add_zero, Nat.reduceAdd, Nat.add_assoc])); first | exact Sl.old (by assumption) _ | exact sl_nilints | exact sl_nilitems | (refine sl_ints (Nat.le_refl _) ?_; exact rfl) | (refine sl_items (Nat.le_refl _) ?_; exact rfl) | (refine sl_ints0 (Nat.le_refl _) ?_; exact rfl) | (refine sl_items0 (Nat.le_refl _) ?_; exact rfl))
           · first | omega | (simp only [List.length_nil]; omega)
           · first | omega | (simp only [List.length_nil]; omega)
           )
        | (with_reducible exact l1In_ok _ _ _ _)
        | rintro _ _ ⟨rfl, rfl⟩
        )
      refine aw_for [1, 2, 22, 23] (fun k T h' => ∃ L, h' = h ++ (⟨2, 1, [.int .i64 now, .slice pb people.length pc, .slice b2 items.length c2]⟩ :: L) ∧ T 24 = .int .i64 k ∧
        App (h.length + 1) L (T 6) 1 (ints (idxs (heldP who) (items.take k))).flatten (idxs (heldP who) (items.take k)).length) items.length (k0 := 0) (Nat.zero_le _) ⟨[], rfl, rfl, App.nil _ _ _⟩ ?_
      rintro k T h' hk hR ⟨L, rfl, h11, hap⟩
      simp only [List.forall_mem_cons, List.not_mem_nil, false_implies, implies_true, and_true, stp, ev, put_some, put_none, argT_list, List.getD_cons_zero, List.getD_cons_succ, reduceIte, Nat.reduceEqDiff, Option.map_some, Array.map_empty, List.map_toArray, List.map_cons, List.map_nil, List.append_toArray, Array.append_empty, Array.empty_append, List.nil_append, List.append_nil, and_self, if_true, decide_true, decide_false, Int.toNat_natCast, Int.natCast_nonneg, List.length_map, binV_add, binV_sub, binV_and, binV_shr, binV_shl, binV_str_eql, binV_str_neq, binV_mul, binV_eql, binV_neq, binV_lss, binV_leq, binV_gtr, binV_geq, unV_not, Bool.not_true, Bool.not_false, Bool.cond_true, Bool.cond_false] at hR
      rcases Nat.lt_or_ge k items.length with hkn | hkn
      · have h1 : (k : Int) < items.length := by omega
        obtain ⟨a, rfl, hld0⟩ := Sl.row hrow (k := k) (by simpa using hkn)
        rw [List.getElem_map] at hld0
        have hld := loadCs_old hld0
        have hbs := bsl_one (h := h ++ ⟨2, 1, [.int .i64 now, .slice pb people.length pc, .slice (some a) items.length c2]⟩ :: (L ++ [⟨2, 1, items[k].cells⟩])) (x := .int .i64 k) Ty.sl24 Ty.zc3 rfl rfl
        have hil := idxs_len (heldP who) (items.take k)
        rw [List.length_take] at hil
        obtain ⟨v', L', hap', happ⟩ := app_step (h2 := h ++ [⟨2, 1, [.int .i64 now, .slice pb people.length pc, .slice (some a) items.length c2]⟩]) (L := L) (E := [⟨2, 1, items[k].cells⟩, ⟨2, 1, [.int .i64 k]⟩]) (j := 1) (ix := h.length + (L.length + 2))
          Ty.sl24 Ty.zc3 Ty.by3 (by simpa using hap) rfl rfl (by simp; omega) (by omega) (by omega)
        simp only [List.append_assoc, List.cons_append, List.nil_append, List.length_append, List.length_cons, List.length_nil, Nat.zero_add, Nat.add_assoc, Nat.reduceAdd] at hbs hap' happ
        have hsn := idxs_snoc (heldP who) hkn
        have hT : (heldP who) items[k] = true → App (h.length + 1) L' v' 1 (ints (idxs (heldP who) (items.take (k + 1)))).flatten (idxs (heldP who) (items.take (k + 1))).length := fun q => by
          rw [hsn, q, if_pos rfl]; exact happ.cast rfl rfl rfl (by simp) (by simp)
        have hF : (heldP who) items[k] = false → App (h.length + 1) (L ++ [⟨2, 1, items[k].cells⟩]) (T 6) 1 (ints (idxs (heldP who) (items.take (k + 1)))).flatten (idxs (heldP who) (items.take (k + 1))).length := fun q => by
          rw [hsn, q, if_neg (by simp), List.append_nil]; exact hap.more _
        clear hsn happ hap
        repeat' (first
          | ((with_reducible refine eq_go ?_); simp only [stp, ev, put_some, put_none, argT_list, List.getD_cons_zero, List.getD_cons_succ, reduceIte, Nat.reduceEqDiff, Option.map_some, Array.map_empty, List.map_toArray, List.map_cons, List.map_nil, List.append_toArray, Array.append_empty, Array.empty_append, List.nil_append, List.append_nil, and_self, if_true, decide_true, decide_false, Int.toNat_natCast, Int.natCast_nonneg, List.length_map, binV_add, binV_sub, binV_and, binV_shr, binV_shl, binV_str_eql, binV_str_neq, binV_mul, binV_eql, binV_neq, binV_lss, binV_leq, binV_gtr, binV_geq, unV_not, Bool.not_true, Bool.not_false, Bool.cond_true, Bool.cond_false, ldv, stv, vcs, fldA, idxA, blt, lenV, List.size_toArray, List.length_cons, List.length_nil, Nat.zero_add, Array.getD_eq_getD_getElem?, List.getElem?_toArray, List.getElem?_cons_zero, List.getElem?_cons_succ, Option.getD_some, Option.isSome_some, Nat.add_assoc, List.toList_toArray, eq_self, Option.bind_some, List.append_assoc, List.cons_append, List.length_append, List.length_cons, List.length_nil, Nat.zero_add, Nat.add_zero, Nat.reduceAdd, Nat.reduceMul, Nat.reduceLeDiff, mset_some, mset_none, set_at, set_at0, getC_at, getC_at0, getC_zero, getC_succ, loadCs_at, loadCs_at0, loadCs_zero, loadCs_succ, setCs_at, setCs_at0, setCs_zero, setCs_succ, splice, List.set_cons_succ, List.set_cons_zero, List.getElem?_cons_zero, List.getElem?_cons_succ, List.drop_zero, List.drop_succ_cons, List.take_succ_cons, List.take_zero, newB, vcs, flat_int, flat_bool, flat_string, flat_slice, flat_pointer, flat_func, flat_nilFunc, List.all_cons, List.all_nil, Bool.and_true, Bool.and_self, Ty.ld3, Ty.sz3, Ty.zc3, Ty.by3, Ty.ld24, Ty.sz24, Ty.sl24, Ty.zc24, Ty.by24, Ty.ld56, Ty.sz56, Ty.sl56, Ty.zc56, Ty.by56, Ty.ld58, Ty.sz58, Ty.zc58, Ty.by58, Ty.fl58_0, Ty.fl58_1, Ty.fl58_2, Ty.ld77, Ty.sz77, Ty.zc77, Ty.by77, Ty.fl77_0, Ty.fl77_1, Ty.fl77_2, Ty.fl77_3, Ty.fl77_4, Ty.fl77_5, Item.cells_length, Item.cells_flat, Item.cells_take, Item.cells_splice, Item.get2, Item.get3, Item.get4, *]; rfl)
          | (with_reducible refine aw_then ?_) | (with_reducible refine aw_skip ?_) | (with_reducible refine aw_ret ?_) | (with_reducible refine aw_exit ?_) | (with_reducible refine aw_block ?_) | (with_reducible refine xr_reg (by decide +kernel) ?_)
          | (with_reducible refine xr_nil ?_) | (with_reducible refine k_norm ?_) | (with_reducible refine k_ret ?_) | (with_reducible refine k_exit ?_) | (with_reducible refine b_norm ?_) | (with_reducible refine b_ret ?_) | (with_reducible refine b_exit ?_) | (with_reducible refine b_past (by decide) ?_)
          | (refine xr_cl (f := ?_) (fs := ?_) (cs := ?_) (args := ?_) (K := ?_) ?_ ?_ ?_ ?_ ?_
             rotate_left 5
             · simp only [ev]; rfl
             · first | with_reducible exact Ty.ok39 | with_reducible exact Ty.ok78)
          | (refine xr_gcl (f := ?_) (fs := ?_) (cs := ?_) (args := ?_) (K := ?_) (by exact rfl) ?_ ?_ ?_ ?_ ?_ ?_
             rotate_left 5
             · simp only [ev, put_some, reduceIte, Nat.reduceEqDiff, Bool.not_true, Bool.not_false, *]
             · simp only [ev]; rfl
             · first | with_reducible exact Ty.ok39 | with_reducible exact Ty.ok78)
          | (refine xr_do (v := ?_) (h' := ?_) (by exact rfl) ?_ ?_; rotate_left 2)
          | (refine xr_st (v := ?_) (h' := ?_) (by exact rfl) ?_ ?_; rotate_left 2)
          | (refine xr_gdo (v := ?_) (h' := ?_) (by exact rfl) (by exact rfl) ?_ ?_ ?_
             rotate_left 2
             · simp only [ev, put_some, reduceIte, Nat.reduceEqDiff, Bool.not_true, Bool.not_false, *])
          | (refine xr_gst (v := ?_) (h' := ?_) (by exact rfl) (by exact rfl) ?_ ?_ ?_
             rotate_left 2
             · simp only [ev, put_some, reduceIte, Nat.reduceEqDiff, Bool.not_true, Bool.not_false, *])
          | (refine xr_goff (by exact rfl) ?_ ?_
             · simp only [ev, put_some, reduceIte, Nat.reduceEqDiff, Bool.not_true, Bool.not_false, *])
          | (refine xr_gsoff (by exact rfl) ?_ ?_
             · simp only [ev, put_some, reduceIte, Nat.reduceEqDiff, Bool.not_true, Bool.not_false, *])
          | (refine xr_gund (by exact rfl) ?_ ?_
             · simp only [ev, put_some, reduceIte, Nat.reduceEqDiff, Bool.not_true, Bool.not_false, *])
          | (refine xr_gsund (by exact rfl) ?_ ?_
             · simp only [ev, put_some, reduceIte, Nat.reduceEqDiff, Bool.not_true, Bool.not_false, *])
          | (refine xr_gif (b := ?_) (by exact rfl) ?_ (fun hb => ?_) (fun hb => ?_)
             rotate_left 1
             · simp only [ev, put_some, reduceIte, Nat.reduceEqDiff, Bool.not_true, Bool.not_false, *]; rfl)
          | (refine aw_ift (by decide) ?_ ?_
             · simp only [ev, put_some, reduceIte, Nat.reduceEqDiff, *])
          | (refine aw_iff (by decide) ?_ ?_
             · simp only [ev, put_some, reduceIte, Nat.reduceEqDiff, *])
          | (refine aw_if (b := ?_) (by decide) ?_ (fun hb => ?_) (fun hb => ?_)
             rotate_left 1
             · simp only [ev, put_some, reduceIte, Nat.reduceEqDiff, *]; rfl)
          | (refine r_ret (vs := ?_) ?_ ?_
             rotate_left 1
             · simp only [resV, ev, put_some, reduceIte, Nat.reduceEqDiff, Option.map_some, *]; rfl)
          | (with_reducible refine specGoodDesk_ok _ ?_ ?_ _ _ _ ?_ ?_ ?_ ?_
             rotate_left 2
             · first | assumption | exact Sl.old (by assumption) _ | ((try (simp only [deskV, deskL, mset_some, mset_none, set_at, set_at0, List.set_cons_succ, List.set_cons_zero, List.append_assoc, List.cons_append, List.nil_append, List.length_append, List.length_cons, List.length_nil, Nat.zero_add, Nat.add_zero, Nat.reduceAdd, Nat.add_assoc])); first | exact Sl.old (by assumption) _ | exact sl_nilints | exact sl_nilitems | (refine sl_ints (Nat.le_refl _) ?_; exact rfl) | (refine sl_items (Nat.le_refl _) ?_; exact rfl) | (refine sl_ints0 (Nat.le_refl _) ?_; exact rfl) | (refine sl_items0 (Nat.le_refl _) ?_; exact rfl))
             · first | assumption | exact Sl.old (by assumption) _ | ((try (simp only [deskV, deskL, mset_some, mset_none, set_at, set_at0, List.set_cons_succ, List.set_cons_zero, List.append_assoc, List.cons_append, List.nil_append, List.length_append, List.length_cons, List.length_nil, Nat.zero_add, Nat.add_zero, Nat.reduceAdd, Nat.add_assoc])); first | exact Sl.old (by assumption) _ | exact sl_nilints | exact sl_nilitems | (refine sl_ints (Nat.le_refl _) ?_; exact rfl) | (refine sl_items (Nat.le_refl _) ?_; exact rfl) | (refine sl_ints0 (Nat.le_refl _) ?_; exact rfl) | (refine sl_items0 (Nat.le_refl _) ?_; exact rfl))
             · first | omega | (simp only [List.length_nil]; omega)
             · first | omega | (simp only [List.length_nil]; omega)
             )
          | (with_reducible exact l1In_ok _ _ _ _)
          | rintro _ _ ⟨rfl, rfl⟩
          )
        all_goals refine ⟨by first | assumption | omega, ?_, ?_⟩
        all_goals first | (simp only [List.forall_mem_cons, List.not_mem_nil, false_implies, implies_true, and_true, and_self, stp, ev, put_some, put_none, argT_list, List.getD_cons_zero, List.getD_cons_succ, reduceIte, Nat.reduceEqDiff, Option.map_some, Array.map_empty, List.map_toArray, List.map_cons, List.map_nil, List.append_toArray, Array.append_empty, Array.empty_append, List.nil_append, List.append_nil, and_self, if_true, decide_true, decide_false, Int.toNat_natCast, Int.natCast_nonneg, List.length_map, binV_add, binV_sub, binV_and, binV_shr, binV_shl, binV_str_eql, binV_str_neq, binV_mul, binV_eql, binV_neq, binV_lss, binV_leq, binV_gtr, binV_geq, unV_not, Bool.not_true, Bool.not_false, Bool.cond_true, Bool.cond_false, *]; done) | skip
        all_goals refine ⟨_, rfl, by simp only [put_some, reduceIte, Nat.reduceEqDiff]; rw [wrap_id (by omega)]; rfl, ?_⟩
        all_goals simp only [put_some, reduceIte, Nat.reduceEqDiff]
        all_goals rcases Bool.eq_false_or_eq_true ((heldP who) items[k]) with q | q
        all_goals first | exact hT q | exact hF q | (exfalso; simp_all [heldP]; done) | (exfalso; simp_all [heldP]; omega)
      · have h1 : ¬ (k : Int) < items.length := by omega
        repeat' (first
          | ((with_reducible refine eq_go ?_); simp only [stp, ev, put_some, put_none, argT_list, List.getD_cons_zero, List.getD_cons_succ, reduceIte, Nat.reduceEqDiff, Option.map_some, Array.map_empty, List.map_toArray, List.map_cons, List.map_nil, List.append_toArray, Array.append_empty, Array.empty_append, List.nil_append, List.append_nil, and_self, if_true, decide_true, decide_false, Int.toNat_natCast, Int.natCast_nonneg, List.length_map, binV_add, binV_sub, binV_and, binV_shr, binV_shl, binV_str_eql, binV_str_neq, binV_mul, binV_eql, binV_neq, binV_lss, binV_leq, binV_gtr, binV_geq, unV_not, Bool.not_true, Bool.not_false, Bool.cond_true, Bool.cond_false, ldv, stv, vcs, fldA, idxA, blt, lenV, List.size_toArray, List.length_cons, List.length_nil, Nat.zero_add, Array.getD_eq_getD_getElem?, List.getElem?_toArray, List.getElem?_cons_zero, List.getElem?_cons_succ, Option.getD_some, Option.isSome_some, Nat.add_assoc, List.toList_toArray, eq_self, Option.bind_some, List.append_assoc, List.cons_append, List.length_append, List.length_cons, List.length_nil, Nat.zero_add, Nat.add_zero, Nat.reduceAdd, Nat.reduceMul, Nat.reduceLeDiff, mset_some, mset_none, set_at, set_at0, getC_at, getC_at0, getC_zero, getC_succ, loadCs_at, loadCs_at0, loadCs_zero, loadCs_succ, setCs_at, setCs_at0, setCs_zero, setCs_succ, splice, List.set_cons_succ, List.set_cons_zero, List.getElem?_cons_zero, List.getElem?_cons_succ, List.drop_zero, List.drop_succ_cons, List.take_succ_cons, List.take_zero, newB, vcs, flat_int, flat_bool, flat_string, flat_slice, flat_pointer, flat_func, flat_nilFunc, List.all_cons, List.all_nil, Bool.and_true, Bool.and_self, Ty.ld3, Ty.sz3, Ty.zc3, Ty.by3, Ty.ld24, Ty.sz24, Ty.sl24, Ty.zc24, Ty.by24, Ty.ld56, Ty.sz56, Ty.sl56, Ty.zc56, Ty.by56, Ty.ld58, Ty.sz58, Ty.zc58, Ty.by58, Ty.fl58_0, Ty.fl58_1, Ty.fl58_2, Ty.ld77, Ty.sz77, Ty.zc77, Ty.by77, Ty.fl77_0, Ty.fl77_1, Ty.fl77_2, Ty.fl77_3, Ty.fl77_4, Ty.fl77_5, *]; rfl)
          | (with_reducible refine aw_then ?_) | (with_reducible refine aw_skip ?_) | (with_reducible refine aw_ret ?_) | (with_reducible refine aw_exit ?_) | (with_reducible refine aw_block ?_) | (with_reducible refine xr_reg (by decide +kernel) ?_)
          | (with_reducible refine xr_nil ?_) | (with_reducible refine k_norm ?_) | (with_reducible refine k_ret ?_) | (with_reducible refine k_exit ?_) | (with_reducible refine b_norm ?_) | (with_reducible refine b_ret ?_) | (with_reducible refine b_exit ?_) | (with_reducible refine b_past (by decide) ?_)
          | (refine xr_cl (f := ?_) (fs := ?_) (cs := ?_) (args := ?_) (K := ?_) ?_ ?_ ?_ ?_ ?_
             rotate_left 5
             · simp only [ev]; rfl
             · first | with_reducible exact Ty.ok39 | with_reducible exact Ty.ok78)
          | (refine xr_gcl (f := ?_) (fs := ?_) (cs := ?_) (args := ?_) (K := ?_) (by exact rfl) ?_ ?_ ?_ ?_ ?_ ?_
             rotate_left 5
             · simp only [ev, put_some, reduceIte, Nat.reduceEqDiff, Bool.not_true, Bool.not_false, *]
             · simp only [ev]; rfl
             · first | with_reducible exact Ty.ok39 | with_reducible exact Ty.ok78)
          | (refine xr_do (v := ?_) (h' := ?_) (by exact rfl) ?_ ?_; rotate_left 2)
          | (refine xr_st (v := ?_) (h' := ?_) (by exact rfl) ?_ ?_; rotate_left 2)
          | (refine xr_gdo (v := ?_) (h' := ?_) (by exact rfl) (by exact rfl) ?_ ?_ ?_
             rotate_left 2
             · simp only [ev, put_some, reduceIte, Nat.reduceEqDiff, Bool.not_true, Bool.not_false, *])
          | (refine xr_gst (v := ?_) (h' := ?_) (by exact rfl) (by exact rfl) ?_ ?_ ?_
             rotate_left 2
             · simp only [ev, put_some, reduceIte, Nat.reduceEqDiff, Bool.not_true, Bool.not_false, *])
          | (refine xr_goff (by exact rfl) ?_ ?_
             · simp only [ev, put_some, reduceIte, Nat.reduceEqDiff, Bool.not_true, Bool.not_false, *])
          | (refine xr_gsoff (by exact rfl) ?_ ?_
             · simp only [ev, put_some, reduceIte, Nat.reduceEqDiff, Bool.not_true, Bool.not_false, *])
          | (refine xr_gund (by exact rfl) ?_ ?_
             · simp only [ev, put_some, reduceIte, Nat.reduceEqDiff, Bool.not_true, Bool.not_false, *])
          | (refine xr_gsund (by exact rfl) ?_ ?_
             · simp only [ev, put_some, reduceIte, Nat.reduceEqDiff, Bool.not_true, Bool.not_false, *])
          | (refine xr_gif (b := ?_) (by exact rfl) ?_ (fun hb => ?_) (fun hb => ?_)
             rotate_left 1
             · simp only [ev, put_some, reduceIte, Nat.reduceEqDiff, Bool.not_true, Bool.not_false, *]; rfl)
          | (refine aw_ift (by decide) ?_ ?_
             · simp only [ev, put_some, reduceIte, Nat.reduceEqDiff, *])
          | (refine aw_iff (by decide) ?_ ?_
             · simp only [ev, put_some, reduceIte, Nat.reduceEqDiff, *])
          | (refine aw_if (b := ?_) (by decide) ?_ (fun hb => ?_) (fun hb => ?_)
             rotate_left 1
             · simp only [ev, put_some, reduceIte, Nat.reduceEqDiff, *]; rfl)
          | (refine r_ret (vs := ?_) ?_ ?_
             rotate_left 1
             · simp only [resV, ev, put_some, reduceIte, Nat.reduceEqDiff, Option.map_some, *]; rfl)
          | (with_reducible refine specGoodDesk_ok _ ?_ ?_ _ _ _ ?_ ?_ ?_ ?_
             rotate_left 2
             · first | assumption | exact Sl.old (by assumption) _ | ((try (simp only [deskV, deskL, mset_some, mset_none, set_at, set_at0, List.set_cons_succ, List.set_cons_zero, List.append_assoc, List.cons_append, List.nil_append, List.length_append, List.length_cons, List.length_nil, Nat.zero_add, Nat.add_zero, Nat.reduceAdd, Nat.add_assoc])); first | exact Sl.old (by assumption) _ | exact sl_nilints | exact sl_nilitems | (refine sl_ints (Nat.le_refl _) ?_; exact rfl) | (refine sl_items (Nat.le_refl _) ?_; exact rfl) | (refine sl_ints0 (Nat.le_refl _) ?_; exact rfl) | (refine sl_items0 (Nat.le_refl _) ?_; exact rfl))
             · first | assumption | exact Sl.old (by assumption) _ | ((try (simp only [deskV, deskL, mset_some, mset_none, set_at, set_at0, List.set_cons_succ, List.set_cons_zero, List.append_assoc, List.cons_append, List.nil_append, List.length_append, List.length_cons, List.length_nil, Nat.zero_add, Nat.add_zero, Nat.reduceAdd, Nat.add_assoc])); first | exact Sl.old (by assumption) _ | exact sl_nilints | exact sl_nilitems | (refine sl_ints (Nat.le_refl _) ?_; exact rfl) | (refine sl_items (Nat.le_refl _) ?_; exact rfl) | (refine sl_ints0 (Nat.le_refl _) ?_; exact rfl) | (refine sl_items0 (Nat.le_refl _) ?_; exact rfl))
             · first | omega | (simp only [List.length_nil]; omega)
             · first | omega | (simp only [List.length_nil]; omega)
             )
          | (with_reducible exact l1In_ok _ _ _ _)
          | rintro _ _ ⟨rfl, rfl⟩
          )
        rw [List.take_of_length_le hkn] at hap
        exact list_canon (hap.cons _)
    · have hw1 : decide (0 ≤ who ∧ who ≤ (people.length : Int) - 1) = false := decide_eq_false hw
      have hok : personOk now people items who = false := by simp only [personOk, hk, hw1, Bool.and_false]
      clear hw
      simp only [withP, hok, Bool.false_eq_true, if_false]
      refine acalls_fn Try.func49 rfl Try.ntmps49 (by simp) (by dsimp only [Try.f49]) ?_
      repeat' (first
        | ((with_reducible refine eq_go ?_); simp only [stp, ev, put_some, put_none, argT_list, List.getD_cons_zero, List.getD_cons_succ, reduceIte, Nat.reduceEqDiff, Option.map_some, Array.map_empty, List.map_toArray, List.map_cons, List.map_nil, List.append_toArray, Array.append_empty, Array.empty_append, List.nil_append, List.append_nil, and_self, if_true, decide_true, decide_false, Int.toNat_natCast, Int.natCast_nonneg, List.length_map, binV_add, binV_sub, binV_and, binV_shr, binV_shl, binV_str_eql, binV_str_neq, binV_mul, binV_eql, binV_neq, binV_lss, binV_leq, binV_gtr, binV_geq, unV_not, Bool.not_true, Bool.not_false, Bool.cond_true, Bool.cond_false, ldv, stv, vcs, fldA, idxA, blt, lenV, List.size_toArray, List.length_cons, List.length_nil, Nat.zero_add, Array.getD_eq_getD_getElem?, List.getElem?_toArray, List.getElem?_cons_zero, List.getElem?_cons_succ, Option.getD_some, Option.isSome_some, Nat.add_assoc, List.toList_toArray, eq_self, Option.bind_some, List.append_assoc, List.cons_append, List.length_append, List.length_cons, List.length_nil, Nat.zero_add, Nat.add_zero, Nat.reduceAdd, Nat.reduceMul, Nat.reduceLeDiff, mset_some, mset_none, set_at, set_at0, getC_at, getC_at0, getC_zero, getC_succ, loadCs_at, loadCs_at0, loadCs_zero, loadCs_succ, setCs_at, setCs_at0, setCs_zero, setCs_succ, splice, List.set_cons_succ, List.set_cons_zero, List.getElem?_cons_zero, List.getElem?_cons_succ, List.drop_zero, List.drop_succ_cons, List.take_succ_cons, List.take_zero, newB, vcs, flat_int, flat_bool, flat_string, flat_slice, flat_pointer, flat_func, flat_nilFunc, List.all_cons, List.all_nil, Bool.and_true, Bool.and_self, Ty.ld3, Ty.sz3, Ty.zc3, Ty.by3, Ty.ld24, Ty.sz24, Ty.sl24, Ty.zc24, Ty.by24, Ty.ld56, Ty.sz56, Ty.sl56, Ty.zc56, Ty.by56, Ty.ld58, Ty.sz58, Ty.zc58, Ty.by58, Ty.fl58_0, Ty.fl58_1, Ty.fl58_2, Ty.ld77, Ty.sz77, Ty.zc77, Ty.by77, Ty.fl77_0, Ty.fl77_1, Ty.fl77_2, Ty.fl77_3, Ty.fl77_4, Ty.fl77_5, *]; rfl)
        | (with_reducible refine aw_then ?_) | (with_reducible refine aw_skip ?_) | (with_reducible refine aw_ret ?_) | (with_reducible refine aw_exit ?_) | (with_reducible refine aw_block ?_) | (with_reducible refine xr_reg (by decide +kernel) ?_)
        | (with_reducible refine xr_nil ?_) | (with_reducible refine k_norm ?_) | (with_reducible refine k_ret ?_) | (with_reducible refine k_exit ?_) | (with_reducible refine b_norm ?_) | (with_reducible refine b_ret ?_) | (with_reducible refine b_exit ?_) | (with_reducible refine b_past (by decide) ?_)
        | (refine xr_cl (f := ?_) (fs := ?_) (cs := ?_) (args := ?_) (K := ?_) ?_ ?_ ?_ ?_ ?_
           rotate_left 5
           · simp only [ev]; rfl
           · first | with_reducible exact Ty.ok39 | with_reducible exact Ty.ok78)
        | (refine xr_gcl (f := ?_) (fs := ?_) (cs := ?_) (args := ?_) (K := ?_) (by exact rfl) ?_ ?_ ?_ ?_ ?_ ?_
           rotate_left 5
           · simp only [ev, put_some, reduceIte, Nat.reduceEqDiff, Bool.not_true, Bool.not_false, *]
           · simp only [ev]; rfl
           · first | with_reducible exact Ty.ok39 | with_reducible exact Ty.ok78)
        | (refine xr_do (v := ?_) (h' := ?_) (by exact rfl) ?_ ?_; rotate_left 2)
        | (refine xr_st (v := ?_) (h' := ?_) (by exact rfl) ?_ ?_; rotate_left 2)
        | (refine xr_gdo (v := ?_) (h' := ?_) (by exact rfl) (by exact rfl) ?_ ?_ ?_
           rotate_left 2
           · simp only [ev, put_some, reduceIte, Nat.reduceEqDiff, Bool.not_true, Bool.not_false, *])
        | (refine xr_gst (v := ?_) (h' := ?_) (by exact rfl) (by exact rfl) ?_ ?_ ?_
           rotate_left 2
           · simp only [ev, put_some, reduceIte, Nat.reduceEqDiff, Bool.not_true, Bool.not_false, *])
        | (refine xr_goff (by exact rfl) ?_ ?_
           · simp only [ev, put_some, reduceIte, Nat.reduceEqDiff, Bool.not_true, Bool.not_false, *])
        | (refine xr_gsoff (by exact rfl) ?_ ?_
           · simp only [ev, put_some, reduceIte, Nat.reduceEqDiff, Bool.not_true, Bool.not_false, *])
        | (refine xr_gund (by exact rfl) ?_ ?_
           · simp only [ev, put_some, reduceIte, Nat.reduceEqDiff, Bool.not_true, Bool.not_false, *])
        | (refine xr_gsund (by exact rfl) ?_ ?_
           · simp only [ev, put_some, reduceIte, Nat.reduceEqDiff, Bool.not_true, Bool.not_false, *])
        | (refine xr_gif (b := ?_) (by exact rfl) ?_ (fun hb => ?_) (fun hb => ?_)
           rotate_left 1
           · simp only [ev, put_some, reduceIte, Nat.reduceEqDiff, Bool.not_true, Bool.not_false, *]; rfl)
        | (refine aw_ift (by decide) ?_ ?_
           · simp only [ev, put_some, reduceIte, Nat.reduceEqDiff, *])
        | (refine aw_iff (by decide) ?_ ?_
           · simp only [ev, put_some, reduceIte, Nat.reduceEqDiff, *])
        | (refine aw_if (b := ?_) (by decide) ?_ (fun hb => ?_) (fun hb => ?_)
           rotate_left 1
           · simp only [ev, put_some, reduceIte, Nat.reduceEqDiff, *]; rfl)
        | (refine r_ret (vs := ?_) ?_ ?_
           rotate_left 1
           · simp only [resV, ev, put_some, reduceIte, Nat.reduceEqDiff, Option.map_some, *]; rfl)
        | (with_reducible refine specGoodDesk_ok _ ?_ ?_ _ _ _ ?_ ?_ ?_ ?_
           rotate_left 2
           · first | assumption | exact Sl.old (by assumption) _ | ((try (simp only [deskV, deskL, mset_some, mset_none, set_at, set_at0, List.set_cons_succ, List.set_cons_zero, List.append_assoc, List.cons_append, List.nil_append, List.length_append, List.length_cons, List.length_nil, Nat.zero_add, Nat.add_zero, Nat.reduceAdd, Nat.add_assoc])); first | exact Sl.old (by assumption) _ | exact sl_nilints | exact sl_nilitems | (refine sl_ints (Nat.le_refl _) ?_; exact rfl) | (refine sl_items (Nat.le_refl _) ?_; exact rfl) | (refine sl_ints0 (Nat.le_refl _) ?_; exact rfl) | (refine sl_items0 (Nat.le_refl _) ?_; exact rfl))
           · first | assumption | exact Sl.old (by assumption) _ | ((try (simp only [deskV, deskL, mset_some, mset_none, set_at, set_at0, List.set_cons_succ, List.set_cons_zero, List.append_assoc, List.cons_append, List.nil_append, List.length_append, List.length_cons, List.length_nil, Nat.zero_add, Nat.add_zero, Nat.reduceAdd, Nat.add_assoc])); first | exact Sl.old (by assumption) _ | exact sl_nilints | exact sl_nilitems | (refine sl_ints (Nat.le_refl _) ?_; exact rfl) | (refine sl_items (Nat.le_refl _) ?_; exact rfl) | (refine sl_ints0 (Nat.le_refl _) ?_; exact rfl) | (refine sl_items0 (Nat.le_refl _) ?_; exact rfl))
           · first | omega | (simp only [List.length_nil]; omega)
           · first | omega | (simp only [List.length_nil]; omega)
           )
        | (with_reducible exact l1In_ok _ _ _ _)
        | rintro _ _ ⟨rfl, rfl⟩
        )
      exact list_canon (l := []) (App.nil _ _ _)
  · have hok : personOk now people items who = false := by simp only [personOk, hk, Bool.false_and]
    simp only [withP, hok, Bool.false_eq_true, if_false]
    refine acalls_fn Try.func49 rfl Try.ntmps49 (by simp) (by dsimp only [Try.f49]) ?_
    repeat' (first
      | ((with_reducible refine eq_go ?_); simp only [stp, ev, put_some, put_none, argT_list, List.getD_cons_zero, List.getD_cons_succ, reduceIte, Nat.reduceEqDiff, Option.map_some, Array.map_empty, List.map_toArray, List.map_cons, List.map_nil, List.append_toArray, Array.append_empty, Array.empty_append, List.nil_append, List.append_nil, and_self, if_true, decide_true, decide_false, Int.toNat_natCast, Int.natCast_nonneg, List.length_map, binV_add, binV_sub, binV_and, binV_shr, binV_shl, binV_str_eql, binV_str_neq, binV_mul, binV_eql, binV_neq, binV_lss, binV_leq, binV_gtr, binV_geq, unV_not, Bool.not_true, Bool.not_false, Bool.cond_true, Bool.cond_false, ldv, stv, vcs, fldA, idxA, blt, lenV, List.size_toArray, List.length_cons, List.length_nil, Nat.zero_add, Array.getD_eq_getD_getElem?, List.getElem?_toArray, List.getElem?_cons_zero, List.getElem?_cons_succ, Option.getD_some, Option.isSome_some, Nat.add_assoc, List.toList_toArray, eq_self, Option.bind_some, List.append_assoc, List.cons_append, List.length_append, List.length_cons, List.length_nil, Nat.zero_add, Nat.add_zero, Nat.reduceAdd, Nat.reduceMul, Nat.reduceLeDiff, mset_some, mset_none, set_at, set_at0, getC_at, getC_at0, getC_zero, getC_succ, loadCs_at, loadCs_at0, loadCs_zero, loadCs_succ, setCs_at, setCs_at0, setCs_zero, setCs_succ, splice, List.set_cons_succ, List.set_cons_zero, List.getElem?_cons_zero, List.getElem?_cons_succ, List.drop_zero, List.drop_succ_cons, List.take_succ_cons, List.take_zero, newB, vcs, flat_int, flat_bool, flat_string, flat_slice, flat_pointer, flat_func, flat_nilFunc, List.all_cons, List.all_nil, Bool.and_true, Bool.and_self, Ty.ld3, Ty.sz3, Ty.zc3, Ty.by3, Ty.ld24, Ty.sz24, Ty.sl24, Ty.zc24, Ty.by24, Ty.ld56, Ty.sz56, Ty.sl56, Ty.zc56, Ty.by56, Ty.ld58, Ty.sz58, Ty.zc58, Ty.by58, Ty.fl58_0, Ty.fl58_1, Ty.fl58_2, Ty.ld77, Ty.sz77, Ty.zc77, Ty.by77, Ty.fl77_0, Ty.fl77_1, Ty.fl77_2, Ty.fl77_3, Ty.fl77_4, Ty.fl77_5, *]; rfl)
      | (with_reducible refine aw_then ?_) | (with_reducible refine aw_skip ?_) | (with_reducible refine aw_ret ?_) | (with_reducible refine aw_exit ?_) | (with_reducible refine aw_block ?_) | (with_reducible refine xr_reg (by decide +kernel) ?_)
      | (with_reducible refine xr_nil ?_) | (with_reducible refine k_norm ?_) | (with_reducible refine k_ret ?_) | (with_reducible refine k_exit ?_) | (with_reducible refine b_norm ?_) | (with_reducible refine b_ret ?_) | (with_reducible refine b_exit ?_) | (with_reducible refine b_past (by decide) ?_)
      | (refine xr_cl (f := ?_) (fs := ?_) (cs := ?_) (args := ?_) (K := ?_) ?_ ?_ ?_ ?_ ?_
         rotate_left 5
         · simp only [ev]; rfl
         · first | with_reducible exact Ty.ok39 | with_reducible exact Ty.ok78)
      | (refine xr_gcl (f := ?_) (fs := ?_) (cs := ?_) (args := ?_) (K := ?_) (by exact rfl) ?_ ?_ ?_ ?_ ?_ ?_
         rotate_left 5
         · simp only [ev, put_some, reduceIte, Nat.reduceEqDiff, Bool.not_true, Bool.not_false, *]
         · simp only [ev]; rfl
         · first | with_reducible exact Ty.ok39 | with_reducible exact Ty.ok78)
      | (refine xr_do (v := ?_) (h' := ?_) (by exact rfl) ?_ ?_; rotate_left 2)
      | (refine xr_st (v := ?_) (h' := ?_) (by exact rfl) ?_ ?_; rotate_left 2)
      | (refine xr_gdo (v := ?_) (h' := ?_) (by exact rfl) (by exact rfl) ?_ ?_ ?_
         rotate_left 2
         · simp only [ev, put_some, reduceIte, Nat.reduceEqDiff, Bool.not_true, Bool.not_false, *])
      | (refine xr_gst (v := ?_) (h' := ?_) (by exact rfl) (by exact rfl) ?_ ?_ ?_
         rotate_left 2
         · simp only [ev, put_some, reduceIte, Nat.reduceEqDiff, Bool.not_true, Bool.not_false, *])
      | (refine xr_goff (by exact rfl) ?_ ?_
         · simp only [ev, put_some, reduceIte, Nat.reduceEqDiff, Bool.not_true, Bool.not_false, *])
      | (refine xr_gsoff (by exact rfl) ?_ ?_
         · simp only [ev, put_some, reduceIte, Nat.reduceEqDiff, Bool.not_true, Bool.not_false, *])
      | (refine xr_gund (by exact rfl) ?_ ?_
         · simp only [ev, put_some, reduceIte, Nat.reduceEqDiff, Bool.not_true, Bool.not_false, *])
      | (refine xr_gsund (by exact rfl) ?_ ?_
         · simp only [ev, put_some, reduceIte, Nat.reduceEqDiff, Bool.not_true, Bool.not_false, *])
      | (refine xr_gif (b := ?_) (by exact rfl) ?_ (fun hb => ?_) (fun hb => ?_)
         rotate_left 1
         · simp only [ev, put_some, reduceIte, Nat.reduceEqDiff, Bool.not_true, Bool.not_false, *]; rfl)
      | (refine aw_ift (by decide) ?_ ?_
         · simp only [ev, put_some, reduceIte, Nat.reduceEqDiff, *])
      | (refine aw_iff (by decide) ?_ ?_
         · simp only [ev, put_some, reduceIte, Nat.reduceEqDiff, *])
      | (refine aw_if (b := ?_) (by decide) ?_ (fun hb => ?_) (fun hb => ?_)
         rotate_left 1
         · simp only [ev, put_some, reduceIte, Nat.reduceEqDiff, *]; rfl)
      | (refine r_ret (vs := ?_) ?_ ?_
         rotate_left 1
         · simp only [resV, ev, put_some, reduceIte, Nat.reduceEqDiff, Option.map_some, *]; rfl)
      | (with_reducible refine specGoodDesk_ok _ ?_ ?_ _ _ _ ?_ ?_ ?_ ?_
         rotate_left 2
         · first | assumption | exact Sl.old (by assumption) _ | ((try (simp only [deskV, deskL, mset_some, mset_none, set_at, set_at0, List.set_cons_succ, List.set_cons_zero, List.append_assoc, List.cons_append, List.nil_append, List.length_append, List.length_cons, List.length_nil, Nat.zero_add, Nat.add_zero, Nat.reduceAdd, Nat.add_assoc])); first | exact Sl.old (by assumption) _ | exact sl_nilints | exact sl_nilitems | (refine sl_ints (Nat.le_refl _) ?_; exact rfl) | (refine sl_items (Nat.le_refl _) ?_; exact rfl) | (refine sl_ints0 (Nat.le_refl _) ?_; exact rfl) | (refine sl_items0 (Nat.le_refl _) ?_; exact rfl))
         · first | assumption | exact Sl.old (by assumption) _ | ((try (simp only [deskV, deskL, mset_some, mset_none, set_at, set_at0, List.set_cons_succ, List.set_cons_zero, List.append_assoc, List.cons_append, List.nil_append, List.length_append, List.length_cons, List.length_nil, Nat.zero_add, Nat.add_zero, Nat.reduceAdd, Nat.add_assoc])); first | exact Sl.old (by assumption) _ | exact sl_nilints | exact sl_nilitems | (refine sl_ints (Nat.le_refl _) ?_; exact rfl) | (refine sl_items (Nat.le_refl _) ?_; exact rfl) | (refine sl_ints0 (Nat.le_refl _) ?_; exact rfl) | (refine sl_items0 (Nat.le_refl _) ?_; exact rfl))
         · first | omega | (simp only [List.length_nil]; omega)
         · first | omega | (simp only [List.length_nil]; omega)
         )
      | (with_reducible exact l1In_ok _ _ _ _)
      | rintro _ _ ⟨rfl, rfl⟩
      )
    exact list_canon (l := []) (App.nil _ _ _)

theorem specOffersFor_ok (now who : Int) (people : List Int) (items : List Item) (vp vi : Value) (h : Heap) (hp : Sl h vp 1 (people.map fun n => [.int .i64 n])) (hi : Sl h vi 6 (items.map Item.cells))
    (hl : people.length ≤ 1048576) (hl2 : items.length ≤ 1048576) :
    ACalls Try.prog 0 52 #[.agg #[.int .i64 now, vp, vi], .int .i64 who] h
    fun v h' => v = .tuple #[listV h.length (withP now people items who (offerP people who)), .bool (personOk now people items who)] ∧ h' = h ++ listL (withP now people items who (offerP people who)) := by
  refine acalls_canon _ _ ?_
  have hf := hp.flat
  have hf2 := hi.flat
  have hwr : IntKind.i64.wrap ((people.length : Int) - 1) = (people.length : Int) - 1 := wrap_id (by omega)
  have hp' := hp
  obtain ⟨pb, pc, rfl, hpc, hprow⟩ := id hp
  obtain ⟨b2, c2, rfl, hc2, hrow⟩ := id hi
  simp only [List.length_map] at hf hf2 hc2 hi hp hp' hpc ⊢
  rcases Bool.eq_false_or_eq_true (deskOk now people items) with hk | hk
  · have h6 := deskOk_people hk
    by_cases hw : 0 ≤ who ∧ who ≤ (people.length : Int) - 1
    · have hw1 : decide (0 ≤ who ∧ who ≤ (people.length : Int) - 1) = true := decide_eq_true hw
      have hok : personOk now people items who = true := by simp only [personOk, hk, hw1, Bool.and_true]
      clear hw
      simp only [withP, hok, if_true]
      refine acalls_fn Try.func52 rfl Try.ntmps52 (by simp) (by dsimp only [Try.f52]) ?_
      repeat' (first
        | ((with_reducible refine eq_go ?_); simp only [stp, ev, put_some, put_none, argT_list, List.getD_cons_zero, List.getD_cons_succ, reduceIte, Nat.reduceEqDiff, Option.map_some, Array.map_empty, List.map_toArray, List.map_cons, List.map_nil, List.append_toArray, Array.append_empty, Array.empty_append, List.nil_append, List.append_nil, and_self, if_true, decide_true, decide_false, Int.toNat_natCast, Int.natCast_nonneg, List.length_map, binV_add, binV_sub, binV_and, binV_shr, binV_shl, binV_str_eql, binV_str_neq, binV_mul, binV_eql, binV_neq, binV_lss, binV_leq, binV_gtr, binV_geq, unV_not, Bool.not_true, Bool.not_false, Bool.cond_true, Bool.cond_false, ldv, stv, vcs, fldA, idxA, blt, lenV, List.size_toArray, List.length_cons, List.length_nil, Nat.zero_add, Array.getD_eq_getD_getElem?, List.getElem?_toArray, List.getElem?_cons_zero, List.getElem?_cons_succ, Option.getD_some, Option.isSome_some, Nat.add_assoc, List.toList_toArray, eq_self, Option.bind_some, List.append_assoc, List.cons_append, List.length_append, List.length_cons, List.length_nil, Nat.zero_add, Nat.add_zero, Nat.reduceAdd, Nat.reduceMul, Nat.reduceLeDiff, mset_some, mset_none, set_at, set_at0, getC_at, getC_at0, getC_zero, getC_succ, loadCs_at, loadCs_at0, loadCs_zero, loadCs_succ, setCs_at, setCs_at0, setCs_zero, setCs_succ, splice, List.set_cons_succ, List.set_cons_zero, List.getElem?_cons_zero, List.getElem?_cons_succ, List.drop_zero, List.drop_succ_cons, List.take_succ_cons, List.take_zero, newB, vcs, flat_int, flat_bool, flat_string, flat_slice, flat_pointer, flat_func, flat_nilFunc, List.all_cons, List.all_nil, Bool.and_true, Bool.and_self, Ty.ld3, Ty.sz3, Ty.zc3, Ty.by3, Ty.ld24, Ty.sz24, Ty.sl24, Ty.zc24, Ty.by24, Ty.ld56, Ty.sz56, Ty.sl56, Ty.zc56, Ty.by56, Ty.ld58, Ty.sz58, Ty.zc58, Ty.by58, Ty.fl58_0, Ty.fl58_1, Ty.fl58_2, Ty.ld77, Ty.sz77, Ty.zc77, Ty.by77, Ty.fl77_0, Ty.fl77_1, Ty.fl77_2, Ty.fl77_3, Ty.fl77_4, Ty.fl77_5, *]; rfl)
        | (with_reducible refine aw_then ?_) | (with_reducible refine aw_skip ?_) | (with_reducible refine aw_ret ?_) | (with_reducible refine aw_exit ?_) | (with_reducible refine aw_block ?_) | (with_reducible refine xr_reg (by decide +kernel) ?_)
        | (with_reducible refine xr_nil ?_) | (with_reducible refine k_norm ?_) | (with_reducible refine k_ret ?_) | (with_reducible refine k_exit ?_) | (with_reducible refine b_norm ?_) | (with_reducible refine b_ret ?_) | (with_reducible refine b_exit ?_) | (with_reducible refine b_past (by decide) ?_)
        | (refine xr_cl (f := ?_) (fs := ?_) (cs := ?_) (args := ?_) (K := ?_) ?_ ?_ ?_ ?_ ?_
           rotate_left 5
           · simp only [ev]; rfl
           · first | with_reducible exact Ty.ok39 | with_reducible exact Ty.ok78 | with_reducible exact Ty.ok90)
        | (refine xr_gcl (f := ?_) (fs := ?_) (cs := ?_) (args := ?_) (K := ?_) (by exact rfl) ?_ ?_ ?_ ?_ ?_ ?_
           rotate_left 5
           · simp only [ev, put_some, reduceIte, Nat.reduceEqDiff, Bool.not_true, Bool.not_false, *]
           · simp only [ev]; rfl
           · first | with_reducible exact Ty.ok39 | with_reducible exact Ty.ok78 | with_reducible exact Ty.ok90)
        | (refine xr_do (v := ?_) (h' := ?_) (by exact rfl) ?_ ?_; rotate_left 2)
        | (refine xr_st (v := ?_) (h' := ?_) (by exact rfl) ?_ ?_; rotate_left 2)
        | (refine xr_gdo (v := ?_) (h' := ?_) (by exact rfl) (by exact rfl) ?_ ?_ ?_
           rotate_left 2
           · simp only [ev, put_some, reduceIte, Nat.reduceEqDiff, Bool.not_true, Bool.not_false, *])
        | (refine xr_gst (v := ?_) (h' := ?_) (by exact rfl) (by exact rfl) ?_ ?_ ?_
           rotate_left 2
           · simp only [ev, put_some, reduceIte, Nat.reduceEqDiff, Bool.not_true, Bool.not_false, *])
        | (refine xr_goff (by exact rfl) ?_ ?_
           · simp only [ev, put_some, reduceIte, Nat.reduceEqDiff, Bool.not_true, Bool.not_false, *])
        | (refine xr_gsoff (by exact rfl) ?_ ?_
           · simp only [ev, put_some, reduceIte, Nat.reduceEqDiff, Bool.not_true, Bool.not_false, *])
        | (refine xr_gund (by exact rfl) ?_ ?_
           · simp only [ev, put_some, reduceIte, Nat.reduceEqDiff, Bool.not_true, Bool.not_false, *])
        | (refine xr_gsund (by exact rfl) ?_ ?_
           · simp only [ev, put_some, reduceIte, Nat.reduceEqDiff, Bool.not_true, Bool.not_false, *])
        | (refine xr_gif (b := ?_) (by exact rfl) ?_ (fun hb => ?_) (fun hb => ?_)
           rotate_left 1
           · simp only [ev, put_some, reduceIte, Nat.reduceEqDiff, Bool.not_true, Bool.not_false, *]; rfl)
        | (refine aw_ift (by decide) ?_ ?_
           · simp only [ev, put_some, reduceIte, Nat.reduceEqDiff, *])
        | (refine aw_iff (by decide) ?_ ?_
           · simp only [ev, put_some, reduceIte, Nat.reduceEqDiff, *])
        | (refine aw_if (b := ?_) (by decide) ?_ (fun hb => ?_) (fun hb => ?_)
           rotate_left 1
           · simp only [ev, put_some, reduceIte, Nat.reduceEqDiff, *]; rfl)
        | (refine r_ret (vs := ?_) ?_ ?_
           rotate_left 1
           · simp only [resV, ev, put_some, reduceIte, Nat.reduceEqDiff, Option.map_some, *]; rfl)
        | (with_reducible refine specGoodDesk_ok _ ?_ ?_ _ _ _ ?_ ?_ ?_ ?_
           rotate_left 2
           · first | assumption | exact Sl.old (by assumption) _ | ((try (simp only [deskV, deskL, mset_some, mset_none, set_at, set_at0, List.set_cons_succ, List.set_cons_zero, List.append_assoc, List.cons_append, List.nil_append, List.length_append, List.length_cons, List.length_nil, Nat.zero_add, Nat.add_zero, Nat.reduceAdd, Nat.add_assoc])); first | exact Sl.old (by assumption) _ | exact sl_nilints | exact sl_nilitems | (refine sl_ints (Nat.le_refl _) ?_; exact rfl) | (refine sl_items (Nat.le_refl _) ?_; exact rfl) | (refine sl_ints0 (Nat.le_refl _) ?_; exact rfl) | (refine sl_items0 (Nat.le_refl _) ?_; exact rfl))
           · first | assumption | exact Sl.old (by assumption) _ | ((try (simp only [deskV, deskL, mset_some, mset_none, set_at, set_at0, List.set_cons_succ, List.set_cons_zero, List.append_assoc, List.cons_append, List.nil_append, List.length_append, List.length_cons, List.length_nil, Nat.zero_add, Nat.add_zero, Nat.reduceAdd, Nat.add_assoc])); first | exact Sl.old (by assumption) _ | exact sl_nilints | exact sl_nilitems | (refine sl_ints (Nat.le_refl _) ?_; exact rfl) | (refine sl_items (Nat.le_refl _) ?_; exact rfl) | (refine sl_ints0 (Nat.le_refl _) ?_; exact rfl) | (refine sl_items0 (Nat.le_refl _) ?_; exact rfl))
           · first | omega | (simp only [List.length_nil]; omega)
           · first | omega | (simp only [List.length_nil]; omega)
           )
        | (with_reducible exact l1In_ok _ _ _ _)
        | (with_reducible refine l16Has_ok _ _ ?_ _ _ ?_ ?_ ?_
           rotate_left 1
           · first | assumption | exact Sl.old (by assumption) _ | ((try (simp only [deskV, deskL, mset_some, mset_none, set_at, set_at0, List.set_cons_succ, List.set_cons_zero, List.append_assoc, List.cons_append, List.nil_append, List.length_append, List.length_cons, List.length_nil, Nat.zero_add, Nat.add_zero, Nat.reduceAdd, Nat.add_assoc])); first | exact Sl.old (by assumption) _ | exact sl_nilints | exact sl_nilitems | (refine sl_ints (Nat.le_refl _) ?_; exact rfl) | (refine sl_items (Nat.le_refl _) ?_; exact rfl) | (refine sl_ints0 (Nat.le_refl _) ?_; exact rfl) | (refine sl_items0 (Nat.le_refl _) ?_; exact rfl))
           · exact of_decide_eq_true hw1
           · exact hr0
           )
        | rintro _ _ ⟨rfl, rfl⟩
        )
      refine aw_for [1, 2, 22, 23] (fun k T h' => ∃ L, h' = h ++ (⟨2, 1, [.int .i64 now, .slice pb people.length pc, .slice b2 items.length c2]⟩ :: L) ∧ T 24 = .int .i64 k ∧
        App (h.length + 1) L (T 6) 1 (ints (idxs (offerP people who) (items.take k))).flatten (idxs (offerP people who) (items.take k)).length) items.length (k0 := 0) (Nat.zero_le _) ⟨[], rfl, rfl, App.nil _ _ _⟩ ?_
      rintro k T h' hk hR ⟨L, rfl, h11, hap⟩
      simp only [List.forall_mem_cons, List.not_mem_nil, false_implies, implies_true, and_true, stp, ev, put_some, put_none, argT_list, List.getD_cons_zero, List.getD_cons_succ, reduceIte, Nat.reduceEqDiff, Option.map_some, Array.map_empty, List.map_toArray, List.map_cons, List.map_nil, List.append_toArray, Array.append_empty, Array.empty_append, List.nil_append, List.append_nil, and_self, if_true, decide_true, decide_false, Int.toNat_natCast, Int.natCast_nonneg, List.length_map, binV_add, binV_sub, binV_and, binV_shr, binV_shl, binV_str_eql, binV_str_neq, binV_mul, binV_eql, binV_neq, binV_lss, binV_leq, binV_gtr, binV_geq, unV_not, Bool.not_true, Bool.not_false, Bool.cond_true, Bool.cond_false] at hR
      rcases Nat.lt_or_ge k items.length with hkn | hkn
      · have h1 : (k : Int) < items.length := by omega
        obtain ⟨a, rfl, hld0⟩ := Sl.row hrow (k := k) (by simpa using hkn)
        rw [List.getElem_map] at hld0
        have hld := loadCs_old hld0
        have hbs := bsl_one (h := h ++ ⟨2, 1, [.int .i64 now, .slice pb people.length pc, .slice (some a) items.length c2]⟩ :: (L ++ [⟨2, 1, items[k].cells⟩])) (x := .int .i64 k) Ty.sl24 Ty.zc3 rfl rfl
        have hil := idxs_len (offerP people who) (items.take k)
        rw [List.length_take] at hil
        obtain ⟨v', L', hap', happ⟩ := app_step (h2 := h ++ [⟨2, 1, [.int .i64 now, .slice pb people.length pc, .slice (some a) items.length c2]⟩]) (L := L) (E := [⟨2, 1, items[k].cells⟩, ⟨2, 1, [.int .i64 k]⟩]) (j := 1) (ix := h.length + (L.length + 2))
          Ty.sl24 Ty.zc3 Ty.by3 (by simpa using hap) rfl rfl (by simp; omega) (by omega) (by omega)
        simp only [List.append_assoc, List.cons_append, List.nil_append, List.length_append, List.length_cons, List.length_nil, Nat.zero_add, Nat.add_assoc, Nat.reduceAdd] at hbs hap' happ
        have hsn := idxs_snoc (offerP people who) hkn
        have hT : (offerP people who) items[k] = true → App (h.length + 1) L' v' 1 (ints (idxs (offerP people who) (items.take (k + 1)))).flatten (idxs (offerP people who) (items.take (k + 1))).length := fun q => by
          rw [hsn, q, if_pos rfl]; exact happ.cast rfl rfl rfl (by simp) (by simp)
        have hF : (offerP people who) items[k] = false → App (h.length + 1) (L ++ [⟨2, 1, items[k].cells⟩]) (T 6) 1 (ints (idxs (offerP people who) (items.take (k + 1)))).flatten (idxs (offerP people who) (items.take (k + 1))).length := fun q => by
          rw [hsn, q, if_neg (by simp), List.append_nil]; exact hap.more _
        clear hsn happ hap
        have hr0 := personOk_role2 hok (List.getElem_mem hkn)
        repeat' (first
          | ((with_reducible refine eq_go ?_); simp only [stp, ev, put_some, put_none, argT_list, List.getD_cons_zero, List.getD_cons_succ, reduceIte, Nat.reduceEqDiff, Option.map_some, Array.map_empty, List.map_toArray, List.map_cons, List.map_nil, List.append_toArray, Array.append_empty, Array.empty_append, List.nil_append, List.append_nil, and_self, if_true, decide_true, decide_false, Int.toNat_natCast, Int.natCast_nonneg, List.length_map, binV_add, binV_sub, binV_and, binV_shr, binV_shl, binV_str_eql, binV_str_neq, binV_mul, binV_eql, binV_neq, binV_lss, binV_leq, binV_gtr, binV_geq, unV_not, Bool.not_true, Bool.not_false, Bool.cond_true, Bool.cond_false, ldv, stv, vcs, fldA, idxA, blt, lenV, List.size_toArray, List.length_cons, List.length_nil, Nat.zero_add, Array.getD_eq_getD_getElem?, List.getElem?_toArray, List.getElem?_cons_zero, List.getElem?_cons_succ, Option.getD_some, Option.isSome_some, Nat.add_assoc, List.toList_toArray, eq_self, Option.bind_some, List.append_assoc, List.cons_append, List.length_append, List.length_cons, List.length_nil, Nat.zero_add, Nat.add_zero, Nat.reduceAdd, Nat.reduceMul, Nat.reduceLeDiff, mset_some, mset_none, set_at, set_at0, getC_at, getC_at0, getC_zero, getC_succ, loadCs_at, loadCs_at0, loadCs_zero, loadCs_succ, setCs_at, setCs_at0, setCs_zero, setCs_succ, splice, List.set_cons_succ, List.set_cons_zero, List.getElem?_cons_zero, List.getElem?_cons_succ, List.drop_zero, List.drop_succ_cons, List.take_succ_cons, List.take_zero, newB, vcs, flat_int, flat_bool, flat_string, flat_slice, flat_pointer, flat_func, flat_nilFunc, List.all_cons, List.all_nil, Bool.and_true, Bool.and_self, Ty.ld3, Ty.sz3, Ty.zc3, Ty.by3, Ty.ld24, Ty.sz24, Ty.sl24, Ty.zc24, Ty.by24, Ty.ld56, Ty.sz56, Ty.sl56, Ty.zc56, Ty.by56, Ty.ld58, Ty.sz58, Ty.zc58, Ty.by58, Ty.fl58_0, Ty.fl58_1, Ty.fl58_2, Ty.ld77, Ty.sz77, Ty.zc77, Ty.by77, Ty.fl77_0, Ty.fl77_1, Ty.fl77_2, Ty.fl77_3, Ty.fl77_4, Ty.fl77_5, Item.cells_length, Item.cells_flat, Item.cells_take, Item.cells_splice, Item.get2, Item.get3, Item.get4, *]; rfl)
          | (with_reducible refine aw_then ?_) | (with_reducible refine aw_skip ?_) | (with_reducible refine aw_ret ?_) | (with_reducible refine aw_exit ?_) | (with_reducible refine aw_block ?_) | (with_reducible refine xr_reg (by decide +kernel) ?_)
          | (with_reducible refine xr_nil ?_) | (with_reducible refine k_norm ?_) | (with_reducible refine k_ret ?_) | (with_reducible refine k_exit ?_) | (with_reducible refine b_norm ?_) | (with_reducible refine b_ret ?_) | (with_reducible refine b_exit ?_) | (with_reducible refine b_past (by decide) ?_)
          | (refine xr_cl (f := ?_) (fs := ?_) (cs := ?_) (args := ?_) (K := ?_) ?_ ?_ ?_ ?_ ?_
             rotate_left 5
             · simp only [ev]; rfl
             · first | with_reducible exact Ty.ok39 | with_reducible exact Ty.ok78 | with_reducible exact Ty.ok90)
          | (refine xr_gcl (f := ?_) (fs := ?_) (cs := ?_) (args := ?_) (K := ?_) (by exact rfl) ?_ ?_ ?_ ?_ ?_ ?_
             rotate_left 5
             · simp only [ev, put_some, reduceIte, Nat.reduceEqDiff, Bool.not_true, Bool.not_false, *]
             · simp only [ev]; rfl
             · first | with_reducible exact Ty.ok39 | with_reducible exact Ty.ok78 | with_reducible exact Ty.ok90)
          | (refine xr_do (v := ?_) (h' := ?_) (by exact rfl) ?_ ?_; rotate_left 2)
          | (refine xr_st (v := ?_) (h' := ?_) (by exact rfl) ?_ ?_; rotate_left 2)
          | (refine xr_gdo (v := ?_) (h' := ?_) (by exact rfl) (by exact rfl) ?_ ?_ ?_
             rotate_left 2
             · simp only [ev, put_some, reduceIte, Nat.reduceEqDiff, Bool.not_true, Bool.not_false, *])
          | (refine xr_gst (v := ?_) (h' := ?_) (by exact rfl) (by exact rfl) ?_ ?_ ?_
             rotate_left 2
             · simp only [ev, put_some, reduceIte, Nat.reduceEqDiff, Bool.not_true, Bool.not_false, *])
          | (refine xr_goff (by exact rfl) ?_ ?_
             · simp only [ev, put_some, reduceIte, Nat.reduceEqDiff, Bool.not_true, Bool.not_false, *])
          | (refine xr_gsoff (by exact rfl) ?_ ?_
             · simp only [ev, put_some, reduceIte, Nat.reduceEqDiff, Bool.not_true, Bool.not_false, *])
          | (refine xr_gund (by exact rfl) ?_ ?_
             · simp only [ev, put_some, reduceIte, Nat.reduceEqDiff, Bool.not_true, Bool.not_false, *])
          | (refine xr_gsund (by exact rfl) ?_ ?_
             · simp only [ev, put_some, reduceIte, Nat.reduceEqDiff, Bool.not_true, Bool.not_false, *])
          | (refine xr_gif (b := ?_) (by exact rfl) ?_ (fun hb => ?_) (fun hb => ?_)
             rotate_left 1
             · simp only [ev, put_some, reduceIte, Nat.reduceEqDiff, Bool.not_true, Bool.not_false, *]; rfl)
          | (refine aw_ift (by decide) ?_ ?_
             · simp only [ev, put_some, reduceIte, Nat.reduceEqDiff, *])
          | (refine aw_iff (by decide) ?_ ?_
             · simp only [ev, put_some, reduceIte, Nat.reduceEqDiff, *])
          | (refine aw_if (b := ?_) (by decide) ?_ (fun hb => ?_) (fun hb => ?_)
             rotate_left 1
             · simp only [ev, put_some, reduceIte, Nat.reduceEqDiff, *]; rfl)
          | (refine r_ret (vs := ?_) ?_ ?_
             rotate_left 1
             · simp only [resV, ev, put_some, reduceIte, Nat.reduceEqDiff, Option.map_some, *]; rfl)
          | (with_reducible refine specGoodDesk_ok _ ?_ ?_ _ _ _ ?_ ?_ ?_ ?_
             rotate_left 2
             · first | assumption | exact Sl.old (by assumption) _ | ((try (simp only [deskV, deskL, mset_some, mset_none, set_at, set_at0, List.set_cons_succ, List.set_cons_zero, List.append_assoc, List.cons_append, List.nil_append, List.length_append, List.length_cons, List.length_nil, Nat.zero_add, Nat.add_zero, Nat.reduceAdd, Nat.add_assoc])); first | exact Sl.old (by assumption) _ | exact sl_nilints | exact sl_nilitems | (refine sl_ints (Nat.le_refl _) ?_; exact rfl) | (refine sl_items (Nat.le_refl _) ?_; exact rfl) | (refine sl_ints0 (Nat.le_refl _) ?_; exact rfl) | (refine sl_items0 (Nat.le_refl _) ?_; exact rfl))
             · first | assumption | exact Sl.old (by assumption) _ | ((try (simp only [deskV, deskL, mset_some, mset_none, set_at, set_at0, List.set_cons_succ, List.set_cons_zero, List.append_assoc, List.cons_append, List.nil_append, List.length_append, List.length_cons, List.length_nil, Nat.zero_add, Nat.add_zero, Nat.reduceAdd, Nat.add_assoc])); first | exact Sl.old (by assumption) _ | exact sl_nilints | exact sl_nilitems | (refine sl_ints (Nat.le_refl _) ?_; exact rfl) | (refine sl_items (Nat.le_refl _) ?_; exact rfl) | (refine sl_ints0 (Nat.le_refl _) ?_; exact rfl) | (refine sl_items0 (Nat.le_refl _) ?_; exact rfl))
             · first | omega | (simp only [List.length_nil]; omega)
             · first | omega | (simp only [List.length_nil]; omega)
             )
          | (with_reducible exact l1In_ok _ _ _ _)
          | (with_reducible refine l16Has_ok _ _ ?_ _ _ ?_ ?_ ?_
             rotate_left 1
             · first | assumption | exact Sl.old (by assumption) _ | ((try (simp only [deskV, deskL, mset_some, mset_none, set_at, set_at0, List.set_cons_succ, List.set_cons_zero, List.append_assoc, List.cons_append, List.nil_append, List.length_append, List.length_cons, List.length_nil, Nat.zero_add, Nat.add_zero, Nat.reduceAdd, Nat.add_assoc])); first | exact Sl.old (by assumption) _ | exact sl_nilints | exact sl_nilitems | (refine sl_ints (Nat.le_refl _) ?_; exact rfl) | (refine sl_items (Nat.le_refl _) ?_; exact rfl) | (refine sl_ints0 (Nat.le_refl _) ?_; exact rfl) | (refine sl_items0 (Nat.le_refl _) ?_; exact rfl))
             · exact of_decide_eq_true hw1
             · exact hr0
             )
          | rintro _ _ ⟨rfl, rfl⟩
          )
        all_goals refine ⟨by first | assumption | omega, ?_, ?_⟩
        all_goals first | (simp only [List.forall_mem_cons, List.not_mem_nil, false_implies, implies_true, and_true, and_self, stp, ev, put_some, put_none, argT_list, List.getD_cons_zero, List.getD_cons_succ, reduceIte, Nat.reduceEqDiff, Option.map_some, Array.map_empty, List.map_toArray, List.map_cons, List.map_nil, List.append_toArray, Array.append_empty, Array.empty_append, List.nil_append, List.append_nil, and_self, if_true, decide_true, decide_false, Int.toNat_natCast, Int.natCast_nonneg, List.length_map, binV_add, binV_sub, binV_and, binV_shr, binV_shl, binV_str_eql, binV_str_neq, binV_mul, binV_eql, binV_neq, binV_lss, binV_leq, binV_gtr, binV_geq, unV_not, Bool.not_true, Bool.not_false, Bool.cond_true, Bool.cond_false, *]; done) | skip
        all_goals refine ⟨_, rfl, by simp only [put_some, reduceIte, Nat.reduceEqDiff]; rw [wrap_id (by omega)]; rfl, ?_⟩
        all_goals simp only [put_some, reduceIte, Nat.reduceEqDiff]
        all_goals rcases Bool.eq_false_or_eq_true ((offerP people who) items[k]) with q | q
        all_goals first | exact hT q | exact hF q | (exfalso; simp_all [offerP]; done) | (exfalso; simp_all [offerP]; omega)
      · have h1 : ¬ (k : Int) < items.length := by omega
        repeat' (first
          | ((with_reducible refine eq_go ?_); simp only [stp, ev, put_some, put_none, argT_list, List.getD_cons_zero, List.getD_cons_succ, reduceIte, Nat.reduceEqDiff, Option.map_some, Array.map_empty, List.map_toArray, List.map_cons, List.map_nil, List.append_toArray, Array.append_empty, Array.empty_append, List.nil_append, List.append_nil, and_self, if_true, decide_true, decide_false, Int.toNat_natCast, Int.natCast_nonneg, List.length_map, binV_add, binV_sub, binV_and, binV_shr, binV_shl, binV_str_eql, binV_str_neq, binV_mul, binV_eql, binV_neq, binV_lss, binV_leq, binV_gtr, binV_geq, unV_not, Bool.not_true, Bool.not_false, Bool.cond_true, Bool.cond_false, ldv, stv, vcs, fldA, idxA, blt, lenV, List.size_toArray, List.length_cons, List.length_nil, Nat.zero_add, Array.getD_eq_getD_getElem?, List.getElem?_toArray, List.getElem?_cons_zero, List.getElem?_cons_succ, Option.getD_some, Option.isSome_some, Nat.add_assoc, List.toList_toArray, eq_self, Option.bind_some, List.append_assoc, List.cons_append, List.length_append, List.length_cons, List.length_nil, Nat.zero_add, Nat.add_zero, Nat.reduceAdd, Nat.reduceMul, Nat.reduceLeDiff, mset_some, mset_none, set_at, set_at0, getC_at, getC_at0, getC_zero, getC_succ, loadCs_at, loadCs_at0, loadCs_zero, loadCs_succ, setCs_at, setCs_at0, setCs_zero, setCs_succ, splice, List.set_cons_succ, List.set_cons_zero, List.getElem?_cons_zero, List.getElem?_cons_succ, List.drop_zero, List.drop_succ_cons, List.take_succ_cons, List.take_zero, newB, vcs, flat_int, flat_bool, flat_string, flat_slice, flat_pointer, flat_func, flat_nilFunc, List.all_cons, List.all_nil, Bool.and_true, Bool.and_self, Ty.ld3, Ty.sz3, Ty.zc3, Ty.by3, Ty.ld24, Ty.sz24, Ty.sl24, Ty.zc24, Ty.by24, Ty.ld56, Ty.sz56, Ty.sl56, Ty.zc56, Ty.by56, Ty.ld58, Ty.sz58, Ty.zc58, Ty.by58, Ty.fl58_0, Ty.fl58_1, Ty.fl58_2, Ty.ld77, Ty.sz77, Ty.zc77, Ty.by77, Ty.fl77_0, Ty.fl77_1, Ty.fl77_2, Ty.fl77_3, Ty.fl77_4, Ty.fl77_5, *]; rfl)
          | (with_reducible refine aw_then ?_) | (with_reducible refine aw_skip ?_) | (with_reducible refine aw_ret ?_) | (with_reducible refine aw_exit ?_) | (with_reducible refine aw_block ?_) | (with_reducible refine xr_reg (by decide +kernel) ?_)
          | (with_reducible refine xr_nil ?_) | (with_reducible refine k_norm ?_) | (with_reducible refine k_ret ?_) | (with_reducible refine k_exit ?_) | (with_reducible refine b_norm ?_) | (with_reducible refine b_ret ?_) | (with_reducible refine b_exit ?_) | (with_reducible refine b_past (by decide) ?_)
          | (refine xr_cl (f := ?_) (fs := ?_) (cs := ?_) (args := ?_) (K := ?_) ?_ ?_ ?_ ?_ ?_
             rotate_left 5
             · simp only [ev]; rfl
             · first | with_reducible exact Ty.ok39 | with_reducible exact Ty.ok78 | with_reducible exact Ty.ok90)
          | (refine xr_gcl (f := ?_) (fs := ?_) (cs := ?_) (args := ?_) (K := ?_) (by exact rfl) ?_ ?_ ?_ ?_ ?_ ?_
             rotate_left 5
             · simp only [ev, put_some, reduceIte, Nat.reduceEqDiff, Bool.not_true, Bool.not_false, *]
             · simp only [ev]; rfl
             · first | with_reducible exact Ty.ok39 | with_reducible exact Ty.ok78 | with_reducible exact Ty.ok90)
          | (refine xr_do (v := ?_) (h' := ?_) (by exact rfl) ?_ ?_; rotate_left 2)
          | (refine xr_st (v := ?_) (h' := ?_) (by exact rfl) ?_ ?_; rotate_left 2)
          | (refine xr_gdo (v := ?_) (h' := ?_) (by exact rfl) (by exact rfl) ?_ ?_ ?_
             rotate_left 2
             · simp only [ev, put_some, reduceIte, Nat.reduceEqDiff, Bool.not_true, Bool.not_false, *])
          | (refine xr_gst (v := ?_) (h' := ?_) (by exact rfl) (by exact rfl) ?_ ?_ ?_
             rotate_left 2
             · simp only [ev, put_some, reduceIte, Nat.reduceEqDiff, Bool.not_true, Bool.not_false, *])
          | (refine xr_goff (by exact rfl) ?_ ?_
             · simp only [ev, put_some, reduceIte, Nat.reduceEqDiff, Bool.not_true, Bool.not_false, *])
          | (refine xr_gsoff (by exact rfl) ?_ ?_
             · simp only [ev, put_some, reduceIte, Nat.reduceEqDiff, Bool.not_true, Bool.not_false, *])
          | (refine xr_gund (by exact rfl) ?_ ?_
             · simp only [ev, put_some, reduceIte, Nat.reduceEqDiff, Bool.not_true, Bool.not_false, *])
          | (refine xr_gsund (by exact rfl) ?_ ?_
             · simp only [ev, put_some, reduceIte, Nat.reduceEqDiff, Bool.not_true, Bool.not_false, *])
          | (refine xr_gif (b := ?_) (by exact rfl) ?_ (fun hb => ?_) (fun hb => ?_)
             rotate_left 1
             · simp only [ev, put_some, reduceIte, Nat.reduceEqDiff, Bool.not_true, Bool.not_false, *]; rfl)
          | (refine aw_ift (by decide) ?_ ?_
             · simp only [ev, put_some, reduceIte, Nat.reduceEqDiff, *])
          | (refine aw_iff (by decide) ?_ ?_
             · simp only [ev, put_some, reduceIte, Nat.reduceEqDiff, *])
          | (refine aw_if (b := ?_) (by decide) ?_ (fun hb => ?_) (fun hb => ?_)
             rotate_left 1
             · simp only [ev, put_some, reduceIte, Nat.reduceEqDiff, *]; rfl)
          | (refine r_ret (vs := ?_) ?_ ?_
             rotate_left 1
             · simp only [resV, ev, put_some, reduceIte, Nat.reduceEqDiff, Option.map_some, *]; rfl)
          | (with_reducible refine specGoodDesk_ok _ ?_ ?_ _ _ _ ?_ ?_ ?_ ?_
             rotate_left 2
             · first | assumption | exact Sl.old (by assumption) _ | ((try (simp only [deskV, deskL, mset_some, mset_none, set_at, set_at0, List.set_cons_succ, List.set_cons_zero, List.append_assoc, List.cons_append, List.nil_append, List.length_append, List.length_cons, List.length_nil, Nat.zero_add, Nat.add_zero, Nat.reduceAdd, Nat.add_assoc])); first | exact Sl.old (by assumption) _ | exact sl_nilints | exact sl_nilitems | (refine sl_ints (Nat.le_refl _) ?_; exact rfl) | (refine sl_items (Nat.le_refl _) ?_; exact rfl) | (refine sl_ints0 (Nat.le_refl _) ?_; exact rfl) | (refine sl_items0 (Nat.le_refl _) ?_; exact rfl))
             · first | assumption | exact Sl.old (by assumption) _ | ((try (simp only [deskV, deskL, mset_some, mset_none, set_at, set_at0, List.set_cons_succ, List.set_cons_zero, List.append_assoc, List.cons_append, List.nil_append, List.length_append, List.length_cons, List.length_nil, Nat.zero_add, Nat.add_zero, Nat.reduceAdd, Nat.add_assoc])); first | exact Sl.old (by assumption) _ | exact sl_nilints | exact sl_nilitems | (refine sl_ints (Nat.le_refl _) ?_; exact rfl) | (refine sl_items (Nat.le_refl _) ?_; exact rfl) | (refine sl_ints0 (Nat.le_refl _) ?_; exact rfl) | (refine sl_items0 (Nat.le_refl _) ?_; exact rfl))
             · first | omega | (simp only [List.length_nil]; omega)
             · first | omega | (simp only [List.length_nil]; omega)
             )
          | (with_reducible exact l1In_ok _ _ _ _)
          | (with_reducible refine l16Has_ok _ _ ?_ _ _ ?_ ?_ ?_
             rotate_left 1
             · first | assumption | exact Sl.old (by assumption) _ | ((try (simp only [deskV, deskL, mset_some, mset_none, set_at, set_at0, List.set_cons_succ, List.set_cons_zero, List.append_assoc, List.cons_append, List.nil_append, List.length_append, List.length_cons, List.length_nil, Nat.zero_add, Nat.add_zero, Nat.reduceAdd, Nat.add_assoc])); first | exact Sl.old (by assumption) _ | exact sl_nilints | exact sl_nilitems | (refine sl_ints (Nat.le_refl _) ?_; exact rfl) | (refine sl_items (Nat.le_refl _) ?_; exact rfl) | (refine sl_ints0 (Nat.le_refl _) ?_; exact rfl) | (refine sl_items0 (Nat.le_refl _) ?_; exact rfl))
             · exact of_decide_eq_true hw1
             · exact hr0
             )
          | rintro _ _ ⟨rfl, rfl⟩
          )
        rw [List.take_of_length_le hkn] at hap
        exact list_canon (hap.cons _)
    · have hw1 : decide (0 ≤ who ∧ who ≤ (people.length : Int) - 1) = false := decide_eq_false hw
      have hok : personOk now people items who = false := by simp only [personOk, hk, hw1, Bool.and_false]
      clear hw
      simp only [withP, hok, Bool.false_eq_true, if_false]
      refine acalls_fn Try.func52 rfl Try.ntmps52 (by simp) (by dsimp only [Try.f52]) ?_
      repeat' (first
        | ((with_reducible refine eq_go ?_); simp only [stp, ev, put_some, put_none, argT_list, List.getD_cons_zero, List.getD_cons_succ, reduceIte, Nat.reduceEqDiff, Option.map_some, Array.map_empty, List.map_toArray, List.map_cons, List.map_nil, List.append_toArray, Array.append_empty, Array.empty_append, List.nil_append, List.append_nil, and_self, if_true, decide_true, decide_false, Int.toNat_natCast, Int.natCast_nonneg, List.length_map, binV_add, binV_sub, binV_and, binV_shr, binV_shl, binV_str_eql, binV_str_neq, binV_mul, binV_eql, binV_neq, binV_lss, binV_leq, binV_gtr, binV_geq, unV_not, Bool.not_true, Bool.not_false, Bool.cond_true, Bool.cond_false, ldv, stv, vcs, fldA, idxA, blt, lenV, List.size_toArray, List.length_cons, List.length_nil, Nat.zero_add, Array.getD_eq_getD_getElem?, List.getElem?_toArray, List.getElem?_cons_zero, List.getElem?_cons_succ, Option.getD_some, Option.isSome_some, Nat.add_assoc, List.toList_toArray, eq_self, Option.bind_some, List.append_assoc, List.cons_append, List.length_append, List.length_cons, List.length_nil, Nat.zero_add, Nat.add_zero, Nat.reduceAdd, Nat.reduceMul, Nat.reduceLeDiff, mset_some, mset_none, set_at, set_at0, getC_at, getC_at0, getC_zero, getC_succ, loadCs_at, loadCs_at0, loadCs_zero, loadCs_succ, setCs_at, setCs_at0, setCs_zero, setCs_succ, splice, List.set_cons_succ, List.set_cons_zero, List.getElem?_cons_zero, List.getElem?_cons_succ, List.drop_zero, List.drop_succ_cons, List.take_succ_cons, List.take_zero, newB, vcs, flat_int, flat_bool, flat_string, flat_slice, flat_pointer, flat_func, flat_nilFunc, List.all_cons, List.all_nil, Bool.and_true, Bool.and_self, Ty.ld3, Ty.sz3, Ty.zc3, Ty.by3, Ty.ld24, Ty.sz24, Ty.sl24, Ty.zc24, Ty.by24, Ty.ld56, Ty.sz56, Ty.sl56, Ty.zc56, Ty.by56, Ty.ld58, Ty.sz58, Ty.zc58, Ty.by58, Ty.fl58_0, Ty.fl58_1, Ty.fl58_2, Ty.ld77, Ty.sz77, Ty.zc77, Ty.by77, Ty.fl77_0, Ty.fl77_1, Ty.fl77_2, Ty.fl77_3, Ty.fl77_4, Ty.fl77_5, *]; rfl)
        | (with_reducible refine aw_then ?_) | (with_reducible refine aw_skip ?_) | (with_reducible refine aw_ret ?_) | (with_reducible refine aw_exit ?_) | (with_reducible refine aw_block ?_) | (with_reducible refine xr_reg (by decide +kernel) ?_)
        | (with_reducible refine xr_nil ?_) | (with_reducible refine k_norm ?_) | (with_reducible refine k_ret ?_) | (with_reducible refine k_exit ?_) | (with_reducible refine b_norm ?_) | (with_reducible refine b_ret ?_) | (with_reducible refine b_exit ?_) | (with_reducible refine b_past (by decide) ?_)
        | (refine xr_cl (f := ?_) (fs := ?_) (cs := ?_) (args := ?_) (K := ?_) ?_ ?_ ?_ ?_ ?_
           rotate_left 5
           · simp only [ev]; rfl
           · first | with_reducible exact Ty.ok39 | with_reducible exact Ty.ok78 | with_reducible exact Ty.ok90)
        | (refine xr_gcl (f := ?_) (fs := ?_) (cs := ?_) (args := ?_) (K := ?_) (by exact rfl) ?_ ?_ ?_ ?_ ?_ ?_
           rotate_left 5
           · simp only [ev, put_some, reduceIte, Nat.reduceEqDiff, Bool.not_true, Bool.not_false, *]
           · simp only [ev]; rfl
           · first | with_reducible exact Ty.ok39 | with_reducible exact Ty.ok78 | with_reducible exact Ty.ok90)
        | (refine xr_do (v := ?_) (h' := ?_) (by exact rfl) ?_ ?_; rotate_left 2)
        | (refine xr_st (v := ?_) (h' := ?_) (by exact rfl) ?_ ?_; rotate_left 2)
        | (refine xr_gdo (v := ?_) (h' := ?_) (by exact rfl) (by exact rfl) ?_ ?_ ?_
           rotate_left 2
           · simp only [ev, put_some, reduceIte, Nat.reduceEqDiff, Bool.not_true, Bool.not_false, *])
        | (refine xr_gst (v := ?_) (h' := ?_) (by exact rfl) (by exact rfl) ?_ ?_ ?_
           rotate_left 2
           · simp only [ev, put_some, reduceIte, Nat.reduceEqDiff, Bool.not_true, Bool.not_false, *])
        | (refine xr_goff (by exact rfl) ?_ ?_
           · simp only [ev, put_some, reduceIte, Nat.reduceEqDiff, Bool.not_true, Bool.not_false, *])
        | (refine xr_gsoff (by exact rfl) ?_ ?_
           · simp only [ev, put_some, reduceIte, Nat.reduceEqDiff, Bool.not_true, Bool.not_false, *])
        | (refine xr_gund (by exact rfl) ?_ ?_
           · simp only [ev, put_some, reduceIte, Nat.reduceEqDiff, Bool.not_true, Bool.not_false, *])
        | (refine xr_gsund (by exact rfl) ?_ ?_
           · simp only [ev, put_some, reduceIte, Nat.reduceEqDiff, Bool.not_true, Bool.not_false, *])
        | (refine xr_gif (b := ?_) (by exact rfl) ?_ (fun hb => ?_) (fun hb => ?_)
           rotate_left 1
           · simp only [ev, put_some, reduceIte, Nat.reduceEqDiff, Bool.not_true, Bool.not_false, *]; rfl)
        | (refine aw_ift (by decide) ?_ ?_
           · simp only [ev, put_some, reduceIte, Nat.reduceEqDiff, *])
        | (refine aw_iff (by decide) ?_ ?_
           · simp only [ev, put_some, reduceIte, Nat.reduceEqDiff, *])
        | (refine aw_if (b := ?_) (by decide) ?_ (fun hb => ?_) (fun hb => ?_)
           rotate_left 1
           · simp only [ev, put_some, reduceIte, Nat.reduceEqDiff, *]; rfl)
        | (refine r_ret (vs := ?_) ?_ ?_
           rotate_left 1
           · simp only [resV, ev, put_some, reduceIte, Nat.reduceEqDiff, Option.map_some, *]; rfl)
        | (with_reducible refine specGoodDesk_ok _ ?_ ?_ _ _ _ ?_ ?_ ?_ ?_
           rotate_left 2
           · first | assumption | exact Sl.old (by assumption) _ | ((try (simp only [deskV, deskL, mset_some, mset_none, set_at, set_at0, List.set_cons_succ, List.set_cons_zero, List.append_assoc, List.cons_append, List.nil_append, List.length_append, List.length_cons, List.length_nil, Nat.zero_add, Nat.add_zero, Nat.reduceAdd, Nat.add_assoc])); first | exact Sl.old (by assumption) _ | exact sl_nilints | exact sl_nilitems | (refine sl_ints (Nat.le_refl _) ?_; exact rfl) | (refine sl_items (Nat.le_refl _) ?_; exact rfl) | (refine sl_ints0 (Nat.le_refl _) ?_; exact rfl) | (refine sl_items0 (Nat.le_refl _) ?_; exact rfl))
           · first | assumption | exact Sl.old (by assumption) _ | ((try (simp only [deskV, deskL, mset_some, mset_none, set_at, set_at0, List.set_cons_succ, List.set_cons_zero, List.append_assoc, List.cons_append, List.nil_append, List.length_append, List.length_cons, List.length_nil, Nat.zero_add, Nat.add_zero, Nat.reduceAdd, Nat.add_assoc])); first | exact Sl.old (by assumption) _ | exact sl_nilints | exact sl_nilitems | (refine sl_ints (Nat.le_refl _) ?_; exact rfl) | (refine sl_items (Nat.le_refl _) ?_; exact rfl) | (refine sl_ints0 (Nat.le_refl _) ?_; exact rfl) | (refine sl_items0 (Nat.le_refl _) ?_; exact rfl))
           · first | omega | (simp only [List.length_nil]; omega)
           · first | omega | (simp only [List.length_nil]; omega)
           )
        | (with_reducible exact l1In_ok _ _ _ _)
        | (with_reducible refine l16Has_ok _ _ ?_ _ _ ?_ ?_ ?_
           rotate_left 1
           · first | assumption | exact Sl.old (by assumption) _ | ((try (simp only [deskV, deskL, mset_some, mset_none, set_at, set_at0, List.set_cons_succ, List.set_cons_zero, List.append_assoc, List.cons_append, List.nil_append, List.length_append, List.length_cons, List.length_nil, Nat.zero_add, Nat.add_zero, Nat.reduceAdd, Nat.add_assoc])); first | exact Sl.old (by assumption) _ | exact sl_nilints | exact sl_nilitems | (refine sl_ints (Nat.le_refl _) ?_; exact rfl) | (refine sl_items (Nat.le_refl _) ?_; exact rfl) | (refine sl_ints0 (Nat.le_refl _) ?_; exact rfl) | (refine sl_items0 (Nat.le_refl _) ?_; exact rfl))
           · exact of_decide_eq_true hw1
           · exact hr0
           )
        | rintro _ _ ⟨rfl, rfl⟩
        )
      exact list_canon (l := []) (App.nil _ _ _)
  · have hok : personOk now people items who = false := by simp only [personOk, hk, Bool.false_and]
    simp only [withP, hok, Bool.false_eq_true, if_false]
    refine acalls_fn Try.func52 rfl Try.ntmps52 (by simp) (by dsimp only [Try.f52]) ?_
    repeat' (first
      | ((with_reducible refine eq_go ?_); simp only [stp, ev, put_some, put_none, argT_list, List.getD_cons_zero, List.getD_cons_succ, reduceIte, Nat.reduceEqDiff, Option.map_some, Array.map_empty, List.map_toArray, List.map_cons, List.map_nil, List.append_toArray, Array.append_empty, Array.empty_append, List.nil_append, List.append_nil, and_self, if_true, decide_true, decide_false, Int.toNat_natCast, Int.natCast_nonneg, List.length_map, binV_add, binV_sub, binV_and, binV_shr, binV_shl, binV_str_eql, binV_str_neq, binV_mul, binV_eql, binV_neq, binV_lss, binV_leq, binV_gtr, binV_geq, unV_not, Bool.not_true, Bool.not_false, Bool.cond_true, Bool.cond_false, ldv, stv, vcs, fldA, idxA, blt, lenV, List.size_toArray, List.length_cons, List.length_nil, Nat.zero_add, Array.getD_eq_getD_getElem?, List.getElem?_toArray, List.getElem?_cons_zero, List.getElem?_cons_succ, Option.getD_some, Option.isSome_some, Nat.add_assoc, List.toList_toArray, eq_self, Option.bind_some, List.append_assoc, List.cons_append, List.length_append, List.length_cons, List.length_nil, Nat.zero_add, Nat.add_zero, Nat.reduceAdd, Nat.reduceMul, Nat.reduceLeDiff, mset_some, mset_none, set_at, set_at0, getC_at, getC_at0, getC_zero, getC_succ, loadCs_at, loadCs_at0, loadCs_zero, loadCs_succ, setCs_at, setCs_at0, setCs_zero, setCs_succ, splice, List.set_cons_succ, List.set_cons_zero, List.getElem?_cons_zero, List.getElem?_cons_succ, List.drop_zero, List.drop_succ_cons, List.take_succ_cons, List.take_zero, newB, vcs, flat_int, flat_bool, flat_string, flat_slice, flat_pointer, flat_func, flat_nilFunc, List.all_cons, List.all_nil, Bool.and_true, Bool.and_self, Ty.ld3, Ty.sz3, Ty.zc3, Ty.by3, Ty.ld24, Ty.sz24, Ty.sl24, Ty.zc24, Ty.by24, Ty.ld56, Ty.sz56, Ty.sl56, Ty.zc56, Ty.by56, Ty.ld58, Ty.sz58, Ty.zc58, Ty.by58, Ty.fl58_0, Ty.fl58_1, Ty.fl58_2, Ty.ld77, Ty.sz77, Ty.zc77, Ty.by77, Ty.fl77_0, Ty.fl77_1, Ty.fl77_2, Ty.fl77_3, Ty.fl77_4, Ty.fl77_5, *]; rfl)
      | (with_reducible refine aw_then ?_) | (with_reducible refine aw_skip ?_) | (with_reducible refine aw_ret ?_) | (with_reducible refine aw_exit ?_) | (with_reducible refine aw_block ?_) | (with_reducible refine xr_reg (by decide +kernel) ?_)
      | (with_reducible refine xr_nil ?_) | (with_reducible refine k_norm ?_) | (with_reducible refine k_ret ?_) | (with_reducible refine k_exit ?_) | (with_reducible refine b_norm ?_) | (with_reducible refine b_ret ?_) | (with_reducible refine b_exit ?_) | (with_reducible refine b_past (by decide) ?_)
      | (refine xr_cl (f := ?_) (fs := ?_) (cs := ?_) (args := ?_) (K := ?_) ?_ ?_ ?_ ?_ ?_
         rotate_left 5
         · simp only [ev]; rfl
         · first | with_reducible exact Ty.ok39 | with_reducible exact Ty.ok78 | with_reducible exact Ty.ok90)
      | (refine xr_gcl (f := ?_) (fs := ?_) (cs := ?_) (args := ?_) (K := ?_) (by exact rfl) ?_ ?_ ?_ ?_ ?_ ?_
         rotate_left 5
         · simp only [ev, put_some, reduceIte, Nat.reduceEqDiff, Bool.not_true, Bool.not_false, *]
         · simp only [ev]; rfl
         · first | with_reducible exact Ty.ok39 | with_reducible exact Ty.ok78 | with_reducible exact Ty.ok90)
      | (refine xr_do (v := ?_) (h' := ?_) (by exact rfl) ?_ ?_; rotate_left 2)
      | (refine xr_st (v := ?_) (h' := ?_) (by exact rfl) ?_ ?_; rotate_left 2)
      | (refine xr_gdo (v := ?_) (h' := ?_) (by exact rfl) (by exact rfl) ?_ ?_ ?_
         rotate_left 2
         · simp only [ev, put_some, reduceIte, Nat.reduceEqDiff, Bool.not_true, Bool.not_false, *])
      | (refine xr_gst (v := ?_) (h' := ?_) (by exact rfl) (by exact rfl) ?_ ?_ ?_
         rotate_left 2
         · simp only [ev, put_some, reduceIte, Nat.reduceEqDiff, Bool.not_true, Bool.not_false, *])
      | (refine xr_goff (by exact rfl) ?_ ?_
         · simp only [ev, put_some, reduceIte, Nat.reduceEqDiff, Bool.not_true, Bool.not_false, *])
      | (refine xr_gsoff (by exact rfl) ?_ ?_
         · simp only [ev, put_some, reduceIte, Nat.reduceEqDiff, Bool.not_true, Bool.not_false, *])
      | (refine xr_gund (by exact rfl) ?_ ?_
         · simp only [ev, put_some, reduceIte, Nat.reduceEqDiff, Bool.not_true, Bool.not_false, *])
      | (refine xr_gsund (by exact rfl) ?_ ?_
         · simp only [ev, put_some, reduceIte, Nat.reduceEqDiff, Bool.not_true, Bool.not_false, *])
      | (refine xr_gif (b := ?_) (by exact rfl) ?_ (fun hb => ?_) (fun hb => ?_)
         rotate_left 1
         · simp only [ev, put_some, reduceIte, Nat.reduceEqDiff, Bool.not_true, Bool.not_false, *]; rfl)
      | (refine aw_ift (by decide) ?_ ?_
         · simp only [ev, put_some, reduceIte, Nat.reduceEqDiff, *])
      | (refine aw_iff (by decide) ?_ ?_
         · simp only [ev, put_some, reduceIte, Nat.reduceEqDiff, *])
      | (refine aw_if (b := ?_) (by decide) ?_ (fun hb => ?_) (fun hb => ?_)
         rotate_left 1
         · simp only [ev, put_some, reduceIte, Nat.reduceEqDiff, *]; rfl)
      | (refine r_ret (vs := ?_) ?_ ?_
         rotate_left 1
         · simp only [resV, ev, put_some, reduceIte, Nat.reduceEqDiff, Option.map_some, *]; rfl)
      | (with_reducible refine specGoodDesk_ok _ ?_ ?_ _ _ _ ?_ ?_ ?_ ?_
         rotate_left 2
         · first | assumption | exact Sl.old (by assumption) _ | ((try (simp only [deskV, deskL, mset_some, mset_none, set_at, set_at0, List.set_cons_succ, List.set_cons_zero, List.append_assoc, List.cons_append, List.nil_append, List.length_append, List.length_cons, List.length_nil, Nat.zero_add, Nat.add_zero, Nat.reduceAdd, Nat.add_assoc])); first | exact Sl.old (by assumption) _ | exact sl_nilints | exact sl_nilitems | (refine sl_ints (Nat.le_refl _) ?_; exact rfl) | (refine sl_items (Nat.le_refl _) ?_; exact rfl) | (refine sl_ints0 (Nat.le_refl _) ?_; exact rfl) | (refine sl_items0 (Nat.le_refl _) ?_; exact rfl))
         · first | assumption | exact Sl.old (by assumption) _ | ((try (simp only [deskV, deskL, mset_some, mset_none, set_at, set_at0, List.set_cons_succ, List.set_cons_zero, List.append_assoc, List.cons_append, List.nil_append, List.length_append, List.length_cons, List.length_nil, Nat.zero_add, Nat.add_zero, Nat.reduceAdd, Nat.add_assoc])); first | exact Sl.old (by assumption) _ | exact sl_nilints | exact sl_nilitems | (refine sl_ints (Nat.le_refl _) ?_; exact rfl) | (refine sl_items (Nat.le_refl _) ?_; exact rfl) | (refine sl_ints0 (Nat.le_refl _) ?_; exact rfl) | (refine sl_items0 (Nat.le_refl _) ?_; exact rfl))
         · first | omega | (simp only [List.length_nil]; omega)
         · first | omega | (simp only [List.length_nil]; omega)
         )
      | (with_reducible exact l1In_ok _ _ _ _)
      | (with_reducible refine l16Has_ok _ _ ?_ _ _ ?_ ?_ ?_
         rotate_left 1
         · first | assumption | exact Sl.old (by assumption) _ | ((try (simp only [deskV, deskL, mset_some, mset_none, set_at, set_at0, List.set_cons_succ, List.set_cons_zero, List.append_assoc, List.cons_append, List.nil_append, List.length_append, List.length_cons, List.length_nil, Nat.zero_add, Nat.add_zero, Nat.reduceAdd, Nat.add_assoc])); first | exact Sl.old (by assumption) _ | exact sl_nilints | exact sl_nilitems | (refine sl_ints (Nat.le_refl _) ?_; exact rfl) | (refine sl_items (Nat.le_refl _) ?_; exact rfl) | (refine sl_ints0 (Nat.le_refl _) ?_; exact rfl) | (refine sl_items0 (Nat.le_refl _) ?_; exact rfl))
         · exact of_decide_eq_true hw1
         · exact hr0
         )
      | rintro _ _ ⟨rfl, rfl⟩
      )
    exact list_canon (l := []) (App.nil _ _ _)

end Go.Proofs.Ytodpfcgjlcecmaa.Am

