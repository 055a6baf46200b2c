/- Walks of what a person holds, and of what may be offered to a person. Conditions: none. -/
import Derived.Test.YtodpfcgjlcecmaaW14
import Derived.Test.YtodpfcgjlcecmaaW10
import Derived.Test.YtodpfcgjlcecmaaAmX
namespace Go.Proofs.Ytodpfcgjlcecmaa.Am
open Go Go.Proofs
set_option linter.unusedVariables false
set_option linter.unusedSimpArgs false
set_option maxRecDepth 100000
set_option maxHeartbeats 8000000

/-- The places of the elements that p takes. -/
def idxs (p : Item → Bool) (l : List Item) : List Int := (l.zipIdx.filter (fun q => p q.1)).map fun q => (q.2 : Int)

theorem idxs_snoc (p : Item → Bool) {l : List Item} {k : Nat} (hk : k < l.length) : idxs p (l.take (k + 1)) = idxs p (l.take k) ++ (if p l[k] then [(k : Int)] else []) := by
  rw [← List.take_append_getElem hk]
  simp only [idxs, List.zipIdx_append, List.filter_append, List.map_append, List.length_take, Nat.min_eq_left (Nat.le_of_lt hk), Nat.zero_add]
  congr 1
  simp only [List.zipIdx_cons, List.zipIdx_nil, List.filter_cons, List.filter_nil]
  split <;> simp
theorem idxs_len (p : Item → Bool) (l : List Item) : (idxs p l).length ≤ l.length := by
  simp only [idxs, List.length_map]
  exact Nat.le_trans (List.length_filter_le _ _) (by simp)

def listV (n : Nat) (l : List Int) : Value := if l = [] then .slice none 0 0 else .slice (some ⟨n, 0, some 0⟩) l.length l.length
def listL (l : List Int) : Heap := if l = [] then [] else [⟨2, 1, (ints l).flatten⟩]

def personOk (now : Int) (people : List Int) (items : List Item) (who : Int) : Bool := deskOk now people items && decide (0 ≤ who ∧ who ≤ (people.length : Int) - 1)
def withP (now : Int) (people : List Int) (items : List Item) (who : Int) (p : Item → Bool) : List Int := if personOk now people items who then idxs p items else []

theorem list_canon {h L : Heap} {v : Value} {l : List Int} {b : Bool} (ha : App h.length L v 1 (ints l).flatten l.length) :
    ∃ (L' : Heap) (ks : List Nat), h ++ L = h ++ L' ∧ Inj ks ∧ ks.length = (listL l).length ∧ BsOk (listL l) L' ks ∧ RV h.length L' ks (.tuple #[listV h.length l, .bool b]) (.tuple #[v, .bool b]) := by
  rcases ha with ⟨rfl, h1, h2⟩ | ⟨h1, h2, k, rfl, h4⟩
  · obtain rfl := List.length_eq_zero_iff.1 h1
    exact ⟨L, [], rfl, Inj.nil, rfl, BsOk.nil _ _, RVl.tuple (l := [_, _]) (l' := [_, _]) ⟨.plain _ rfl, .plain _ rfl, trivial⟩⟩
  · have hne : l ≠ [] := fun q => h1 (by rw [q]; rfl)
    simp only [listL, listV, if_neg hne]
    exact ⟨L, [k], rfl, Inj.one k, rfl, BsOk.cons rfl (ints_af l) h4 (BsOk.nil _ _), RVl.tuple (l := [_, _]) (l' := [_, _]) ⟨.sl 0 k _ _ 1 _ _ rfl h4 h2 (Nat.le_refl _) (.inr rfl), .plain _ rfl, trivial⟩⟩

theorem itemsWith_ok (now who : Int) (people : List Int) (items : List Item) (vp vi : Value) (h : Heap) (p : Item → Bool) (g : FuncId) (fs cs : Array Value)
    (hp : Sl h vp 1 (people.map fun n => [.int .i64 n])) (hi : Sl h vi 6 (items.map Item.cells)) (hl : people.length ≤ 1048576) (hl2 : items.length ≤ 1048576) (hg : callOk Try.prog g = true)
    (hpk : personOk now people items who = true → ∀ L, ∀ x ∈ items, ACalls Try.prog 0 g (fs ++ #[.agg x.cells.toArray] ++ cs) (h ++ L) fun v h' => v = .bool (p x) ∧ h' = h ++ L) :
    ACalls Try.prog 0 98 #[.agg #[.int .i64 now, vp, vi], .int .i64 who, .func (.func g) fs cs] h
    fun v h' => v = .tuple #[listV h.length (withP now people items who p), .bool (personOk now people items who)] ∧ h' = h ++ listL (withP now people items who p) := by
  refine acalls_canon _ _ ?_
  have hf := hp.flat
  have hf2 := hi.flat
  obtain ⟨b2, c2, rfl, hc2, hrow⟩ := id hi
  simp only [List.length_map] at hf2 hc2 hi ⊢
  rcases Bool.eq_false_or_eq_true (deskOk now people items) with hk | hk
  · have h6 := deskOk_people hk
    by_cases hw : 0 ≤ who ∧ who ≤ (people.length : Int) - 1
    · have hw1 : decide (0 ≤ who ∧ who ≤ (people.length : Int) - 1) = true := decide_eq_true hw
      have hok : personOk now people items who = true := by simp only [personOk, hk, hw1, Bool.and_true]
      have hpk := hpk hok
      clear hw
      simp only [withP, hok, if_true]
      refine acalls_fn Try.func98 rfl Try.ntmps98 (by simp) (by dsimp only [Try.f98]) ?_
      repeat' (first
        | ((with_reducible refine eq_go ?_); simp only [stp, ev, put_some, put_none, argT_list, List.getD_cons_zero, List.getD_cons_succ, reduceIte, Nat.reduceEqDiff, Option.map_some, Array.map_empty, List.map_toArray, List.map_cons, List.map_nil, List.append_toArray, Array.append_empty, Array.empty_append, List.nil_append, List.append_nil, and_self, if_true, decide_true, decide_false, Int.toNat_natCast, Int.natCast_nonneg, List.length_map, binV_add, binV_sub, binV_and, binV_shr, binV_shl, binV_str_eql, binV_str_neq, binV_mul, binV_eql, binV_neq, binV_lss, binV_leq, binV_gtr, binV_geq, unV_not, Bool.not_true, Bool.not_false, Bool.cond_true, Bool.cond_false, ldv, stv, vcs, fldA, idxA, blt, lenV, List.size_toArray, List.length_cons, List.length_nil, Nat.zero_add, Array.getD_eq_getD_getElem?, List.getElem?_toArray, List.getElem?_cons_zero, List.getElem?_cons_succ, Option.getD_some, Option.isSome_some, Nat.add_assoc, List.toList_toArray, eq_self, Option.bind_some, List.append_assoc, List.cons_append, List.length_append, List.length_cons, List.length_nil, Nat.zero_add, Nat.add_zero, Nat.reduceAdd, Nat.reduceMul, Nat.reduceLeDiff, mset_some, mset_none, set_at, set_at0, getC_at, getC_at0, getC_zero, getC_succ, loadCs_at, loadCs_at0, loadCs_zero, loadCs_succ, setCs_at, setCs_at0, setCs_zero, setCs_succ, splice, List.set_cons_succ, List.set_cons_zero, List.getElem?_cons_zero, List.getElem?_cons_succ, List.drop_zero, List.drop_succ_cons, List.take_succ_cons, List.take_zero, newB, vcs, flat_int, flat_bool, flat_string, flat_slice, flat_pointer, flat_func, flat_nilFunc, List.all_cons, List.all_nil, Bool.and_true, Bool.and_self, Ty.ld3, Ty.sz3, Ty.zc3, Ty.by3, Ty.ld24, Ty.sz24, Ty.sl24, Ty.zc24, Ty.by24, Ty.ld56, Ty.sz56, Ty.sl56, Ty.zc56, Ty.by56, Ty.ld58, Ty.sz58, Ty.zc58, Ty.by58, Ty.fl58_0, Ty.fl58_1, Ty.fl58_2, Ty.ld77, Ty.sz77, Ty.zc77, Ty.by77, Ty.fl77_0, Ty.fl77_1, Ty.fl77_2, Ty.fl77_3, Ty.fl77_4, Ty.fl77_5, *]; rfl)
        | (with_reducible refine aw_then ?_) | (with_reducible refine aw_skip ?_) | (with_reducible refine aw_ret ?_) | (with_reducible refine aw_exit ?_) | (with_reducible refine aw_block ?_) | (with_reducible refine xr_reg (by decide +kernel) ?_)
        | (with_reducible refine xr_nil ?_) | (with_reducible refine k_norm ?_) | (with_reducible refine k_ret ?_) | (with_reducible refine k_exit ?_) | (with_reducible refine b_norm ?_) | (with_reducible refine b_ret ?_) | (with_reducible refine b_exit ?_) | (with_reducible refine b_past (by decide) ?_)
        | (refine xr_cl (f := ?_) (fs := ?_) (cs := ?_) (args := ?_) (K := ?_) ?_ ?_ ?_ ?_ ?_
           rotate_left 5
           · simp only [ev]; rfl
           · first | with_reducible exact Ty.ok88 | with_reducible exact Ty.ok91)
        | (refine xr_gcl (f := ?_) (fs := ?_) (cs := ?_) (args := ?_) (K := ?_) (by exact rfl) ?_ ?_ ?_ ?_ ?_ ?_
           rotate_left 5
           · simp only [ev, put_some, reduceIte, Nat.reduceEqDiff, Bool.not_true, Bool.not_false, *]
           · simp only [ev]; rfl
           · first | with_reducible exact Ty.ok88 | with_reducible exact Ty.ok91)
        | (refine xr_do (v := ?_) (h' := ?_) (by exact rfl) ?_ ?_; rotate_left 2)
        | (refine xr_st (v := ?_) (h' := ?_) (by exact rfl) ?_ ?_; rotate_left 2)
        | (refine xr_gdo (v := ?_) (h' := ?_) (by exact rfl) (by exact rfl) ?_ ?_ ?_
           rotate_left 2
           · simp only [ev, put_some, reduceIte, Nat.reduceEqDiff, Bool.not_true, Bool.not_false, *])
        | (refine xr_gst (v := ?_) (h' := ?_) (by exact rfl) (by exact rfl) ?_ ?_ ?_
           rotate_left 2
           · simp only [ev, put_some, reduceIte, Nat.reduceEqDiff, Bool.not_true, Bool.not_false, *])
        | (refine xr_goff (by exact rfl) ?_ ?_
           · simp only [ev, put_some, reduceIte, Nat.reduceEqDiff, Bool.not_true, Bool.not_false, *])
        | (refine xr_gsoff (by exact rfl) ?_ ?_
           · simp only [ev, put_some, reduceIte, Nat.reduceEqDiff, Bool.not_true, Bool.not_false, *])
        | (refine xr_gund (by exact rfl) ?_ ?_
           · simp only [ev, put_some, reduceIte, Nat.reduceEqDiff, Bool.not_true, Bool.not_false, *])
        | (refine xr_gsund (by exact rfl) ?_ ?_
           · simp only [ev, put_some, reduceIte, Nat.reduceEqDiff, Bool.not_true, Bool.not_false, *])
        | (refine xr_gif (b := ?_) (by exact rfl) ?_ (fun hb => ?_) (fun hb => ?_)
           rotate_left 1
           · simp only [ev, put_some, reduceIte, Nat.reduceEqDiff, Bool.not_true, Bool.not_false, *]; rfl)
        | (refine aw_ift (by decide) ?_ ?_
           · simp only [ev, put_some, reduceIte, Nat.reduceEqDiff, *])
        | (refine aw_iff (by decide) ?_ ?_
           · simp only [ev, put_some, reduceIte, Nat.reduceEqDiff, *])
        | (refine aw_if (b := ?_) (by decide) ?_ (fun hb => ?_) (fun hb => ?_)
           rotate_left 1
           · simp only [ev, put_some, reduceIte, Nat.reduceEqDiff, *]; rfl)
        | (refine r_ret (vs := ?_) ?_ ?_
           rotate_left 1
           · simp only [resV, ev, put_some, reduceIte, Nat.reduceEqDiff, Option.map_some, *]; rfl)
        | (with_reducible refine isDesk_ok _ ?_ ?_ _ _ _ ?_ ?_ ?_ ?_
           rotate_left 2
           · first | assumption | exact Sl.old (by assumption) _ | ((try (simp only [deskV, deskL, mset_some, mset_none, set_at, set_at0, List.set_cons_succ, List.set_cons_zero, List.append_assoc, List.cons_append, List.nil_append, List.length_append, List.length_cons, List.length_nil, Nat.zero_add, Nat.add_zero, Nat.reduceAdd, Nat.add_assoc])); first | exact Sl.old (by assumption) _ | exact sl_nilints | exact sl_nilitems | (refine sl_ints (Nat.le_refl _) ?_; exact rfl) | (refine sl_items (Nat.le_refl _) ?_; exact rfl) | (refine sl_ints0 (Nat.le_refl _) ?_; exact rfl) | (refine sl_items0 (Nat.le_refl _) ?_; exact rfl))
           · first | assumption | exact Sl.old (by assumption) _ | ((try (simp only [deskV, deskL, mset_some, mset_none, set_at, set_at0, List.set_cons_succ, List.set_cons_zero, List.append_assoc, List.cons_append, List.nil_append, List.length_append, List.length_cons, List.length_nil, Nat.zero_add, Nat.add_zero, Nat.reduceAdd, Nat.add_assoc])); first | exact Sl.old (by assumption) _ | exact sl_nilints | exact sl_nilitems | (refine sl_ints (Nat.le_refl _) ?_; exact rfl) | (refine sl_items (Nat.le_refl _) ?_; exact rfl) | (refine sl_ints0 (Nat.le_refl _) ?_; exact rfl) | (refine sl_items0 (Nat.le_refl _) ?_; exact rfl))
           · first | omega | (simp only [List.length_nil]; omega)
           · first | omega | (simp only [List.length_nil]; omega)
           )
        | (with_reducible refine isPerson_ok _ _ ?_ _ _ _ ?_ ?_ ?_
           rotate_left 1
           · first | assumption | exact Sl.old (by assumption) _
           · assumption
           · assumption
           )
        | rintro _ _ ⟨rfl, rfl⟩
        )
      refine aw_for [2, 21, 22] (fun k T h' => ∃ L, h' = h ++ (⟨2, 1, [.int .i64 now, vp, .slice b2 items.length c2]⟩ :: L) ∧ T 23 = .int .i64 k ∧
        App (h.length + 1) L (T 8) 1 (ints (idxs p (items.take k))).flatten (idxs p (items.take k)).length) items.length (k0 := 0) (Nat.zero_le _) ⟨[], rfl, rfl, ?_⟩ ?_
      · exact App.nil _ _ _
      rintro k T h' hk hR ⟨L, rfl, h11, hap⟩
      simp only [List.forall_mem_cons, List.not_mem_nil, false_implies, implies_true, and_true, stp, ev, put_some, put_none, argT_list, List.getD_cons_zero, List.getD_cons_succ, reduceIte, Nat.reduceEqDiff, Option.map_some, Array.map_empty, List.map_toArray, List.map_cons, List.map_nil, List.append_toArray, Array.append_empty, Array.empty_append, List.nil_append, List.append_nil, and_self, if_true, decide_true, decide_false, Int.toNat_natCast, Int.natCast_nonneg, List.length_map, binV_add, binV_sub, binV_and, binV_shr, binV_shl, binV_str_eql, binV_str_neq, binV_mul, binV_eql, binV_neq, binV_lss, binV_leq, binV_gtr, binV_geq, unV_not, Bool.not_true, Bool.not_false, Bool.cond_true, Bool.cond_false] at hR
      rcases Nat.lt_or_ge k items.length with hkn | hkn
      · have h1 : (k : Int) < items.length := by omega
        obtain ⟨a, rfl, hld0⟩ := Sl.row hrow (k := k) (by simpa using hkn)
        rw [List.getElem_map] at hld0
        have hld := loadCs_old hld0
        repeat' (first
          | ((with_reducible refine eq_go ?_); simp only [stp, ev, put_some, put_none, argT_list, List.getD_cons_zero, List.getD_cons_succ, reduceIte, Nat.reduceEqDiff, Option.map_some, Array.map_empty, List.map_toArray, List.map_cons, List.map_nil, List.append_toArray, Array.append_empty, Array.empty_append, List.nil_append, List.append_nil, and_self, if_true, decide_true, decide_false, Int.toNat_natCast, Int.natCast_nonneg, List.length_map, binV_add, binV_sub, binV_and, binV_shr, binV_shl, binV_str_eql, binV_str_neq, binV_mul, binV_eql, binV_neq, binV_lss, binV_leq, binV_gtr, binV_geq, unV_not, Bool.not_true, Bool.not_false, Bool.cond_true, Bool.cond_false, ldv, stv, vcs, fldA, idxA, blt, lenV, List.size_toArray, List.length_cons, List.length_nil, Nat.zero_add, Array.getD_eq_getD_getElem?, List.getElem?_toArray, List.getElem?_cons_zero, List.getElem?_cons_succ, Option.getD_some, Option.isSome_some, Nat.add_assoc, List.toList_toArray, eq_self, Option.bind_some, List.append_assoc, List.cons_append, List.length_append, List.length_cons, List.length_nil, Nat.zero_add, Nat.add_zero, Nat.reduceAdd, Nat.reduceMul, Nat.reduceLeDiff, mset_some, mset_none, set_at, set_at0, getC_at, getC_at0, getC_zero, getC_succ, loadCs_at, loadCs_at0, loadCs_zero, loadCs_succ, setCs_at, setCs_at0, setCs_zero, setCs_succ, splice, List.set_cons_succ, List.set_cons_zero, List.getElem?_cons_zero, List.getElem?_cons_succ, List.drop_zero, List.drop_succ_cons, List.take_succ_cons, List.take_zero, newB, vcs, flat_int, flat_bool, flat_string, flat_slice, flat_pointer, flat_func, flat_nilFunc, List.all_cons, List.all_nil, Bool.and_true, Bool.and_self, Ty.ld3, Ty.sz3, Ty.zc3, Ty.by3, Ty.ld24, Ty.sz24, Ty.sl24, Ty.zc24, Ty.by24, Ty.ld56, Ty.sz56, Ty.sl56, Ty.zc56, Ty.by56, Ty.ld58, Ty.sz58, Ty.zc58, Ty.by58, Ty.fl58_0, Ty.fl58_1, Ty.fl58_2, Ty.ld77, Ty.sz77, Ty.zc77, Ty.by77, Ty.fl77_0, Ty.fl77_1, Ty.fl77_2, Ty.fl77_3, Ty.fl77_4, Ty.fl77_5, Item.cells_length, Item.cells_flat, Item.cells_take, Item.cells_splice, *]; rfl)
          | (with_reducible refine aw_then ?_) | (with_reducible refine aw_skip ?_) | (with_reducible refine aw_ret ?_) | (with_reducible refine aw_exit ?_) | (with_reducible refine aw_block ?_) | (with_reducible refine xr_reg (by decide +kernel) ?_)
          | (with_reducible refine xr_nil ?_) | (with_reducible refine k_norm ?_) | (with_reducible refine k_ret ?_) | (with_reducible refine k_exit ?_) | (with_reducible refine b_norm ?_) | (with_reducible refine b_ret ?_) | (with_reducible refine b_exit ?_) | (with_reducible refine b_past (by decide) ?_)
          | (refine xr_cl (f := ?_) (fs := ?_) (cs := ?_) (args := ?_) (K := ?_) ?_ ?_ ?_ ?_ ?_
             rotate_left 5
             · simp only [ev]; rfl
             · first | with_reducible exact Ty.ok88 | with_reducible exact Ty.ok91)
          | (refine xr_gcl (f := ?_) (fs := ?_) (cs := ?_) (args := ?_) (K := ?_) (by exact rfl) ?_ ?_ ?_ ?_ ?_ ?_
             rotate_left 5
             · simp only [ev, put_some, reduceIte, Nat.reduceEqDiff, Bool.not_true, Bool.not_false, *]
             · simp only [ev]; rfl
             · first | with_reducible exact Ty.ok88 | with_reducible exact Ty.ok91)
          | (refine xr_do (v := ?_) (h' := ?_) (by exact rfl) ?_ ?_; rotate_left 2)
          | (refine xr_st (v := ?_) (h' := ?_) (by exact rfl) ?_ ?_; rotate_left 2)
          | (refine xr_gdo (v := ?_) (h' := ?_) (by exact rfl) (by exact rfl) ?_ ?_ ?_
             rotate_left 2
             · simp only [ev, put_some, reduceIte, Nat.reduceEqDiff, Bool.not_true, Bool.not_false, *])
          | (refine xr_gst (v := ?_) (h' := ?_) (by exact rfl) (by exact rfl) ?_ ?_ ?_
             rotate_left 2
             · simp only [ev, put_some, reduceIte, Nat.reduceEqDiff, Bool.not_true, Bool.not_false, *])
          | (refine xr_goff (by exact rfl) ?_ ?_
             · simp only [ev, put_some, reduceIte, Nat.reduceEqDiff, Bool.not_true, Bool.not_false, *])
          | (refine xr_gsoff (by exact rfl) ?_ ?_
             · simp only [ev, put_some, reduceIte, Nat.reduceEqDiff, Bool.not_true, Bool.not_false, *])
          | (refine xr_gund (by exact rfl) ?_ ?_
             · simp only [ev, put_some, reduceIte, Nat.reduceEqDiff, Bool.not_true, Bool.not_false, *])
          | (refine xr_gsund (by exact rfl) ?_ ?_
             · simp only [ev, put_some, reduceIte, Nat.reduceEqDiff, Bool.not_true, Bool.not_false, *])
          | (refine xr_gif (b := ?_) (by exact rfl) ?_ (fun hb => ?_) (fun hb => ?_)
             rotate_left 1
             · simp only [ev, put_some, reduceIte, Nat.reduceEqDiff, Bool.not_true, Bool.not_false, *]; rfl)
          | (refine aw_ift (by decide) ?_ ?_
             · simp only [ev, put_some, reduceIte, Nat.reduceEqDiff, *])
          | (refine aw_iff (by decide) ?_ ?_
             · simp only [ev, put_some, reduceIte, Nat.reduceEqDiff, *])
          | (refine aw_if (b := ?_) (by decide) ?_ (fun hb => ?_) (fun hb => ?_)
             rotate_left 1
             · simp only [ev, put_some, reduceIte, Nat.reduceEqDiff, *]; rfl)
          | (refine r_ret (vs := ?_) ?_ ?_
             rotate_left 1
             · simp only [resV, ev, put_some, reduceIte, Nat.reduceEqDiff, Option.map_some, *]; rfl)
          | (with_reducible refine isDesk_ok _ ?_ ?_ _ _ _ ?_ ?_ ?_ ?_
             rotate_left 2
             · first | assumption | exact Sl.old (by assumption) _ | ((try (simp only [deskV, deskL, mset_some, mset_none, set_at, set_at0, List.set_cons_succ, List.set_cons_zero, List.append_assoc, List.cons_append, List.nil_append, List.length_append, List.length_cons, List.length_nil, Nat.zero_add, Nat.add_zero, Nat.reduceAdd, Nat.add_assoc])); first | exact Sl.old (by assumption) _ | exact sl_nilints | exact sl_nilitems | (refine sl_ints (Nat.le_refl _) ?_; exact rfl) | (refine sl_items (Nat.le_refl _) ?_; exact rfl) | (refine sl_ints0 (Nat.le_refl _) ?_; exact rfl) | (refine sl_items0 (Nat.le_refl _) ?_; exact rfl))
             · first | assumption | exact Sl.old (by assumption) _ | ((try (simp only [deskV, deskL, mset_some, mset_none, set_at, set_at0, List.set_cons_succ, List.set_cons_zero, List.append_assoc, List.cons_append, List.nil_append, List.length_append, List.length_cons, List.length_nil, Nat.zero_add, Nat.add_zero, Nat.reduceAdd, Nat.add_assoc])); first | exact Sl.old (by assumption) _ | exact sl_nilints | exact sl_nilitems | (refine sl_ints (Nat.le_refl _) ?_; exact rfl) | (refine sl_items (Nat.le_refl _) ?_; exact rfl) | (refine sl_ints0 (Nat.le_refl _) ?_; exact rfl) | (refine sl_items0 (Nat.le_refl _) ?_; exact rfl))
             · first | omega | (simp only [List.length_nil]; omega)
             · first | omega | (simp only [List.length_nil]; omega)
             )
          | (with_reducible refine isPerson_ok _ _ ?_ _ _ _ ?_ ?_ ?_
             rotate_left 1
             · first | assumption | exact Sl.old (by assumption) _
             · assumption
             · assumption
             )
          | rintro _ _ ⟨rfl, rfl⟩
          )
        refine xr_cl (f := g) (fs := fs) (cs := cs) (args := ?_) (K := ?_) ?_ ?_ ?_ ?_ ?_
        rotate_left 2
        · simp only [stp, ev, put_some, put_none, argT_list, List.getD_cons_zero, List.getD_cons_succ, reduceIte, Nat.reduceEqDiff, Option.map_some, Array.map_empty, List.map_toArray, List.map_cons, List.map_nil, List.append_toArray, Array.append_empty, Array.empty_append, List.nil_append, List.append_nil, and_self, if_true, decide_true, decide_false, Int.toNat_natCast, Int.natCast_nonneg, List.length_map, binV_add, binV_sub, binV_and, binV_shr, binV_shl, binV_str_eql, binV_str_neq, binV_mul, binV_eql, binV_neq, binV_lss, binV_leq, binV_gtr, binV_geq, unV_not, Bool.not_true, Bool.not_false, Bool.cond_true, Bool.cond_false, ldv, stv, vcs, fldA, idxA, blt, lenV, List.size_toArray, List.length_cons, List.length_nil, Nat.zero_add, Array.getD_eq_getD_getElem?, List.getElem?_toArray, List.getElem?_cons_zero, List.getElem?_cons_succ, Option.getD_some, Option.isSome_some, Nat.add_assoc, List.toList_toArray, eq_self, Option.bind_some, List.append_assoc, List.cons_append, List.length_append, List.length_cons, List.length_nil, Nat.zero_add, Nat.add_zero, Nat.reduceAdd, Nat.reduceMul, Nat.reduceLeDiff, mset_some, mset_none, set_at, set_at0, getC_at, getC_at0, getC_zero, getC_succ, loadCs_at, loadCs_at0, loadCs_zero, loadCs_succ, setCs_at, setCs_at0, setCs_zero, setCs_succ, splice, List.set_cons_succ, List.set_cons_zero, List.getElem?_cons_zero, List.getElem?_cons_succ, List.drop_zero, List.drop_succ_cons, List.take_succ_cons, List.take_zero, newB, vcs, flat_int, flat_bool, flat_string, flat_slice, flat_pointer, flat_func, flat_nilFunc, List.all_cons, List.all_nil, Bool.and_true, Bool.and_self, Ty.ld3, Ty.sz3, Ty.zc3, Ty.by3, Ty.ld24, Ty.sz24, Ty.sl24, Ty.zc24, Ty.by24, Ty.ld56, Ty.sz56, Ty.sl56, Ty.zc56, Ty.by56, Ty.ld58, Ty.sz58, Ty.zc58, Ty.by58, Ty.fl58_0, Ty.fl58_1, Ty.fl58_2, Ty.ld77, Ty.sz77, Ty.zc77, Ty.by77, Ty.fl77_0, Ty.fl77_1, Ty.fl77_2, Ty.fl77_3, Ty.fl77_4, Ty.fl77_5, *]
        · exact hg
        · simp only [stp, ev, put_some, put_none, argT_list, List.getD_cons_zero, List.getD_cons_succ, reduceIte, Nat.reduceEqDiff, Option.map_some, Array.map_empty, List.map_toArray, List.map_cons, List.map_nil, List.append_toArray, Array.append_empty, Array.empty_append, List.nil_append, List.append_nil, and_self, if_true, decide_true, decide_false, Int.toNat_natCast, Int.natCast_nonneg, List.length_map, binV_add, binV_sub, binV_and, binV_shr, binV_shl, binV_str_eql, binV_str_neq, binV_mul, binV_eql, binV_neq, binV_lss, binV_leq, binV_gtr, binV_geq, unV_not, Bool.not_true, Bool.not_false, Bool.cond_true, Bool.cond_false, ldv, stv, vcs, fldA, idxA, blt, lenV, List.size_toArray, List.length_cons, List.length_nil, Nat.zero_add, Array.getD_eq_getD_getElem?, List.getElem?_toArray, List.getElem?_cons_zero, List.getElem?_cons_succ, Option.getD_some, Option.isSome_some, Nat.add_assoc, List.toList_toArray, eq_self, Option.bind_some, List.append_assoc, List.cons_append, List.length_append, List.length_cons, List.length_nil, Nat.zero_add, Nat.add_zero, Nat.reduceAdd, Nat.reduceMul, Nat.reduceLeDiff, mset_some, mset_none, set_at, set_at0, getC_at, getC_at0, getC_zero, getC_succ, loadCs_at, loadCs_at0, loadCs_zero, loadCs_succ, setCs_at, setCs_at0, setCs_zero, setCs_succ, splice, List.set_cons_succ, List.set_cons_zero, List.getElem?_cons_zero, List.getElem?_cons_succ, List.drop_zero, List.drop_succ_cons, List.take_succ_cons, List.take_zero, newB, vcs, flat_int, flat_bool, flat_string, flat_slice, flat_pointer, flat_func, flat_nilFunc, List.all_cons, List.all_nil, Bool.and_true, Bool.and_self, Ty.ld3, Ty.sz3, Ty.zc3, Ty.by3, Ty.ld24, Ty.sz24, Ty.sl24, Ty.zc24, Ty.by24, Ty.ld56, Ty.sz56, Ty.sl56, Ty.zc56, Ty.by56, Ty.ld58, Ty.sz58, Ty.zc58, Ty.by58, Ty.fl58_0, Ty.fl58_1, Ty.fl58_2, Ty.ld77, Ty.sz77, Ty.zc77, Ty.by77, Ty.fl77_0, Ty.fl77_1, Ty.fl77_2, Ty.fl77_3, Ty.fl77_4, Ty.fl77_5, *]; rfl
        · exact hpk _ items[k] (List.getElem_mem hkn)
        rintro _ _ ⟨rfl, rfl⟩
        have hbs := bsl_one (h := h ++ ⟨2, 1, [.int .i64 now, vp, .slice (some a) items.length c2]⟩ :: (L ++ [⟨2, 1, items[k].cells⟩])) (x := .int .i64 k) Ty.sl24 Ty.zc3 rfl rfl
        have hil := idxs_len p (items.take k)
        rw [List.length_take] at hil
        obtain ⟨v', L', hap', happ⟩ := app_step (h2 := h ++ [⟨2, 1, [.int .i64 now, vp, .slice (some a) items.length c2]⟩]) (L := L) (E := [⟨2, 1, items[k].cells⟩, ⟨2, 1, [.int .i64 k]⟩]) (j := 1) (ix := h.length + (L.length + 2))
          Ty.sl24 Ty.zc3 Ty.by3 (by simpa using hap) rfl rfl (by simp; omega) (by omega) (by omega)
        simp only [List.append_assoc, List.cons_append, List.nil_append, List.length_append, List.length_cons, List.length_nil, Nat.zero_add, Nat.add_assoc, Nat.reduceAdd] at hbs hap' happ
        have hsn := idxs_snoc p hkn
        repeat' (first
          | ((with_reducible refine eq_go ?_); simp only [stp, ev, put_some, put_none, argT_list, List.getD_cons_zero, List.getD_cons_succ, reduceIte, Nat.reduceEqDiff, Option.map_some, Array.map_empty, List.map_toArray, List.map_cons, List.map_nil, List.append_toArray, Array.append_empty, Array.empty_append, List.nil_append, List.append_nil, and_self, if_true, decide_true, decide_false, Int.toNat_natCast, Int.natCast_nonneg, List.length_map, binV_add, binV_sub, binV_and, binV_shr, binV_shl, binV_str_eql, binV_str_neq, binV_mul, binV_eql, binV_neq, binV_lss, binV_leq, binV_gtr, binV_geq, unV_not, Bool.not_true, Bool.not_false, Bool.cond_true, Bool.cond_false, ldv, stv, vcs, fldA, idxA, blt, lenV, List.size_toArray, List.length_cons, List.length_nil, Nat.zero_add, Array.getD_eq_getD_getElem?, List.getElem?_toArray, List.getElem?_cons_zero, List.getElem?_cons_succ, Option.getD_some, Option.isSome_some, Nat.add_assoc, List.toList_toArray, eq_self, Option.bind_some, List.append_assoc, List.cons_append, List.length_append, List.length_cons, List.length_nil, Nat.zero_add, Nat.add_zero, Nat.reduceAdd, Nat.reduceMul, Nat.reduceLeDiff, mset_some, mset_none, set_at, set_at0, getC_at, getC_at0, getC_zero, getC_succ, loadCs_at, loadCs_at0, loadCs_zero, loadCs_succ, setCs_at, setCs_at0, setCs_zero, setCs_succ, splice, List.set_cons_succ, List.set_cons_zero, List.getElem?_cons_zero, List.getElem?_cons_succ, List.drop_zero, List.drop_succ_cons, List.take_succ_cons, List.take_zero, newB, vcs, flat_int, flat_bool, flat_string, flat_slice, flat_pointer, flat_func, flat_nilFunc, List.all_cons, List.all_nil, Bool.and_true, Bool.and_self, Ty.ld3, Ty.sz3, Ty.zc3, Ty.by3, Ty.ld24, Ty.sz24, Ty.sl24, Ty.zc24, Ty.by24, Ty.ld56, Ty.sz56, Ty.sl56, Ty.zc56, Ty.by56, Ty.ld58, Ty.sz58, Ty.zc58, Ty.by58, Ty.fl58_0, Ty.fl58_1, Ty.fl58_2, Ty.ld77, Ty.sz77, Ty.zc77, Ty.by77, Ty.fl77_0, Ty.fl77_1, Ty.fl77_2, Ty.fl77_3, Ty.fl77_4, Ty.fl77_5, *]; rfl)
          | (with_reducible refine aw_then ?_) | (with_reducible refine aw_skip ?_) | (with_reducible refine aw_ret ?_) | (with_reducible refine aw_exit ?_) | (with_reducible refine aw_block ?_) | (with_reducible refine xr_reg (by decide +kernel) ?_)
          | (with_reducible refine xr_nil ?_) | (with_reducible refine k_norm ?_) | (with_reducible refine k_ret ?_) | (with_reducible refine k_exit ?_) | (with_reducible refine b_norm ?_) | (with_reducible refine b_ret ?_) | (with_reducible refine b_exit ?_) | (with_reducible refine b_past (by decide) ?_)
          | (refine xr_cl (f := ?_) (fs := ?_) (cs := ?_) (args := ?_) (K := ?_) ?_ ?_ ?_ ?_ ?_
             rotate_left 5
             · simp only [ev]; rfl
             · first | with_reducible exact Ty.ok88 | with_reducible exact Ty.ok91)
          | (refine xr_gcl (f := ?_) (fs := ?_) (cs := ?_) (args := ?_) (K := ?_) (by exact rfl) ?_ ?_ ?_ ?_ ?_ ?_
             rotate_left 5
             · simp only [ev, put_some, reduceIte, Nat.reduceEqDiff, Bool.not_true, Bool.not_false, *]
             · simp only [ev]; rfl
             · first | with_reducible exact Ty.ok88 | with_reducible exact Ty.ok91)
          | (refine xr_do (v := ?_) (h' := ?_) (by exact rfl) ?_ ?_; rotate_left 2)
          | (refine xr_st (v := ?_) (h' := ?_) (by exact rfl) ?_ ?_; rotate_left 2)
          | (refine xr_gdo (v := ?_) (h' := ?_) (by exact rfl) (by exact rfl) ?_ ?_ ?_
             rotate_left 2
             · simp only [ev, put_some, reduceIte, Nat.reduceEqDiff, Bool.not_true, Bool.not_false, *])
          | (refine xr_gst (v := ?_) (h' := ?_) (by exact rfl) (by exact rfl) ?_ ?_ ?_
             rotate_left 2
             · simp only [ev, put_some, reduceIte, Nat.reduceEqDiff, Bool.not_true, Bool.not_false, *])
          | (refine xr_goff (by exact rfl) ?_ ?_
             · simp only [ev, put_some, reduceIte, Nat.reduceEqDiff, Bool.not_true, Bool.not_false, *])
          | (refine xr_gsoff (by exact rfl) ?_ ?_
             · simp only [ev, put_some, reduceIte, Nat.reduceEqDiff, Bool.not_true, Bool.not_false, *])
          | (refine xr_gund (by exact rfl) ?_ ?_
             · simp only [ev, put_some, reduceIte, Nat.reduceEqDiff, Bool.not_true, Bool.not_false, *])
          | (refine xr_gsund (by exact rfl) ?_ ?_
             · simp only [ev, put_some, reduceIte, Nat.reduceEqDiff, Bool.not_true, Bool.not_false, *])
          | (refine xr_gif (b := ?_) (by exact rfl) ?_ (fun hb => ?_) (fun hb => ?_)
             rotate_left 1
             · simp only [ev, put_some, reduceIte, Nat.reduceEqDiff, Bool.not_true, Bool.not_false, *]; rfl)
          | (refine aw_ift (by decide) ?_ ?_
             · simp only [ev, put_some, reduceIte, Nat.reduceEqDiff, *])
          | (refine aw_iff (by decide) ?_ ?_
             · simp only [ev, put_some, reduceIte, Nat.reduceEqDiff, *])
          | (refine aw_if (b := ?_) (by decide) ?_ (fun hb => ?_) (fun hb => ?_)
             rotate_left 1
             · simp only [ev, put_some, reduceIte, Nat.reduceEqDiff, *]; rfl)
          | (refine r_ret (vs := ?_) ?_ ?_
             rotate_left 1
             · simp only [resV, ev, put_some, reduceIte, Nat.reduceEqDiff, Option.map_some, *]; rfl)
          | (with_reducible refine isDesk_ok _ ?_ ?_ _ _ _ ?_ ?_ ?_ ?_
             rotate_left 2
             · first | assumption | exact Sl.old (by assumption) _ | ((try (simp only [deskV, deskL, mset_some, mset_none, set_at, set_at0, List.set_cons_succ, List.set_cons_zero, List.append_assoc, List.cons_append, List.nil_append, List.length_append, List.length_cons, List.length_nil, Nat.zero_add, Nat.add_zero, Nat.reduceAdd, Nat.add_assoc])); first | exact Sl.old (by assumption) _ | exact sl_nilints | exact sl_nilitems | (refine sl_ints (Nat.le_refl _) ?_; exact rfl) | (refine sl_items (Nat.le_refl _) ?_; exact rfl) | (refine sl_ints0 (Nat.le_refl _) ?_; exact rfl) | (refine sl_items0 (Nat.le_refl _) ?_; exact rfl))
             · first | assumption | exact Sl.old (by assumption) _ | ((try (simp only [deskV, deskL, mset_some, mset_none, set_at, set_at0, List.set_cons_succ, List.set_cons_zero, List.append_assoc, List.cons_append, List.nil_append, List.length_append, List.length_cons, List.length_nil, Nat.zero_add, Nat.add_zero, Nat.reduceAdd, Nat.add_assoc])); first | exact Sl.old (by assumption) _ | exact sl_nilints | exact sl_nilitems | (refine sl_ints (Nat.le_refl _) ?_; exact rfl) | (refine sl_items (Nat.le_refl _) ?_; exact rfl) | (refine sl_ints0 (Nat.le_refl _) ?_; exact rfl) | (refine sl_items0 (Nat.le_refl _) ?_; exact rfl))
             · first | omega | (simp only [List.length_nil]; omega)
             · first | omega | (simp only [List.length_nil]; omega)
             )
          | (with_reducible refine isPerson_ok _ _ ?_ _ _ _ ?_ ?_ ?_
             rotate_left 1
             · first | assumption | exact Sl.old (by assumption) _
             · assumption
             · assumption
             )
          | rintro _ _ ⟨rfl, rfl⟩
          )
        · skip
          refine ⟨by first | assumption | omega, ?_, ?_⟩
          · simp only [List.forall_mem_cons, List.not_mem_nil, false_implies, implies_true, and_true, and_self, stp, ev, put_some, put_none, argT_list, List.getD_cons_zero, List.getD_cons_succ, reduceIte, Nat.reduceEqDiff, Option.map_some, Array.map_empty, List.map_toArray, List.map_cons, List.map_nil, List.append_toArray, Array.append_empty, Array.empty_append, List.nil_append, List.append_nil, and_self, if_true, decide_true, decide_false, Int.toNat_natCast, Int.natCast_nonneg, List.length_map, binV_add, binV_sub, binV_and, binV_shr, binV_shl, binV_str_eql, binV_str_neq, binV_mul, binV_eql, binV_neq, binV_lss, binV_leq, binV_gtr, binV_geq, unV_not, Bool.not_true, Bool.not_false, Bool.cond_true, Bool.cond_false, *]
          refine ⟨_, rfl, ?_, ?_⟩
          · simp only [put_some, reduceIte, Nat.reduceEqDiff]
            rw [wrap_id (by omega)]; rfl
          · rw [hb, if_pos rfl] at hsn
            simp only [put_some, reduceIte, Nat.reduceEqDiff]
            rw [hsn]
            refine happ.cast rfl rfl rfl ?_ ?_
            · simp
            · simp
        · skip
          refine ⟨by first | assumption | omega, ?_, ?_⟩
          · simp only [List.forall_mem_cons, List.not_mem_nil, false_implies, implies_true, and_true, and_self, stp, ev, put_some, put_none, argT_list, List.getD_cons_zero, List.getD_cons_succ, reduceIte, Nat.reduceEqDiff, Option.map_some, Array.map_empty, List.map_toArray, List.map_cons, List.map_nil, List.append_toArray, Array.append_empty, Array.empty_append, List.nil_append, List.append_nil, and_self, if_true, decide_true, decide_false, Int.toNat_natCast, Int.natCast_nonneg, List.length_map, binV_add, binV_sub, binV_and, binV_shr, binV_shl, binV_str_eql, binV_str_neq, binV_mul, binV_eql, binV_neq, binV_lss, binV_leq, binV_gtr, binV_geq, unV_not, Bool.not_true, Bool.not_false, Bool.cond_true, Bool.cond_false, *]
          refine ⟨_, rfl, ?_, ?_⟩
          · simp only [put_some, reduceIte, Nat.reduceEqDiff]
            rw [wrap_id (by omega)]; rfl
          · rw [hb, if_neg (by simp), List.append_nil] at hsn
            simp only [put_some, reduceIte, Nat.reduceEqDiff]
            rw [hsn]
            exact hap.more _
      · have h1 : ¬ (k : Int) < items.length := by omega
        repeat' (first
          | ((with_reducible refine eq_go ?_); simp only [stp, ev, put_some, put_none, argT_list, List.getD_cons_zero, List.getD_cons_succ, reduceIte, Nat.reduceEqDiff, Option.map_some, Array.map_empty, List.map_toArray, List.map_cons, List.map_nil, List.append_toArray, Array.append_empty, Array.empty_append, List.nil_append, List.append_nil, and_self, if_true, decide_true, decide_false, Int.toNat_natCast, Int.natCast_nonneg, List.length_map, binV_add, binV_sub, binV_and, binV_shr, binV_shl, binV_str_eql, binV_str_neq, binV_mul, binV_eql, binV_neq, binV_lss, binV_leq, binV_gtr, binV_geq, unV_not, Bool.not_true, Bool.not_false, Bool.cond_true, Bool.cond_false, ldv, stv, vcs, fldA, idxA, blt, lenV, List.size_toArray, List.length_cons, List.length_nil, Nat.zero_add, Array.getD_eq_getD_getElem?, List.getElem?_toArray, List.getElem?_cons_zero, List.getElem?_cons_succ, Option.getD_some, Option.isSome_some, Nat.add_assoc, List.toList_toArray, eq_self, Option.bind_some, List.append_assoc, List.cons_append, List.length_append, List.length_cons, List.length_nil, Nat.zero_add, Nat.add_zero, Nat.reduceAdd, Nat.reduceMul, Nat.reduceLeDiff, mset_some, mset_none, set_at, set_at0, getC_at, getC_at0, getC_zero, getC_succ, loadCs_at, loadCs_at0, loadCs_zero, loadCs_succ, setCs_at, setCs_at0, setCs_zero, setCs_succ, splice, List.set_cons_succ, List.set_cons_zero, List.getElem?_cons_zero, List.getElem?_cons_succ, List.drop_zero, List.drop_succ_cons, List.take_succ_cons, List.take_zero, newB, vcs, flat_int, flat_bool, flat_string, flat_slice, flat_pointer, flat_func, flat_nilFunc, List.all_cons, List.all_nil, Bool.and_true, Bool.and_self, Ty.ld3, Ty.sz3, Ty.zc3, Ty.by3, Ty.ld24, Ty.sz24, Ty.sl24, Ty.zc24, Ty.by24, Ty.ld56, Ty.sz56, Ty.sl56, Ty.zc56, Ty.by56, Ty.ld58, Ty.sz58, Ty.zc58, Ty.by58, Ty.fl58_0, Ty.fl58_1, Ty.fl58_2, Ty.ld77, Ty.sz77, Ty.zc77, Ty.by77, Ty.fl77_0, Ty.fl77_1, Ty.fl77_2, Ty.fl77_3, Ty.fl77_4, Ty.fl77_5, *]; rfl)
          | (with_reducible refine aw_then ?_) | (with_reducible refine aw_skip ?_) | (with_reducible refine aw_ret ?_) | (with_reducible refine aw_exit ?_) | (with_reducible refine aw_block ?_) | (with_reducible refine xr_reg (by decide +kernel) ?_)
          | (with_reducible refine xr_nil ?_) | (with_reducible refine k_norm ?_) | (with_reducible refine k_ret ?_) | (with_reducible refine k_exit ?_) | (with_reducible refine b_norm ?_) | (with_reducible refine b_ret ?_) | (with_reducible refine b_exit ?_) | (with_reducible refine b_past (by decide) ?_)
          | (refine xr_cl (f := ?_) (fs := ?_) (cs := ?_) (args := ?_) (K := ?_) ?_ ?_ ?_ ?_ ?_
             rotate_left 5
             · simp only [ev]; rfl
             · first | with_reducible exact Ty.ok88 | with_reducible exact Ty.ok91)
          | (refine xr_gcl (f := ?_) (fs := ?_) (cs := ?_) (args := ?_) (K := ?_) (by exact rfl) ?_ ?_ ?_ ?_ ?_ ?_
             rotate_left 5
             · simp only [ev, put_some, reduceIte, Nat.reduceEqDiff, Bool.not_true, Bool.not_false, *]
             · simp only [ev]; rfl
             · first | with_reducible exact Ty.ok88 | with_reducible exact Ty.ok91)
          | (refine xr_do (v := ?_) (h' := ?_) (by exact rfl) ?_ ?_; rotate_left 2)
          | (refine xr_st (v := ?_) (h' := ?_) (by exact rfl) ?_ ?_; rotate_left 2)
          | (refine xr_gdo (v := ?_) (h' := ?_) (by exact rfl) (by exact rfl) ?_ ?_ ?_
             rotate_left 2
             · simp only [ev, put_some, reduceIte, Nat.reduceEqDiff, Bool.not_true, Bool.not_false, *])
          | (refine xr_gst (v := ?_) (h' := ?_) (by exact rfl) (by exact rfl) ?_ ?_ ?_
             rotate_left 2
             · simp only [ev, put_some, reduceIte, Nat.reduceEqDiff, Bool.not_true, Bool.not_false, *])
          | (refine xr_goff (by exact rfl) ?_ ?_
             · simp only [ev, put_some, reduceIte, Nat.reduceEqDiff, Bool.not_true, Bool.not_false, *])
          | (refine xr_gsoff (by exact rfl) ?_ ?_
             · simp only [ev, put_some, reduceIte, Nat.reduceEqDiff, Bool.not_true, Bool.not_false, *])
          | (refine xr_gund (by exact rfl) ?_ ?_
             · simp only [ev, put_some, reduceIte, Nat.reduceEqDiff, Bool.not_true, Bool.not_false, *])
          | (refine xr_gsund (by exact rfl) ?_ ?_
             · simp only [ev, put_some, reduceIte, Nat.reduceEqDiff, Bool.not_true, Bool.not_false, *])
          | (refine xr_gif (b := ?_) (by exact rfl) ?_ (fun hb => ?_) (fun hb => ?_)
             rotate_left 1
             · simp only [ev, put_some, reduceIte, Nat.reduceEqDiff, Bool.not_true, Bool.not_false, *]; rfl)
          | (refine aw_ift (by decide) ?_ ?_
             · simp only [ev, put_some, reduceIte, Nat.reduceEqDiff, *])
          | (refine aw_iff (by decide) ?_ ?_
             · simp only [ev, put_some, reduceIte, Nat.reduceEqDiff, *])
          | (refine aw_if (b := ?_) (by decide) ?_ (fun hb => ?_) (fun hb => ?_)
             rotate_left 1
             · simp only [ev, put_some, reduceIte, Nat.reduceEqDiff, *]; rfl)
          | (refine r_ret (vs := ?_) ?_ ?_
             rotate_left 1
             · simp only [resV, ev, put_some, reduceIte, Nat.reduceEqDiff, Option.map_some, *]; rfl)
          | (with_reducible refine isDesk_ok _ ?_ ?_ _ _ _ ?_ ?_ ?_ ?_
             rotate_left 2
             · first | assumption | exact Sl.old (by assumption) _ | ((try (simp only [deskV, deskL, mset_some, mset_none, set_at, set_at0, List.set_cons_succ, List.set_cons_zero, List.append_assoc, List.cons_append, List.nil_append, List.length_append, List.length_cons, List.length_nil, Nat.zero_add, Nat.add_zero, Nat.reduceAdd, Nat.add_assoc])); first | exact Sl.old (by assumption) _ | exact sl_nilints | exact sl_nilitems | (refine sl_ints (Nat.le_refl _) ?_; exact rfl) | (refine sl_items (Nat.le_refl _) ?_; exact rfl) | (refine sl_ints0 (Nat.le_refl _) ?_; exact rfl) | (refine sl_items0 (Nat.le_refl _) ?_; exact rfl))
             · first | assumption | exact Sl.old (by assumption) _ | ((try (simp only [deskV, deskL, mset_some, mset_none, set_at, set_at0, List.set_cons_succ, List.set_cons_zero, List.append_assoc, List.cons_append, List.nil_append, List.length_append, List.length_cons, List.length_nil, Nat.zero_add, Nat.add_zero, Nat.reduceAdd, Nat.add_assoc])); first | exact Sl.old (by assumption) _ | exact sl_nilints | exact sl_nilitems | (refine sl_ints (Nat.le_refl _) ?_; exact rfl) | (refine sl_items (Nat.le_refl _) ?_; exact rfl) | (refine sl_ints0 (Nat.le_refl _) ?_; exact rfl) | (refine sl_items0 (Nat.le_refl _) ?_; exact rfl))
             · first | omega | (simp only [List.length_nil]; omega)
             · first | omega | (simp only [List.length_nil]; omega)
             )
          | (with_reducible refine isPerson_ok _ _ ?_ _ _ _ ?_ ?_ ?_
             rotate_left 1
             · first | assumption | exact Sl.old (by assumption) _
             · assumption
             · assumption
             )
          | rintro _ _ ⟨rfl, rfl⟩
          )
        rw [List.take_of_length_le hkn] at hap
        exact list_canon (hap.cons _)
    · have hw1 : decide (0 ≤ who ∧ who ≤ (people.length : Int) - 1) = false := decide_eq_false hw
      have hok : personOk now people items who = false := by simp only [personOk, hk, hw1, Bool.and_false]
      clear hw
      simp only [withP, hok, Bool.false_eq_true, if_false]
      refine acalls_fn Try.func98 rfl Try.ntmps98 (by simp) (by dsimp only [Try.f98]) ?_
      repeat' (first
        | ((with_reducible refine eq_go ?_); simp only [stp, ev, put_some, put_none, argT_list, List.getD_cons_zero, List.getD_cons_succ, reduceIte, Nat.reduceEqDiff, Option.map_some, Array.map_empty, List.map_toArray, List.map_cons, List.map_nil, List.append_toArray, Array.append_empty, Array.empty_append, List.nil_append, List.append_nil, and_self, if_true, decide_true, decide_false, Int.toNat_natCast, Int.natCast_nonneg, List.length_map, binV_add, binV_sub, binV_and, binV_shr, binV_shl, binV_str_eql, binV_str_neq, binV_mul, binV_eql, binV_neq, binV_lss, binV_leq, binV_gtr, binV_geq, unV_not, Bool.not_true, Bool.not_false, Bool.cond_true, Bool.cond_false, ldv, stv, vcs, fldA, idxA, blt, lenV, List.size_toArray, List.length_cons, List.length_nil, Nat.zero_add, Array.getD_eq_getD_getElem?, List.getElem?_toArray, List.getElem?_cons_zero, List.getElem?_cons_succ, Option.getD_some, Option.isSome_some, Nat.add_assoc, List.toList_toArray, eq_self, Option.bind_some, List.append_assoc, List.cons_append, List.length_append, List.length_cons, List.length_nil, Nat.zero_add, Nat.add_zero, Nat.reduceAdd, Nat.reduceMul, Nat.reduceLeDiff, mset_some, mset_none, set_at, set_at0, getC_at, getC_at0, getC_zero, getC_succ, loadCs_at, loadCs_at0, loadCs_zero, loadCs_succ, setCs_at, setCs_at0, setCs_zero, setCs_succ, splice, List.set_cons_succ, List.set_cons_zero, List.getElem?_cons_zero, List.getElem?_cons_succ, List.drop_zero, List.drop_succ_cons, List.take_succ_cons, List.take_zero, newB, vcs, flat_int, flat_bool, flat_string, flat_slice, flat_pointer, flat_func, flat_nilFunc, List.all_cons, List.all_nil, Bool.and_true, Bool.and_self, Ty.ld3, Ty.sz3, Ty.zc3, Ty.by3, Ty.ld24, Ty.sz24, Ty.sl24, Ty.zc24, Ty.by24, Ty.ld56, Ty.sz56, Ty.sl56, Ty.zc56, Ty.by56, Ty.ld58, Ty.sz58, Ty.zc58, Ty.by58, Ty.fl58_0, Ty.fl58_1, Ty.fl58_2, Ty.ld77, Ty.sz77, Ty.zc77, Ty.by77, Ty.fl77_0, Ty.fl77_1, Ty.fl77_2, Ty.fl77_3, Ty.fl77_4, Ty.fl77_5, *]; rfl)
        | (with_reducible refine aw_then ?_) | (with_reducible refine aw_skip ?_) | (with_reducible refine aw_ret ?_) | (with_reducible refine aw_exit ?_) | (with_reducible refine aw_block ?_) | (with_reducible refine xr_reg (by decide +kernel) ?_)
        | (with_reducible refine xr_nil ?_) | (with_reducible refine k_norm ?_) | (with_reducible refine k_ret ?_) | (with_reducible refine k_exit ?_) | (with_reducible refine b_norm ?_) | (with_reducible refine b_ret ?_) | (with_reducible refine b_exit ?_) | (with_reducible refine b_past (by decide) ?_)
        | (refine xr_cl (f := ?_) (fs := ?_) (cs := ?_) (args := ?_) (K := ?_) ?_ ?_ ?_ ?_ ?_
           rotate_left 5
           · simp only [ev]; rfl
           · first | with_reducible exact Ty.ok88 | with_reducible exact Ty.ok91)
        | (refine xr_gcl (f := ?_) (fs := ?_) (cs := ?_) (args := ?_) (K := ?_) (by exact rfl) ?_ ?_ ?_ ?_ ?_ ?_
           rotate_left 5
           · simp only [ev, put_some, reduceIte, Nat.reduceEqDiff, Bool.not_true, Bool.not_false, *]
           · simp only [ev]; rfl
           · first | with_reducible exact Ty.ok88 | with_reducible exact Ty.ok91)
        | (refine xr_do (v := ?_) (h' := ?_) (by exact rfl) ?_ ?_; rotate_left 2)
        | (refine xr_st (v := ?_) (h' := ?_) (by exact rfl) ?_ ?_; rotate_left 2)
        | (refine xr_gdo (v := ?_) (h' := ?_) (by exact rfl) (by exact rfl) ?_ ?_ ?_
           rotate_left 2
           · simp only [ev, put_some, reduceIte, Nat.reduceEqDiff, Bool.not_true, Bool.not_false, *])
        | (refine xr_gst (v := ?_) (h' := ?_) (by exact rfl) (by exact rfl) ?_ ?_ ?_
           rotate_left 2
           · simp only [ev, put_some, reduceIte, Nat.reduceEqDiff, Bool.not_true, Bool.not_false, *])
        | (refine xr_goff (by exact rfl) ?_ ?_
           · simp only [ev, put_some, reduceIte, Nat.reduceEqDiff, Bool.not_true, Bool.not_false, *])
        | (refine xr_gsoff (by exact rfl) ?_ ?_
           · simp only [ev, put_some, reduceIte, Nat.reduceEqDiff, Bool.not_true, Bool.not_false, *])
        | (refine xr_gund (by exact rfl) ?_ ?_
           · simp only [ev, put_some, reduceIte, Nat.reduceEqDiff, Bool.not_true, Bool.not_false, *])
        | (refine xr_gsund (by exact rfl) ?_ ?_
           · simp only [ev, put_some, reduceIte, Nat.reduceEqDiff, Bool.not_true, Bool.not_false, *])
        | (refine xr_gif (b := ?_) (by exact rfl) ?_ (fun hb => ?_) (fun hb => ?_)
           rotate_left 1
           · simp only [ev, put_some, reduceIte, Nat.reduceEqDiff, Bool.not_true, Bool.not_false, *]; rfl)
        | (refine aw_ift (by decide) ?_ ?_
           · simp only [ev, put_some, reduceIte, Nat.reduceEqDiff, *])
        | (refine aw_iff (by decide) ?_ ?_
           · simp only [ev, put_some, reduceIte, Nat.reduceEqDiff, *])
        | (refine aw_if (b := ?_) (by decide) ?_ (fun hb => ?_) (fun hb => ?_)
           rotate_left 1
           · simp only [ev, put_some, reduceIte, Nat.reduceEqDiff, *]; rfl)
        | (refine r_ret (vs := ?_) ?_ ?_
           rotate_left 1
           · simp only [resV, ev, put_some, reduceIte, Nat.reduceEqDiff, Option.map_some, *]; rfl)
        | (with_reducible refine isDesk_ok _ ?_ ?_ _ _ _ ?_ ?_ ?_ ?_
           rotate_left 2
           · first | assumption | exact Sl.old (by assumption) _ | ((try (simp only [deskV, deskL, mset_some, mset_none, set_at, set_at0, List.set_cons_succ, List.set_cons_zero, List.append_assoc, List.cons_append, List.nil_append, List.length_append, List.length_cons, List.length_nil, Nat.zero_add, Nat.add_zero, Nat.reduceAdd, Nat.add_assoc])); first | exact Sl.old (by assumption) _ | exact sl_nilints | exact sl_nilitems | (refine sl_ints (Nat.le_refl _) ?_; exact rfl) | (refine sl_items (Nat.le_refl _) ?_; exact rfl) | (refine sl_ints0 (Nat.le_refl _) ?_; exact rfl) | (refine sl_items0 (Nat.le_refl _) ?_; exact rfl))
           · first | assumption | exact Sl.old (by assumption) _ | ((try (simp only [deskV, deskL, mset_some, mset_none, set_at, set_at0, List.set_cons_succ, List.set_cons_zero, List.append_assoc, List.cons_append, List.nil_append, List.length_append, List.length_cons, List.length_nil, Nat.zero_add, Nat.add_zero, Nat.reduceAdd, Nat.add_assoc])); first | exact Sl.old (by assumption) _ | exact sl_nilints | exact sl_nilitems | (refine sl_ints (Nat.le_refl _) ?_; exact rfl) | (refine sl_items (Nat.le_refl _) ?_; exact rfl) | (refine sl_ints0 (Nat.le_refl _) ?_; exact rfl) | (refine sl_items0 (Nat.le_refl _) ?_; exact rfl))
           · first | omega | (simp only [List.length_nil]; omega)
           · first | omega | (simp only [List.length_nil]; omega)
           )
        | (with_reducible refine isPerson_ok _ _ ?_ _ _ _ ?_ ?_ ?_
           rotate_left 1
           · first | assumption | exact Sl.old (by assumption) _
           · assumption
           · assumption
           )
        | rintro _ _ ⟨rfl, rfl⟩
        )
      exact list_canon (l := []) (App.nil _ _ _)
  · have hok : personOk now people items who = false := by simp only [personOk, hk, Bool.false_and]
    simp only [withP, hok, Bool.false_eq_true, if_false]
    refine acalls_fn Try.func98 rfl Try.ntmps98 (by simp) (by dsimp only [Try.f98]) ?_
    repeat' (first
      | ((with_reducible refine eq_go ?_); simp only [stp, ev, put_some, put_none, argT_list, List.getD_cons_zero, List.getD_cons_succ, reduceIte, Nat.reduceEqDiff, Option.map_some, Array.map_empty, List.map_toArray, List.map_cons, List.map_nil, List.append_toArray, Array.append_empty, Array.empty_append, List.nil_append, List.append_nil, and_self, if_true, decide_true, decide_false, Int.toNat_natCast, Int.natCast_nonneg, List.length_map, binV_add, binV_sub, binV_and, binV_shr, binV_shl, binV_str_eql, binV_str_neq, binV_mul, binV_eql, binV_neq, binV_lss, binV_leq, binV_gtr, binV_geq, unV_not, Bool.not_true, Bool.not_false, Bool.cond_true, Bool.cond_false, ldv, stv, vcs, fldA, idxA, blt, lenV, List.size_toArray, List.length_cons, List.length_nil, Nat.zero_add, Array.getD_eq_getD_getElem?, List.getElem?_toArray, List.getElem?_cons_zero, List.getElem?_cons_succ, Option.getD_some, Option.isSome_some, Nat.add_assoc, List.toList_toArray, eq_self, Option.bind_some, List.append_assoc, List.cons_append, List.length_append, List.length_cons, List.length_nil, Nat.zero_add, Nat.add_zero, Nat.reduceAdd, Nat.reduceMul, Nat.reduceLeDiff, mset_some, mset_none, set_at, set_at0, getC_at, getC_at0, getC_zero, getC_succ, loadCs_at, loadCs_at0, loadCs_zero, loadCs_succ, setCs_at, setCs_at0, setCs_zero, setCs_succ, splice, List.set_cons_succ, List.set_cons_zero, List.getElem?_cons_zero, List.getElem?_cons_succ, List.drop_zero, List.drop_succ_cons, List.take_succ_cons, List.take_zero, newB, vcs, flat_int, flat_bool, flat_string, flat_slice, flat_pointer, flat_func, flat_nilFunc, List.all_cons, List.all_nil, Bool.and_true, Bool.and_self, Ty.ld3, Ty.sz3, Ty.zc3, Ty.by3, Ty.ld24, Ty.sz24, Ty.sl24, Ty.zc24, Ty.by24, Ty.ld56, Ty.sz56, Ty.sl56, Ty.zc56, Ty.by56, Ty.ld58, Ty.sz58, Ty.zc58, Ty.by58, Ty.fl58_0, Ty.fl58_1, Ty.fl58_2, Ty.ld77, Ty.sz77, Ty.zc77, Ty.by77, Ty.fl77_0, Ty.fl77_1, Ty.fl77_2, Ty.fl77_3, Ty.fl77_4, Ty.fl77_5, *]; rfl)
      | (with_reducible refine aw_then ?_) | (with_reducible refine aw_skip ?_) | (with_reducible refine aw_ret ?_) | (with_reducible refine aw_exit ?_) | (with_reducible refine aw_block ?_) | (with_reducible refine xr_reg (by decide +kernel) ?_)
      | (with_reducible refine xr_nil ?_) | (with_reducible refine k_norm ?_) | (with_reducible refine k_ret ?_) | (with_reducible refine k_exit ?_) | (with_reducible refine b_norm ?_) | (with_reducible refine b_ret ?_) | (with_reducible refine b_exit ?_) | (with_reducible refine b_past (by decide) ?_)
      | (refine xr_cl (f := ?_) (fs := ?_) (cs := ?_) (args := ?_) (K := ?_) ?_ ?_ ?_ ?_ ?_
         rotate_left 5
         · simp only [ev]; rfl
         · first | with_reducible exact Ty.ok88 | with_reducible exact Ty.ok91)
      | (refine xr_gcl (f := ?_) (fs := ?_) (cs := ?_) (args := ?_) (K := ?_) (by exact rfl) ?_ ?_ ?_ ?_ ?_ ?_
         rotate_left 5
         · simp only [ev, put_some, reduceIte, Nat.reduceEqDiff, Bool.not_true, Bool.not_false, *]
         · simp only [ev]; rfl
         · first | with_reducible exact Ty.ok88 | with_reducible exact Ty.ok91)
      | (refine xr_do (v := ?_) (h' := ?_) (by exact rfl) ?_ ?_; rotate_left 2)
      | (refine xr_st (v := ?_) (h' := ?_) (by exact rfl) ?_ ?_; rotate_left 2)
      | (refine xr_gdo (v := ?_) (h' := ?_) (by exact rfl) (by exact rfl) ?_ ?_ ?_
         rotate_left 2
         · simp only [ev, put_some, reduceIte, Nat.reduceEqDiff, Bool.not_true, Bool.not_false, *])
      | (refine xr_gst (v := ?_) (h' := ?_) (by exact rfl) (by exact rfl) ?_ ?_ ?_
         rotate_left 2
         · simp only [ev, put_some, reduceIte, Nat.reduceEqDiff, Bool.not_true, Bool.not_false, *])
      | (refine xr_goff (by exact rfl) ?_ ?_
         · simp only [ev, put_some, reduceIte, Nat.reduceEqDiff, Bool.not_true, Bool.not_false, *])
      | (refine xr_gsoff (by exact rfl) ?_ ?_
         · simp only [ev, put_some, reduceIte, Nat.reduceEqDiff, Bool.not_true, Bool.not_false, *])
      | (refine xr_gund (by exact rfl) ?_ ?_
         · simp only [ev, put_some, reduceIte, Nat.reduceEqDiff, Bool.not_true, Bool.not_false, *])
      | (refine xr_gsund (by exact rfl) ?_ ?_
         · simp only [ev, put_some, reduceIte, Nat.reduceEqDiff, Bool.not_true, Bool.not_false, *])
      | (refine xr_gif (b := ?_) (by exact rfl) ?_ (fun hb => ?_) (fun hb => ?_)
         rotate_left 1
         · simp only [ev, put_some, reduceIte, Nat.reduceEqDiff, Bool.not_true, Bool.not_false, *]; rfl)
      | (refine aw_ift (by decide) ?_ ?_
         · simp only [ev, put_some, reduceIte, Nat.reduceEqDiff, *])
      | (refine aw_iff (by decide) ?_ ?_
         · simp only [ev, put_some, reduceIte, Nat.reduceEqDiff, *])
      | (refine aw_if (b := ?_) (by decide) ?_ (fun hb => ?_) (fun hb => ?_)
         rotate_left 1
         · simp only [ev, put_some, reduceIte, Nat.reduceEqDiff, *]; rfl)
      | (refine r_ret (vs := ?_) ?_ ?_
         rotate_left 1
         · simp only [resV, ev, put_some, reduceIte, Nat.reduceEqDiff, Option.map_some, *]; rfl)
      | (with_reducible refine isDesk_ok _ ?_ ?_ _ _ _ ?_ ?_ ?_ ?_
         rotate_left 2
         · first | assumption | exact Sl.old (by assumption) _ | ((try (simp only [deskV, deskL, mset_some, mset_none, set_at, set_at0, List.set_cons_succ, List.set_cons_zero, List.append_assoc, List.cons_append, List.nil_append, List.length_append, List.length_cons, List.length_nil, Nat.zero_add, Nat.add_zero, Nat.reduceAdd, Nat.add_assoc])); first | exact Sl.old (by assumption) _ | exact sl_nilints | exact sl_nilitems | (refine sl_ints (Nat.le_refl _) ?_; exact rfl) | (refine sl_items (Nat.le_refl _) ?_; exact rfl) | (refine sl_ints0 (Nat.le_refl _) ?_; exact rfl) | (refine sl_items0 (Nat.le_refl _) ?_; exact rfl))
         · first | assumption | exact Sl.old (by assumption) _ | ((try (simp only [deskV, deskL, mset_some, mset_none, set_at, set_at0, List.set_cons_succ, List.set_cons_zero, List.append_assoc, List.cons_append, List.nil_append, List.length_append, List.length_cons, List.length_nil, Nat.zero_add, Nat.add_zero, Nat.reduceAdd, Nat.add_assoc])); first | exact Sl.old (by assumption) _ | exact sl_nilints | exact sl_nilitems | (refine sl_ints (Nat.le_refl _) ?_; exact rfl) | (refine sl_items (Nat.le_refl _) ?_; exact rfl) | (refine sl_ints0 (Nat.le_refl _) ?_; exact rfl) | (refine sl_items0 (Nat.le_refl _) ?_; exact rfl))
         · first | omega | (simp only [List.length_nil]; omega)
         · first | omega | (simp only [List.length_nil]; omega)
         )
      | (with_reducible refine isPerson_ok _ _ ?_ _ _ _ ?_ ?_ ?_
         rotate_left 1
         · first | assumption | exact Sl.old (by assumption) _
         · assumption
         · assumption
         )
      | rintro _ _ ⟨rfl, rfl⟩
      )
    exact list_canon (l := []) (App.nil _ _ _)

def heldP (who : Int) (x : Item) : Bool := decide (2 ≤ x.state ∧ x.state ≤ 3) && decide (x.who = who)
def offerP (people : List Int) (who : Int) (x : Item) : Bool := decide (x.state = 1) && roleM (people.getD who.toNat 0) x.role

theorem heldBy1_ok (who : Int) (x : Item) (h : Heap) (id : Nat) (hb0 : ∀ l, getC (h ++ l) id 0 = some (.int .i64 who)) :
    ACalls Try.prog 0 99 #[.agg x.cells.toArray, .pointer (some ⟨id, 0, none⟩)] h fun v h' => v = .bool (heldP who x) ∧ h' = h := by
  refine acalls_pure (.inl rfl) ?_
  refine acalls_fn Try.func99 rfl Try.ntmps99 (by simp) (by dsimp only [Try.f99]) ?_
  repeat' (first
    | ((with_reducible refine eq_go ?_); simp only [stp, ev, put_some, put_none, argT_list, List.getD_cons_zero, List.getD_cons_succ, reduceIte, Nat.reduceEqDiff, Option.map_some, Array.map_empty, List.map_toArray, List.map_cons, List.map_nil, List.append_toArray, Array.append_empty, Array.empty_append, List.nil_append, List.append_nil, and_self, if_true, decide_true, decide_false, Int.toNat_natCast, Int.natCast_nonneg, List.length_map, binV_add, binV_sub, binV_and, binV_shr, binV_shl, binV_str_eql, binV_str_neq, binV_mul, binV_eql, binV_neq, binV_lss, binV_leq, binV_gtr, binV_geq, unV_not, Bool.not_true, Bool.not_false, Bool.cond_true, Bool.cond_false, ldv, fldA, blt, lenV, List.size_toArray, List.length_cons, List.length_nil, Nat.zero_add, Array.getD_eq_getD_getElem?, List.getElem?_toArray, List.getElem?_cons_zero, List.getElem?_cons_succ, Option.getD_some, Option.isSome_some, Nat.add_assoc, List.toList_toArray, eq_self, Option.bind_some, List.append_assoc, List.cons_append, List.length_append, List.length_cons, List.length_nil, Nat.zero_add, Nat.add_zero, Nat.reduceAdd, Nat.reduceMul, Nat.reduceLeDiff, mset_some, mset_none, set_at, set_at0, getC_at, getC_at0, getC_zero, getC_succ, loadCs_at, loadCs_at0, loadCs_zero, loadCs_succ, setCs_at, setCs_at0, setCs_zero, setCs_succ, splice, List.set_cons_succ, List.set_cons_zero, List.getElem?_cons_zero, List.getElem?_cons_succ, List.drop_zero, List.drop_succ_cons, List.take_succ_cons, List.take_zero, newB, vcs, flat_int, flat_bool, flat_string, flat_slice, flat_pointer, flat_func, flat_nilFunc, List.all_cons, List.all_nil, Bool.and_true, Bool.and_self, Ty.ld3, Ty.sz3, Ty.zc3, Ty.by3, Ty.ld77, Ty.sz77, Ty.zc77, Ty.by77, Ty.fl77_0, Ty.fl77_1, Ty.fl77_2, Ty.fl77_3, Ty.fl77_4, Ty.fl77_5, Item.cells_length, Item.cells_flat, Item.cells_take, Item.get3, Item.get4, *]; rfl)
    | (with_reducible refine aw_then ?_) | (with_reducible refine aw_skip ?_) | (with_reducible refine aw_ret ?_) | (with_reducible refine aw_exit ?_) | (with_reducible refine aw_block ?_) | (with_reducible refine xr_reg (by decide +kernel) ?_)
    | (with_reducible refine xr_nil ?_) | (with_reducible refine k_norm ?_) | (with_reducible refine k_ret ?_) | (with_reducible refine k_exit ?_) | (with_reducible refine b_norm ?_) | (with_reducible refine b_ret ?_) | (with_reducible refine b_exit ?_) | (with_reducible refine b_past (by decide) ?_)
    | (refine xr_cl (f := ?_) (fs := ?_) (cs := ?_) (args := ?_) (K := ?_) ?_ ?_ ?_ ?_ ?_
       rotate_left 5
       · simp only [ev]; rfl
       · first | with_reducible exact Ty.ok92)
    | (refine xr_gcl (f := ?_) (fs := ?_) (cs := ?_) (args := ?_) (K := ?_) (by exact rfl) ?_ ?_ ?_ ?_ ?_ ?_
       rotate_left 5
       · simp only [ev, put_some, reduceIte, Nat.reduceEqDiff, Bool.not_true, Bool.not_false, *]
       · simp only [ev]; rfl
       · first | with_reducible exact Ty.ok92)
    | (refine xr_do (v := ?_) (h' := ?_) (by exact rfl) ?_ ?_; rotate_left 2)
    | (refine xr_st (v := ?_) (h' := ?_) (by exact rfl) ?_ ?_; rotate_left 2)
    | (refine xr_gdo (v := ?_) (h' := ?_) (by exact rfl) (by exact rfl) ?_ ?_ ?_
       rotate_left 2
       · simp only [ev, put_some, reduceIte, Nat.reduceEqDiff, Bool.not_true, Bool.not_false, *])
    | (refine xr_gst (v := ?_) (h' := ?_) (by exact rfl) (by exact rfl) ?_ ?_ ?_
       rotate_left 2
       · simp only [ev, put_some, reduceIte, Nat.reduceEqDiff, Bool.not_true, Bool.not_false, *])
    | (refine xr_goff (by exact rfl) ?_ ?_
       · simp only [ev, put_some, reduceIte, Nat.reduceEqDiff, Bool.not_true, Bool.not_false, *])
    | (refine xr_gsoff (by exact rfl) ?_ ?_
       · simp only [ev, put_some, reduceIte, Nat.reduceEqDiff, Bool.not_true, Bool.not_false, *])
    | (refine xr_gund (by exact rfl) ?_ ?_
       · simp only [ev, put_some, reduceIte, Nat.reduceEqDiff, Bool.not_true, Bool.not_false, *])
    | (refine xr_gsund (by exact rfl) ?_ ?_
       · simp only [ev, put_some, reduceIte, Nat.reduceEqDiff, Bool.not_true, Bool.not_false, *])
    | (refine xr_gif (b := ?_) (by exact rfl) ?_ (fun hb => ?_) (fun hb => ?_)
       rotate_left 1
       · simp only [ev, put_some, reduceIte, Nat.reduceEqDiff, Bool.not_true, Bool.not_false, *]; rfl)
    | (refine aw_ift (by decide) ?_ ?_
       · simp only [ev, put_some, reduceIte, Nat.reduceEqDiff, *])
    | (refine aw_iff (by decide) ?_ ?_
       · simp only [ev, put_some, reduceIte, Nat.reduceEqDiff, *])
    | (refine aw_if (b := ?_) (by decide) ?_ (fun hb => ?_) (fun hb => ?_)
       rotate_left 1
       · simp only [ev, put_some, reduceIte, Nat.reduceEqDiff, *]; rfl)
    | (refine r_ret (vs := ?_) ?_ ?_
       rotate_left 1
       · simp only [resV, ev, put_some, reduceIte, Nat.reduceEqDiff, Option.map_some, *]; rfl)
    | (with_reducible exact within_ok _ _ _ _)
    | rintro _ _ ⟨rfl, rfl⟩
    )
  all_goals refine ⟨?_, _, rfl⟩
  all_goals first | (simp_all [oneOf, heldP]; done) | (simp_all [oneOf, heldP]; intros; omega)

theorem listV_app (n : Nat) (Bs : Heap) (l : List Int) : App n (Bs ++ listL l) (listV (n + Bs.length) l) 1 (ints l).flatten l.length := by
  by_cases hl : l = []
  · subst hl; exact App.nil _ _ _
  · simp only [listV, listL, if_neg hl]
    refine .inr ⟨fun q => hl (List.length_eq_zero_iff.1 q), ints_flen l, Bs.length, rfl, ?_⟩
    rw [List.getElem?_append_right (Nat.le_refl _), Nat.sub_self]; rfl

theorem implHeldBy_ok (now who : Int) (people : List Int) (items : List Item) (vp vi : Value) (h : Heap) (hp : Sl h vp 1 (people.map fun n => [.int .i64 n])) (hi : Sl h vi 6 (items.map Item.cells))
    (hl : people.length ≤ 1048576) (hl2 : items.length ≤ 1048576) :
    ACalls Try.prog 0 50 #[.agg #[.int .i64 now, vp, vi], .int .i64 who] h
    fun v h' => v = .tuple #[listV h.length (withP now people items who (heldP who)), .bool (personOk now people items who)] ∧ h' = h ++ listL (withP now people items who (heldP who)) := by
  refine acalls_canon _ _ ?_
  have hf := hp.flat
  have hf2 := hi.flat
  refine acalls_fn Try.func50 rfl Try.ntmps50 (by simp) (by dsimp only [Try.f50]) ?_
  repeat' (first
    | ((with_reducible refine eq_go ?_); simp only [stp, ev, put_some, put_none, argT_list, List.getD_cons_zero, List.getD_cons_succ, reduceIte, Nat.reduceEqDiff, Option.map_some, Array.map_empty, List.map_toArray, List.map_cons, List.map_nil, List.append_toArray, Array.append_empty, Array.empty_append, List.nil_append, List.append_nil, and_self, if_true, decide_true, decide_false, Int.toNat_natCast, Int.natCast_nonneg, List.length_map, binV_add, binV_sub, binV_and, binV_shr, binV_shl, binV_str_eql, binV_str_neq, binV_mul, binV_eql, binV_neq, binV_lss, binV_leq, binV_gtr, binV_geq, unV_not, Bool.not_true, Bool.not_false, Bool.cond_true, Bool.cond_false, ldv, blt, lenV, List.size_toArray, List.length_cons, List.length_nil, Nat.zero_add, Array.getD_eq_getD_getElem?, List.getElem?_toArray, List.getElem?_cons_zero, List.getElem?_cons_succ, Option.getD_some, Option.isSome_some, Nat.add_assoc, List.toList_toArray, eq_self, Option.bind_some, List.append_assoc, List.cons_append, List.length_append, List.length_cons, List.length_nil, Nat.zero_add, Nat.add_zero, Nat.reduceAdd, Nat.reduceMul, Nat.reduceLeDiff, mset_some, mset_none, set_at, set_at0, getC_at, getC_at0, getC_zero, getC_succ, loadCs_at, loadCs_at0, loadCs_zero, loadCs_succ, setCs_at, setCs_at0, setCs_zero, setCs_succ, splice, List.set_cons_succ, List.set_cons_zero, List.getElem?_cons_zero, List.getElem?_cons_succ, List.drop_zero, List.drop_succ_cons, List.take_succ_cons, List.take_zero, newB, vcs, flat_int, flat_bool, flat_string, flat_slice, flat_pointer, flat_func, flat_nilFunc, List.all_cons, List.all_nil, Bool.and_true, Bool.and_self, Ty.ld3, Ty.sz3, Ty.zc3, Ty.by3, Ty.ld24, Ty.sz24, Ty.sl24, Ty.zc24, Ty.by24, Ty.ld56, Ty.sz56, Ty.sl56, Ty.zc56, Ty.by56, Ty.ld58, Ty.sz58, Ty.zc58, Ty.by58, Ty.ld77, Ty.sz77, Ty.zc77, Ty.by77, Ty.ld119, Ty.sz119, Ty.zc119, Ty.by119, *]; rfl)
    | (with_reducible refine aw_then ?_) | (with_reducible refine aw_skip ?_) | (with_reducible refine aw_ret ?_) | (with_reducible refine aw_exit ?_) | (with_reducible refine aw_block ?_) | (with_reducible refine xr_reg (by decide +kernel) ?_)
    | (with_reducible refine xr_nil ?_) | (with_reducible refine k_norm ?_) | (with_reducible refine k_ret ?_) | (with_reducible refine k_exit ?_) | (with_reducible refine b_norm ?_) | (with_reducible refine b_ret ?_) | (with_reducible refine b_exit ?_) | (with_reducible refine b_past (by decide) ?_)
    | (refine xr_cl (f := ?_) (fs := ?_) (cs := ?_) (args := ?_) (K := ?_) ?_ ?_ ?_ ?_ ?_
       rotate_left 5
       · simp only [ev]; rfl
       · first | with_reducible exact Ty.ok98)
    | (refine xr_do (v := ?_) (h' := ?_) (by exact rfl) ?_ ?_; rotate_left 2)
    | (refine xr_st (v := ?_) (h' := ?_) (by exact rfl) ?_ ?_; rotate_left 2)
    | (refine aw_ift (by decide) ?_ ?_
       · simp only [ev, put_some, reduceIte, Nat.reduceEqDiff, *])
    | (refine aw_iff (by decide) ?_ ?_
       · simp only [ev, put_some, reduceIte, Nat.reduceEqDiff, *])
    | (refine aw_if (b := ?_) (by decide) ?_ (fun hb => ?_) (fun hb => ?_)
       rotate_left 1
       · simp only [ev, put_some, reduceIte, Nat.reduceEqDiff, *]; rfl)
    | (refine r_ret (vs := ?_) ?_ ?_
       rotate_left 1
       · simp only [resV, ev, put_some, reduceIte, Nat.reduceEqDiff, Option.map_some, *]; rfl)
    | (with_reducible refine itemsWith_ok _ _ ?_ ?_ _ _ _ (heldP who) _ _ _ ?_ ?_ ?_ ?_ ?_ ?_
       rotate_left 2
       · first | assumption | exact Sl.old (by assumption) _ | ((try (simp only [deskV, deskL, mset_some, mset_none, set_at, set_at0, List.set_cons_succ, List.set_cons_zero, List.append_assoc, List.cons_append, List.nil_append, List.length_append, List.length_cons, List.length_nil, Nat.zero_add, Nat.add_zero, Nat.reduceAdd, Nat.add_assoc])); first | exact Sl.old (by assumption) _ | exact sl_nilints | exact sl_nilitems | (refine sl_ints (Nat.le_refl _) ?_; exact rfl) | (refine sl_items (Nat.le_refl _) ?_; exact rfl) | (refine sl_ints0 (Nat.le_refl _) ?_; exact rfl) | (refine sl_items0 (Nat.le_refl _) ?_; exact rfl))
       · first | assumption | exact Sl.old (by assumption) _ | ((try (simp only [deskV, deskL, mset_some, mset_none, set_at, set_at0, List.set_cons_succ, List.set_cons_zero, List.append_assoc, List.cons_append, List.nil_append, List.length_append, List.length_cons, List.length_nil, Nat.zero_add, Nat.add_zero, Nat.reduceAdd, Nat.add_assoc])); first | exact Sl.old (by assumption) _ | exact sl_nilints | exact sl_nilitems | (refine sl_ints (Nat.le_refl _) ?_; exact rfl) | (refine sl_items (Nat.le_refl _) ?_; exact rfl) | (refine sl_ints0 (Nat.le_refl _) ?_; exact rfl) | (refine sl_items0 (Nat.le_refl _) ?_; exact rfl))
       · first | omega | (simp only [List.length_nil]; omega)
       · first | omega | (simp only [List.length_nil]; omega)
       · exact Ty.ok99
       · exact fun _ L x hx => heldBy1_ok who x _ _ (fun l => by simp only [List.append_assoc, List.cons_append, List.nil_append, getC_at, getC_at0, getC_zero, getC_succ]; rfl)
       )
    | rintro _ _ ⟨rfl, rfl⟩
    )
  exact list_canon (listV_app h.length [_, _] _)

theorem offersFor1_ok (now who : Int) (people : List Int) (vp vi : Value) (x : Item) (h : Heap) (id id2 : Nat) (hb0 : ∀ l, loadCs (h ++ l) id 0 3 = some [.int .i64 now, vp, vi]) (hb1 : ∀ l, getC (h ++ l) id2 0 = some (.int .i64 who))
    (hp : Sl h vp 1 (people.map fun n => [.int .i64 n])) (hf2 : flat vi = true) (hw1 : decide (0 ≤ who ∧ who ≤ (people.length : Int) - 1) = true) (hr : 0 ≤ x.role) :
    ACalls Try.prog 0 100 #[.agg x.cells.toArray, .pointer (some ⟨id, 0, none⟩), .pointer (some ⟨id2, 0, none⟩)] h fun v h' => v = .bool (offerP people who x) ∧ h' = h := by
  refine acalls_pure (.inl rfl) ?_
  have hf := hp.flat
  refine acalls_fn Try.func100 rfl Try.ntmps100 (by simp) (by dsimp only [Try.f100]) ?_
  repeat' (first
    | ((with_reducible refine eq_go ?_); simp only [stp, ev, put_some, put_none, argT_list, List.getD_cons_zero, List.getD_cons_succ, reduceIte, Nat.reduceEqDiff, Option.map_some, Array.map_empty, List.map_toArray, List.map_cons, List.map_nil, List.append_toArray, Array.append_empty, Array.empty_append, List.nil_append, List.append_nil, and_self, if_true, decide_true, decide_false, Int.toNat_natCast, Int.natCast_nonneg, List.length_map, binV_add, binV_sub, binV_and, binV_shr, binV_shl, binV_str_eql, binV_str_neq, binV_mul, binV_eql, binV_neq, binV_lss, binV_leq, binV_gtr, binV_geq, unV_not, Bool.not_true, Bool.not_false, Bool.cond_true, Bool.cond_false, ldv, fldA, blt, lenV, List.size_toArray, List.length_cons, List.length_nil, Nat.zero_add, Array.getD_eq_getD_getElem?, List.getElem?_toArray, List.getElem?_cons_zero, List.getElem?_cons_succ, Option.getD_some, Option.isSome_some, Nat.add_assoc, List.toList_toArray, eq_self, Option.bind_some, List.append_assoc, List.cons_append, List.length_append, List.length_cons, List.length_nil, Nat.zero_add, Nat.add_zero, Nat.reduceAdd, Nat.reduceMul, Nat.reduceLeDiff, mset_some, mset_none, set_at, set_at0, getC_at, getC_at0, getC_zero, getC_succ, loadCs_at, loadCs_at0, loadCs_zero, loadCs_succ, setCs_at, setCs_at0, setCs_zero, setCs_succ, splice, List.set_cons_succ, List.set_cons_zero, List.getElem?_cons_zero, List.getElem?_cons_succ, List.drop_zero, List.drop_succ_cons, List.take_succ_cons, List.take_zero, newB, vcs, flat_int, flat_bool, flat_string, flat_slice, flat_pointer, flat_func, flat_nilFunc, List.all_cons, List.all_nil, Bool.and_true, Bool.and_self, Ty.ld3, Ty.sz3, Ty.zc3, Ty.by3, Ty.ld24, Ty.sz24, Ty.sl24, Ty.zc24, Ty.by24, Ty.ld56, Ty.sz56, Ty.sl56, Ty.zc56, Ty.by56, Ty.ld58, Ty.sz58, Ty.zc58, Ty.by58, Ty.fl58_0, Ty.fl58_1, Ty.fl58_2, Ty.ld77, Ty.sz77, Ty.zc77, Ty.by77, Ty.fl77_0, Ty.fl77_1, Ty.fl77_2, Ty.fl77_3, Ty.fl77_4, Ty.fl77_5, Item.cells_length, Item.cells_flat, Item.cells_take, Item.get3, Item.get2, *]; rfl)
    | (with_reducible refine aw_then ?_) | (with_reducible refine aw_skip ?_) | (with_reducible refine aw_ret ?_) | (with_reducible refine aw_exit ?_) | (with_reducible refine aw_block ?_) | (with_reducible refine xr_reg (by decide +kernel) ?_)
    | (with_reducible refine xr_nil ?_) | (with_reducible refine k_norm ?_) | (with_reducible refine k_ret ?_) | (with_reducible refine k_exit ?_) | (with_reducible refine b_norm ?_) | (with_reducible refine b_ret ?_) | (with_reducible refine b_exit ?_) | (with_reducible refine b_past (by decide) ?_)
    | (refine xr_cl (f := ?_) (fs := ?_) (cs := ?_) (args := ?_) (K := ?_) ?_ ?_ ?_ ?_ ?_
       rotate_left 5
       · simp only [ev]; rfl
       · first | with_reducible exact Ty.ok93)
    | (refine xr_gcl (f := ?_) (fs := ?_) (cs := ?_) (args := ?_) (K := ?_) (by exact rfl) ?_ ?_ ?_ ?_ ?_ ?_
       rotate_left 5
       · simp only [ev, put_some, reduceIte, Nat.reduceEqDiff, Bool.not_true, Bool.not_false, *]
       · simp only [ev]; rfl
       · first | with_reducible exact Ty.ok93)
    | (refine xr_do (v := ?_) (h' := ?_) (by exact rfl) ?_ ?_; rotate_left 2)
    | (refine xr_st (v := ?_) (h' := ?_) (by exact rfl) ?_ ?_; rotate_left 2)
    | (refine xr_gdo (v := ?_) (h' := ?_) (by exact rfl) (by exact rfl) ?_ ?_ ?_
       rotate_left 2
       · simp only [ev, put_some, reduceIte, Nat.reduceEqDiff, Bool.not_true, Bool.not_false, *])
    | (refine xr_gst (v := ?_) (h' := ?_) (by exact rfl) (by exact rfl) ?_ ?_ ?_
       rotate_left 2
       · simp only [ev, put_some, reduceIte, Nat.reduceEqDiff, Bool.not_true, Bool.not_false, *])
    | (refine xr_goff (by exact rfl) ?_ ?_
       · simp only [ev, put_some, reduceIte, Nat.reduceEqDiff, Bool.not_true, Bool.not_false, *])
    | (refine xr_gsoff (by exact rfl) ?_ ?_
       · simp only [ev, put_some, reduceIte, Nat.reduceEqDiff, Bool.not_true, Bool.not_false, *])
    | (refine xr_gund (by exact rfl) ?_ ?_
       · simp only [ev, put_some, reduceIte, Nat.reduceEqDiff, Bool.not_true, Bool.not_false, *])
    | (refine xr_gsund (by exact rfl) ?_ ?_
       · simp only [ev, put_some, reduceIte, Nat.reduceEqDiff, Bool.not_true, Bool.not_false, *])
    | (refine xr_gif (b := ?_) (by exact rfl) ?_ (fun hb => ?_) (fun hb => ?_)
       rotate_left 1
       · simp only [ev, put_some, reduceIte, Nat.reduceEqDiff, Bool.not_true, Bool.not_false, *]; rfl)
    | (refine aw_ift (by decide) ?_ ?_
       · simp only [ev, put_some, reduceIte, Nat.reduceEqDiff, *])
    | (refine aw_iff (by decide) ?_ ?_
       · simp only [ev, put_some, reduceIte, Nat.reduceEqDiff, *])
    | (refine aw_if (b := ?_) (by decide) ?_ (fun hb => ?_) (fun hb => ?_)
       rotate_left 1
       · simp only [ev, put_some, reduceIte, Nat.reduceEqDiff, *]; rfl)
    | (refine r_ret (vs := ?_) ?_ ?_
       rotate_left 1
       · simp only [resV, ev, put_some, reduceIte, Nat.reduceEqDiff, Option.map_some, *]; rfl)
    | (with_reducible refine hasRole_ok _ _ _ ?_ _ _ _ ?_ ?_ ?_ ?_
       rotate_left 1
       · first | assumption | exact Sl.old (by assumption) _
       · assumption
       · grind
       · grind
       )
    | rintro _ _ ⟨rfl, rfl⟩
    )
  all_goals refine ⟨?_, _, rfl⟩
  all_goals simp_all [oneOf, offerP]

theorem personOk_who {now who : Int} {people : List Int} {items : List Item} (h : personOk now people items who = true) : decide (0 ≤ who ∧ who ≤ (people.length : Int) - 1) = true := by
  simp only [personOk, Bool.and_eq_true] at h; exact h.2
theorem personOk_role {now who : Int} {people : List Int} {items : List Item} (h : personOk now people items who = true) {x : Item} (hx : x ∈ items) : 0 ≤ x.role := by
  simp only [personOk, deskOk, Bool.and_eq_true, List.all_eq_true] at h
  have := h.1.2.2.2.2 x hx
  simp only [itemOk, Bool.and_eq_true, decide_eq_true_eq] at this
  omega

theorem implOffersFor_ok (now who : Int) (people : List Int) (items : List Item) (vp vi : Value) (h : Heap) (hp : Sl h vp 1 (people.map fun n => [.int .i64 n])) (hi : Sl h vi 6 (items.map Item.cells))
    (hl : people.length ≤ 1048576) (hl2 : items.length ≤ 1048576) :
    ACalls Try.prog 0 53 #[.agg #[.int .i64 now, vp, vi], .int .i64 who] h
    fun v h' => v = .tuple #[listV h.length (withP now people items who (offerP people who)), .bool (personOk now people items who)] ∧ h' = h ++ listL (withP now people items who (offerP people who)) := by
  refine acalls_canon _ _ ?_
  have hf := hp.flat
  have hf2 := hi.flat
  refine acalls_fn Try.func53 rfl Try.ntmps53 (by simp) (by dsimp only [Try.f53]) ?_
  repeat' (first
    | ((with_reducible refine eq_go ?_); simp only [stp, ev, put_some, put_none, argT_list, List.getD_cons_zero, List.getD_cons_succ, reduceIte, Nat.reduceEqDiff, Option.map_some, Array.map_empty, List.map_toArray, List.map_cons, List.map_nil, List.append_toArray, Array.append_empty, Array.empty_append, List.nil_append, List.append_nil, and_self, if_true, decide_true, decide_false, Int.toNat_natCast, Int.natCast_nonneg, List.length_map, binV_add, binV_sub, binV_and, binV_shr, binV_shl, binV_str_eql, binV_str_neq, binV_mul, binV_eql, binV_neq, binV_lss, binV_leq, binV_gtr, binV_geq, unV_not, Bool.not_true, Bool.not_false, Bool.cond_true, Bool.cond_false, ldv, blt, lenV, List.size_toArray, List.length_cons, List.length_nil, Nat.zero_add, Array.getD_eq_getD_getElem?, List.getElem?_toArray, List.getElem?_cons_zero, List.getElem?_cons_succ, Option.getD_some, Option.isSome_some, Nat.add_assoc, List.toList_toArray, eq_self, Option.bind_some, List.append_assoc, List.cons_append, List.length_append, List.length_cons, List.length_nil, Nat.zero_add, Nat.add_zero, Nat.reduceAdd, Nat.reduceMul, Nat.reduceLeDiff, mset_some, mset_none, set_at, set_at0, getC_at, getC_at0, getC_zero, getC_succ, loadCs_at, loadCs_at0, loadCs_zero, loadCs_succ, setCs_at, setCs_at0, setCs_zero, setCs_succ, splice, List.set_cons_succ, List.set_cons_zero, List.getElem?_cons_zero, List.getElem?_cons_succ, List.drop_zero, List.drop_succ_cons, List.take_succ_cons, List.take_zero, newB, vcs, flat_int, flat_bool, flat_string, flat_slice, flat_pointer, flat_func, flat_nilFunc, List.all_cons, List.all_nil, Bool.and_true, Bool.and_self, Ty.ld3, Ty.sz3, Ty.zc3, Ty.by3, Ty.ld24, Ty.sz24, Ty.sl24, Ty.zc24, Ty.by24, Ty.ld56, Ty.sz56, Ty.sl56, Ty.zc56, Ty.by56, Ty.ld58, Ty.sz58, Ty.zc58, Ty.by58, Ty.ld77, Ty.sz77, Ty.zc77, Ty.by77, Ty.ld119, Ty.sz119, Ty.zc119, Ty.by119, *]; rfl)
    | (with_reducible refine aw_then ?_) | (with_reducible refine aw_skip ?_) | (with_reducible refine aw_ret ?_) | (with_reducible refine aw_exit ?_) | (with_reducible refine aw_block ?_) | (with_reducible refine xr_reg (by decide +kernel) ?_)
    | (with_reducible refine xr_nil ?_) | (with_reducible refine k_norm ?_) | (with_reducible refine k_ret ?_) | (with_reducible refine k_exit ?_) | (with_reducible refine b_norm ?_) | (with_reducible refine b_ret ?_) | (with_reducible refine b_exit ?_) | (with_reducible refine b_past (by decide) ?_)
    | (refine xr_cl (f := ?_) (fs := ?_) (cs := ?_) (args := ?_) (K := ?_) ?_ ?_ ?_ ?_ ?_
       rotate_left 5
       · simp only [ev]; rfl
       · first | with_reducible exact Ty.ok98)
    | (refine xr_do (v := ?_) (h' := ?_) (by exact rfl) ?_ ?_; rotate_left 2)
    | (refine xr_st (v := ?_) (h' := ?_) (by exact rfl) ?_ ?_; rotate_left 2)
    | (refine aw_ift (by decide) ?_ ?_
       · simp only [ev, put_some, reduceIte, Nat.reduceEqDiff, *])
    | (refine aw_iff (by decide) ?_ ?_
       · simp only [ev, put_some, reduceIte, Nat.reduceEqDiff, *])
    | (refine aw_if (b := ?_) (by decide) ?_ (fun hb => ?_) (fun hb => ?_)
       rotate_left 1
       · simp only [ev, put_some, reduceIte, Nat.reduceEqDiff, *]; rfl)
    | (refine r_ret (vs := ?_) ?_ ?_
       rotate_left 1
       · simp only [resV, ev, put_some, reduceIte, Nat.reduceEqDiff, Option.map_some, *]; rfl)
    | (with_reducible refine itemsWith_ok _ _ ?_ ?_ _ _ _ (offerP people who) _ _ _ ?_ ?_ ?_ ?_ ?_ ?_
       rotate_left 2
       · first | assumption | exact Sl.old (by assumption) _ | ((try (simp only [deskV, deskL, mset_some, mset_none, set_at, set_at0, List.set_cons_succ, List.set_cons_zero, List.append_assoc, List.cons_append, List.nil_append, List.length_append, List.length_cons, List.length_nil, Nat.zero_add, Nat.add_zero, Nat.reduceAdd, Nat.add_assoc])); first | exact Sl.old (by assumption) _ | exact sl_nilints | exact sl_nilitems | (refine sl_ints (Nat.le_refl _) ?_; exact rfl) | (refine sl_items (Nat.le_refl _) ?_; exact rfl) | (refine sl_ints0 (Nat.le_refl _) ?_; exact rfl) | (refine sl_items0 (Nat.le_refl _) ?_; exact rfl))
       · first | assumption | exact Sl.old (by assumption) _ | ((try (simp only [deskV, deskL, mset_some, mset_none, set_at, set_at0, List.set_cons_succ, List.set_cons_zero, List.append_assoc, List.cons_append, List.nil_append, List.length_append, List.length_cons, List.length_nil, Nat.zero_add, Nat.add_zero, Nat.reduceAdd, Nat.add_assoc])); first | exact Sl.old (by assumption) _ | exact sl_nilints | exact sl_nilitems | (refine sl_ints (Nat.le_refl _) ?_; exact rfl) | (refine sl_items (Nat.le_refl _) ?_; exact rfl) | (refine sl_ints0 (Nat.le_refl _) ?_; exact rfl) | (refine sl_items0 (Nat.le_refl _) ?_; exact rfl))
       · first | omega | (simp only [List.length_nil]; omega)
       · first | omega | (simp only [List.length_nil]; omega)
       · exact Ty.ok100
       · exact fun hok L x hx => offersFor1_ok now who people _ _ x _ _ _ (fun l => by simp only [List.append_assoc, List.cons_append, List.nil_append, loadCs_at, loadCs_at0, loadCs_zero, loadCs_succ]; rfl) (fun l => by simp only [List.append_assoc, List.cons_append, List.nil_append, getC_at, getC_at0, getC_zero, getC_succ]; rfl) ((Sl.old (Sl.old hp _) _)) hf2 (personOk_who hok) (personOk_role hok hx)
       )
    | rintro _ _ ⟨rfl, rfl⟩
    )
  exact list_canon (listV_app h.length [_, _] _)
end Go.Proofs.Ytodpfcgjlcecmaa.Am

