/- Walks of the plays of groups. Conditions: none. -/
import Derived.Test.YtiddnhhjlipebaaW21
namespace Go.Proofs.Ytiddnhhjlipebaa.Am
open Go Go.Proofs
set_option linter.unusedVariables false
set_option linter.unusedSimpArgs false
set_option maxRecDepth 100000
set_option maxHeartbeats 8000000

theorem Grp.cells_length (g : Grp) : g.cells.length = 6 := rfl
theorem Grp.cells_flat (g : Grp) : g.cells.all flat = true := rfl
theorem Grp.cells_take (g : Grp) : g.cells.take 6 = g.cells := rfl
theorem Grp.cells_splice (g : Grp) (a b c d e f : Value) : splice [a, b, c, d, e, f] 0 g.cells = g.cells := rfl
theorem Grp.cells_splice2 (g g' : Grp) : splice g.cells 0 g'.cells = g'.cells := rfl

/-- One step of a play. -/
def playS (s : Grp × List Bool) (k : Int) : Grp × List Bool := (if (stepG s.1 k).2 then (stepG s.1 k).1 else s.1, s.2 ++ [(stepG s.1 k).2])
def playG (g : Grp) (kinds : List Int) : Grp × List Bool := kinds.foldl playS (g, [])

theorem playG_snoc (g : Grp) {l : List Int} {k : Nat} (hk : k < l.length) : playG g (l.take (k + 1)) = playS (playG g (l.take k)) l[k] := by
  rw [← List.take_append_getElem hk, playG, List.foldl_append]; rfl

theorem goodG_step {g : Grp} {k : Int} (h : goodG g = true) (hs : (stepG g k).2 = true) : goodG (stepG g k).1 = true := by
  unfold stepG at hs ⊢
  simp only [goodG, decide_eq_true_eq] at h ⊢
  split at hs
  · simp at hs
  · rename_i ho
    rw [if_neg ho]
    simp only [overG, Bool.or_eq_true, decide_eq_true_eq, not_or] at ho
    split at hs
    · rename_i q; rw [if_pos q]; simp only; omega
    · rename_i q; rw [if_neg q]
      split at hs
      · rename_i q2; rw [if_pos q2]; simp only; omega
      · rename_i q2; rw [if_neg q2]
        split at hs
        · rename_i q3; rw [if_pos q3]; simp only; omega
        · simp at hs

def bools (l : List Bool) : List Value := l.map .bool
theorem bools_af (l : List Bool) : ∀ x ∈ bools l, af1 x = true := by
  intro x hx; obtain ⟨n, _, rfl⟩ := List.mem_map.1 hx; rfl
theorem bools_len (l : List Bool) : (bools l).length = l.length := by simp [bools]

def playOk (g : Grp) (kinds : List Int) : Bool := goodG g && decide ((kinds.length : Int) ≤ 60)

theorem playG_inv (g : Grp) (hg : goodG g = true) (kinds : List Int) : ∀ k, k ≤ kinds.length → goodG (playG g (kinds.take k)).1 = true ∧ (playG g (kinds.take k)).2.length = k
  | 0, _ => by simp [playG, hg]
  | k + 1, hk => by
      obtain ⟨h1, h2⟩ := playG_inv g hg kinds k (by omega)
      rw [playG_snoc g (by omega : k < kinds.length)]
      unfold playS
      refine ⟨?_, by simp [h2]⟩
      dsimp only
      by_cases hs : (stepG (playG g (kinds.take k)).1 kinds[k]).2 = true
      · rw [if_pos hs]; exact goodG_step h1 hs
      · rw [if_neg hs]; exact h1

/-- The results of a play: their value, and their block. -/
def playV (n : Nat) (g : Grp) (kinds : List Int) (nn : Bool) : Value :=
  if playOk g kinds then .tuple #[.agg (playG g kinds).1.cells.toArray, if nn && kinds.isEmpty then .slice none 0 0 else .slice (some ⟨n, 0, some 0⟩) kinds.length kinds.length, .bool true]
  else .tuple #[.agg Grp.zero.cells.toArray, .slice none 0 0, .bool false]
def playL (g : Grp) (kinds : List Int) (nn : Bool) : Heap := if playOk g kinds then (if nn && kinds.isEmpty then [] else [⟨2, 1, bools (playG g kinds).2⟩]) else []

def doneC (bs : List Bool) (m : Nat) : List Value := bools bs ++ List.replicate m (.bool false)
theorem doneC_length (bs : List Bool) (m : Nat) : (doneC bs m).length = bs.length + m := by simp [doneC, bools]
theorem doneC_true {bs : List Bool} {k n : Nat} (hk : bs.length = k) (hn : k < n) : (doneC bs (n - k)).set k (.bool true) = doneC (bs ++ [true]) (n - (k + 1)) := by
  unfold doneC
  rw [List.set_append_right _ _ (by rw [bools_len]; omega), bools_len, hk, Nat.sub_self, show n - k = (n - (k + 1)) + 1 from by omega, List.replicate_succ]
  simp [bools]
theorem doneC_false {bs : List Bool} {k n : Nat} (hn : k < n) : doneC bs (n - k) = doneC (bs ++ [false]) (n - (k + 1)) := by
  unfold doneC
  rw [show n - k = (n - (k + 1)) + 1 from by omega, List.replicate_succ]
  simp [bools]
theorem doneC_zero (n : Nat) : zeros [.bool false] n = doneC [] n := by rw [zeros_one]; rfl
theorem doneC_all (bs : List Bool) : doneC bs 0 = bools bs := by simp [doneC]

theorem rv_grp (n : Nat) (L : Heap) (ks : List Nat) (g : Grp) : RV n L ks (.agg g.cells.toArray) (.agg g.cells.toArray) :=
  RVl.agg (l := g.cells) (l' := g.cells) ⟨.plain _ rfl, .plain _ rfl, .plain _ rfl, .plain _ rfl, .plain _ rfl, .plain _ rfl, trivial⟩

theorem playOk_false {g : Grp} {kinds : List Int} (h : playOk g kinds = false) (hg : goodG g = true) : (60 : Int) < kinds.length := by
  simp only [playOk, hg, Bool.true_and, decide_eq_false_iff_not] at h; omega

theorem implPlayGroup_ok (g : Grp) (kinds : List Int) (vk : Value) (h : Heap) (hs : Sl h vk 1 (ints kinds)) (hl : kinds.length ≤ 1048576) :
    ACalls Try.prog 0 18 #[.agg g.cells.toArray, vk] h fun v h' => v = playV h.length g kinds false ∧ h' = h ++ playL g kinds false := by
  refine acalls_canon _ _ ?_
  have hf := hs.flat
  obtain ⟨b, c, rfl, hc, hrow⟩ := id hs
  simp only [List.length_map] at hf hc hs ⊢
  rcases Bool.eq_false_or_eq_true (playOk g kinds) with hok | hok
  · simp only [playV, playL, hok, if_true, Bool.false_and, Bool.false_eq_true, if_false]
    have hg : goodG g = true := by simp only [playOk, Bool.and_eq_true] at hok; exact hok.1
    have h60 : ¬ (60 : Int) < kinds.length := by simp only [playOk, Bool.and_eq_true, decide_eq_true_eq] at hok; omega
    have hmk : mkS Try.prog 26 (h ++ [⟨2, 1, g.cells⟩, ⟨2, 1, [.int .i64 0, .int .i64 0, .int .i64 0, .int .i64 0, .int .i64 0, .bool false]⟩]) (.int .i64 kinds.length) (.int .i64 kinds.length) = _ := mkS_eq Ty.sl26 Ty.zc4 Ty.by4 (n := kinds.length) (by omega) (by omega)
    refine acalls_fn Try.func18 rfl Try.ntmps18 (by simp) (by dsimp only [Try.f18]) ?_
    repeat' (first
      | ((with_reducible refine eq_go ?_); simp only [stp, ev, put_some, put_none, argT_list, List.getD_cons_zero, List.getD_cons_succ, reduceIte, Nat.reduceEqDiff, Option.map_some, Array.map_empty, List.map_toArray, List.map_cons, List.map_nil, List.append_toArray, Array.append_empty, Array.empty_append, List.nil_append, List.append_nil, and_self, if_true, decide_true, decide_false, Int.toNat_natCast, Int.natCast_nonneg, List.length_map, binV_add, binV_sub, binV_and, binV_shr, binV_shl, binV_str_eql, binV_str_neq, binV_mul, binV_eql, binV_neq, binV_lss, binV_leq, binV_gtr, binV_geq, unV_not, Bool.not_true, Bool.not_false, Bool.cond_true, Bool.cond_false, binV_bool_neq, binV_bool_eql, Ty.un4, bld, fillL, vcs, splice, List.getElem?_toArray, List.getElem?_cons_zero, List.getElem?_cons_succ, true_and, List.getElem?_toArray, List.getElem?_cons_zero, List.getElem?_cons_succ, ldv, stv, vcs, idxA, blt, lenV, List.size_toArray, List.length_cons, List.length_nil, Nat.zero_add, Array.getD_eq_getD_getElem?, List.getElem?_toArray, List.getElem?_cons_zero, List.getElem?_cons_succ, Option.getD_some, Option.isSome_some, Nat.add_assoc, List.toList_toArray, eq_self, Option.bind_some, List.append_assoc, List.cons_append, List.length_append, List.length_cons, List.length_nil, Nat.zero_add, Nat.add_zero, Nat.reduceAdd, Nat.reduceMul, Nat.reduceLeDiff, mset_some, mset_none, set_at, set_at0, killL_nil, killL_cons, getC_succ2, getC_succ3, getC_succ4, getC_succ5, getC_succ6, loadCs_succ2, loadCs_succ3, loadCs_succ4, loadCs_succ5, loadCs_succ6, setCs_succ2, setCs_succ3, setCs_succ4, setCs_succ5, setCs_succ6, getC_at, getC_at0, getC_zero, getC_succ, loadCs_at, loadCs_at0, loadCs_zero, loadCs_succ, setCs_at, setCs_at0, setCs_zero, setCs_succ, splice, List.set_cons_succ, List.set_cons_zero, List.getElem?_cons_zero, List.getElem?_cons_succ, List.drop_zero, List.drop_succ_cons, List.take_succ_cons, List.take_zero, newB, vcs, flat_int, flat_bool, flat_string, flat_slice, flat_pointer, flat_func, flat_nilFunc, List.all_cons, List.all_nil, Bool.and_true, Bool.and_self, Ty.ld3, Ty.sz3, Ty.zc3, Ty.by3, Ty.ld4, Ty.sz4, Ty.zc4, Ty.by4, Ty.ld24, Ty.sz24, Ty.sl24, Ty.zc24, Ty.by24, Ty.ld25, Ty.sz25, Ty.zc25, Ty.by25, Ty.pl25, Ty.ld26, Ty.sz26, Ty.sl26, Ty.zc26, Ty.by26, Grp.cells_length, Grp.cells_flat, Grp.cells_take, Grp.cells_splice, Grp.cells_splice2, Nat.mul_one, *]; rfl)
      | (with_reducible refine aw_then ?_) | (with_reducible refine aw_skip ?_) | (with_reducible refine aw_ret ?_) | (with_reducible refine aw_exit ?_) | (with_reducible refine aw_block ?_) | (with_reducible refine xr_reg (by decide +kernel) ?_)
      | (with_reducible refine xr_nil ?_) | (with_reducible refine k_norm ?_) | (with_reducible refine k_ret ?_) | (with_reducible refine k_exit ?_) | (with_reducible refine b_norm ?_) | (with_reducible refine b_ret ?_) | (with_reducible refine b_exit ?_) | (with_reducible refine b_past (by decide) ?_)
      | (refine xr_cl (f := ?_) (fs := ?_) (cs := ?_) (args := ?_) (K := ?_) ?_ ?_ ?_ ?_ ?_
         rotate_left 5
         · simp only [ev]; rfl
         first
         | (· with_reducible exact Ty.ok78
            rotate_left 2
            refine hk_tag 78 ?_
            rotate_right 2)
         | (· with_reducible exact Ty.ok79
            rotate_left 2
            refine hk_tag 79 ?_
            rotate_right 2)
         )
      | (refine xr_gcl (f := ?_) (fs := ?_) (cs := ?_) (args := ?_) (K := ?_) (by exact rfl) ?_ ?_ ?_ ?_ ?_ ?_
         rotate_left 5
         · simp only [ev, put_some, reduceIte, Nat.reduceEqDiff, Bool.not_true, Bool.not_false, *]
         · simp only [ev]; rfl
         first
         | (· with_reducible exact Ty.ok78
            rotate_left 2
            refine hk_tag 78 ?_
            rotate_right 2)
         | (· with_reducible exact Ty.ok79
            rotate_left 2
            refine hk_tag 79 ?_
            rotate_right 2)
         )
      | (refine xr_do (v := ?_) (h' := ?_) (by exact rfl) ?_ ?_; rotate_left 2)
      | (refine xr_st (v := ?_) (h' := ?_) (by exact rfl) ?_ ?_; rotate_left 2)
      | (refine xr_gdo (v := ?_) (h' := ?_) (by exact rfl) (by exact rfl) ?_ ?_ ?_
         rotate_left 2
         · simp only [ev, put_some, reduceIte, Nat.reduceEqDiff, Bool.not_true, Bool.not_false, *])
      | (refine xr_gst (v := ?_) (h' := ?_) (by exact rfl) (by exact rfl) ?_ ?_ ?_
         rotate_left 2
         · simp only [ev, put_some, reduceIte, Nat.reduceEqDiff, Bool.not_true, Bool.not_false, *])
      | (refine xr_goff (by exact rfl) ?_ ?_
         · simp only [ev, put_some, reduceIte, Nat.reduceEqDiff, Bool.not_true, Bool.not_false, *])
      | (refine xr_gsoff (by exact rfl) ?_ ?_
         · simp only [ev, put_some, reduceIte, Nat.reduceEqDiff, Bool.not_true, Bool.not_false, *])
      | (refine xr_gund (by exact rfl) ?_ ?_
         · simp only [ev, put_some, reduceIte, Nat.reduceEqDiff, Bool.not_true, Bool.not_false, *])
      | (refine xr_gsund (by exact rfl) ?_ ?_
         · simp only [ev, put_some, reduceIte, Nat.reduceEqDiff, Bool.not_true, Bool.not_false, *])
      | (refine xr_gif (b := ?_) (by exact rfl) ?_ (fun hb => ?_) (fun hb => ?_)
         rotate_left 1
         · simp only [ev, put_some, reduceIte, Nat.reduceEqDiff, Bool.not_true, Bool.not_false, *]; rfl)
      | (refine aw_ift (by decide) ?_ ?_
         · simp only [ev, put_some, reduceIte, Nat.reduceEqDiff, *])
      | (refine aw_iff (by decide) ?_ ?_
         · simp only [ev, put_some, reduceIte, Nat.reduceEqDiff, *])
      | (refine aw_if (b := ?_) (by decide) ?_ (fun hb => ?_) (fun hb => ?_)
         rotate_left 1
         · simp only [ev, put_some, reduceIte, Nat.reduceEqDiff, *]; rfl)
      | (refine r_ret (vs := ?_) ?_ ?_
         rotate_left 1
         · simp only [resV, oneOf, stp, ev, put_some, put_none, argT_list, List.getD_cons_zero, List.getD_cons_succ, reduceIte, Nat.reduceEqDiff, Option.map_some, Array.map_empty, List.map_toArray, List.map_cons, List.map_nil, List.append_toArray, Array.append_empty, Array.empty_append, List.nil_append, List.append_nil, and_self, if_true, decide_true, decide_false, Int.toNat_natCast, Int.natCast_nonneg, List.length_map, binV_add, binV_sub, binV_and, binV_shr, binV_shl, binV_str_eql, binV_str_neq, binV_mul, binV_eql, binV_neq, binV_lss, binV_leq, binV_gtr, binV_geq, unV_not, Bool.not_true, Bool.not_false, Bool.cond_true, Bool.cond_false, binV_bool_neq, binV_bool_eql, Ty.un4, bld, fillL, vcs, splice, List.getElem?_toArray, List.getElem?_cons_zero, List.getElem?_cons_succ, true_and, List.getElem?_toArray, List.getElem?_cons_zero, List.getElem?_cons_succ, ldv, stv, vcs, idxA, blt, lenV, List.size_toArray, List.length_cons, List.length_nil, Nat.zero_add, Array.getD_eq_getD_getElem?, List.getElem?_toArray, List.getElem?_cons_zero, List.getElem?_cons_succ, Option.getD_some, Option.isSome_some, Nat.add_assoc, List.toList_toArray, eq_self, Option.bind_some, List.append_assoc, List.cons_append, List.length_append, List.length_cons, List.length_nil, Nat.zero_add, Nat.add_zero, Nat.reduceAdd, Nat.reduceMul, Nat.reduceLeDiff, mset_some, mset_none, set_at, set_at0, killL_nil, killL_cons, getC_succ2, getC_succ3, getC_succ4, getC_succ5, getC_succ6, loadCs_succ2, loadCs_succ3, loadCs_succ4, loadCs_succ5, loadCs_succ6, setCs_succ2, setCs_succ3, setCs_succ4, setCs_succ5, setCs_succ6, getC_at, getC_at0, getC_zero, getC_succ, loadCs_at, loadCs_at0, loadCs_zero, loadCs_succ, setCs_at, setCs_at0, setCs_zero, setCs_succ, splice, List.set_cons_succ, List.set_cons_zero, List.getElem?_cons_zero, List.getElem?_cons_succ, List.drop_zero, List.drop_succ_cons, List.take_succ_cons, List.take_zero, newB, vcs, flat_int, flat_bool, flat_string, flat_slice, flat_pointer, flat_func, flat_nilFunc, List.all_cons, List.all_nil, Bool.and_true, Bool.and_self, Ty.ld3, Ty.sz3, Ty.zc3, Ty.by3, Ty.ld4, Ty.sz4, Ty.zc4, Ty.by4, Ty.ld24, Ty.sz24, Ty.sl24, Ty.zc24, Ty.by24, Ty.ld25, Ty.sz25, Ty.zc25, Ty.by25, Ty.pl25, Ty.ld26, Ty.sz26, Ty.sl26, Ty.zc26, Ty.by26, Grp.cells_length, Grp.cells_flat, Grp.cells_take, Grp.cells_splice, Grp.cells_splice2, Nat.mul_one, *]; rfl)
      | (with_reducible exact isGroup_ok _ _)
      | (with_reducible refine stepGroup_ok _ _ _ ?_
         · assumption
         )
      | ((with_reducible refine HkTag.mk (n := 78) ?_); rintro _ _ ⟨rfl, hh⟩; replace hh := hh.symm; subst hh)
      | ((with_reducible refine HkTag.mk (n := 79) ?_); rintro _ _ ⟨rfl, hh⟩; replace hh := hh.symm; subst hh)
      )
    refine aw_for [2, 4, 7, 24, 25] (fun k T h' => ∃ L, h' = h ++ (⟨2, 1, (playG g (kinds.take k)).1.cells⟩ :: ⟨2, 1, [.int .i64 0, .int .i64 0, .int .i64 0, .int .i64 0, .int .i64 0, .bool false]⟩ :: ⟨2, 1, doneC (playG g (kinds.take k)).2 (kinds.length - k)⟩ :: L) ∧ T 26 = .int .i64 k)
      kinds.length (k0 := 0) (Nat.zero_le _) ⟨[], ?_, rfl⟩ ?_
    · rw [doneC_zero]; rfl
    rintro k T h' hk hR ⟨L, rfl, h11⟩
    simp only [List.forall_mem_cons, List.not_mem_nil, false_implies, implies_true, and_true, stp, ev, put_some, put_none, argT_list, List.getD_cons_zero, List.getD_cons_succ, reduceIte, Nat.reduceEqDiff, Option.map_some, Array.map_empty, List.map_toArray, List.map_cons, List.map_nil, List.append_toArray, Array.append_empty, Array.empty_append, List.nil_append, List.append_nil, and_self, if_true, decide_true, decide_false, Int.toNat_natCast, Int.natCast_nonneg, List.length_map, binV_add, binV_sub, binV_and, binV_shr, binV_shl, binV_str_eql, binV_str_neq, binV_mul, binV_eql, binV_neq, binV_lss, binV_leq, binV_gtr, binV_geq, unV_not, Bool.not_true, Bool.not_false, Bool.cond_true, Bool.cond_false] at hR
    obtain ⟨hgk, hlk⟩ := playG_inv g hg kinds k hk
    rcases Nat.lt_or_ge k kinds.length with hkn | hkn
    · have h1 : (k : Int) < kinds.length := by omega
      obtain ⟨a, rfl, hld0⟩ := Sl.row hrow (k := k) (by simpa using hkn)
      rw [List.getElem_map] at hld0
      have hg0 := getC_old (getC_of_load hld0)
      rw [Nat.mul_one] at hg0
      have hsn := playG_snoc g hkn
      generalize playG g (kinds.take k) = s at hgk hlk hsn ⊢
      obtain ⟨gk, bs⟩ := s
      simp only at hgk hlk
      have hdl : (doneC bs (kinds.length - k)).length = kinds.length := by rw [doneC_length]; omega
      have hle : k + 1 ≤ kinds.length := hkn
      have hds := doneC_true (bs := bs) hlk hkn
      have hdf := (doneC_false (bs := bs) hkn).symm
      clear hs hrow hmk
      repeat' (first
        | ((with_reducible refine eq_go ?_); simp only [stp, ev, put_some, put_none, argT_list, List.getD_cons_zero, List.getD_cons_succ, reduceIte, Nat.reduceEqDiff, Option.map_some, Array.map_empty, List.map_toArray, List.map_cons, List.map_nil, List.append_toArray, Array.append_empty, Array.empty_append, List.nil_append, List.append_nil, and_self, if_true, decide_true, decide_false, Int.toNat_natCast, Int.natCast_nonneg, List.length_map, binV_add, binV_sub, binV_and, binV_shr, binV_shl, binV_str_eql, binV_str_neq, binV_mul, binV_eql, binV_neq, binV_lss, binV_leq, binV_gtr, binV_geq, unV_not, Bool.not_true, Bool.not_false, Bool.cond_true, Bool.cond_false, binV_bool_neq, binV_bool_eql, Ty.un4, bld, fillL, vcs, splice, List.getElem?_toArray, List.getElem?_cons_zero, List.getElem?_cons_succ, true_and, List.getElem?_toArray, List.getElem?_cons_zero, List.getElem?_cons_succ, ldv, stv, vcs, idxA, blt, lenV, List.size_toArray, List.length_cons, List.length_nil, Nat.zero_add, Array.getD_eq_getD_getElem?, List.getElem?_toArray, List.getElem?_cons_zero, List.getElem?_cons_succ, Option.getD_some, Option.isSome_some, Nat.add_assoc, List.toList_toArray, eq_self, Option.bind_some, List.append_assoc, List.cons_append, List.length_append, List.length_cons, List.length_nil, Nat.zero_add, Nat.add_zero, Nat.reduceAdd, Nat.reduceMul, Nat.reduceLeDiff, mset_some, mset_none, set_at, set_at0, killL_nil, killL_cons, getC_succ2, getC_succ3, getC_succ4, getC_succ5, getC_succ6, loadCs_succ2, loadCs_succ3, loadCs_succ4, loadCs_succ5, loadCs_succ6, setCs_succ2, setCs_succ3, setCs_succ4, setCs_succ5, setCs_succ6, getC_at, getC_at0, getC_zero, getC_succ, loadCs_at, loadCs_at0, loadCs_zero, loadCs_succ, setCs_at, setCs_at0, setCs_zero, setCs_succ, splice, List.set_cons_succ, List.set_cons_zero, List.getElem?_cons_zero, List.getElem?_cons_succ, List.drop_zero, List.drop_succ_cons, List.take_succ_cons, List.take_zero, newB, vcs, flat_int, flat_bool, flat_string, flat_slice, flat_pointer, flat_func, flat_nilFunc, List.all_cons, List.all_nil, Bool.and_true, Bool.and_self, Ty.ld3, Ty.sz3, Ty.zc3, Ty.by3, Ty.ld4, Ty.sz4, Ty.zc4, Ty.by4, Ty.ld24, Ty.sz24, Ty.sl24, Ty.zc24, Ty.by24, Ty.ld25, Ty.sz25, Ty.zc25, Ty.by25, Ty.pl25, Ty.ld26, Ty.sz26, Ty.sl26, Ty.zc26, Ty.by26, Grp.cells_length, Grp.cells_flat, Grp.cells_take, Grp.cells_splice, Grp.cells_splice2, Nat.mul_one, *]; rfl)
        | (with_reducible refine aw_then ?_) | (with_reducible refine aw_skip ?_) | (with_reducible refine aw_ret ?_) | (with_reducible refine aw_exit ?_) | (with_reducible refine aw_block ?_) | (with_reducible refine xr_reg (by decide +kernel) ?_)
        | (with_reducible refine xr_nil ?_) | (with_reducible refine k_norm ?_) | (with_reducible refine k_ret ?_) | (with_reducible refine k_exit ?_) | (with_reducible refine b_norm ?_) | (with_reducible refine b_ret ?_) | (with_reducible refine b_exit ?_) | (with_reducible refine b_past (by decide) ?_)
        | (refine xr_cl (f := ?_) (fs := ?_) (cs := ?_) (args := ?_) (K := ?_) ?_ ?_ ?_ ?_ ?_
           rotate_left 5
           · simp only [ev]; rfl
           first
           | (· with_reducible exact Ty.ok78
              rotate_left 2
              refine hk_tag 78 ?_
              rotate_right 2)
           | (· with_reducible exact Ty.ok79
              rotate_left 2
              refine hk_tag 79 ?_
              rotate_right 2)
           )
        | (refine xr_gcl (f := ?_) (fs := ?_) (cs := ?_) (args := ?_) (K := ?_) (by exact rfl) ?_ ?_ ?_ ?_ ?_ ?_
           rotate_left 5
           · simp only [ev, put_some, reduceIte, Nat.reduceEqDiff, Bool.not_true, Bool.not_false, *]
           · simp only [ev]; rfl
           first
           | (· with_reducible exact Ty.ok78
              rotate_left 2
              refine hk_tag 78 ?_
              rotate_right 2)
           | (· with_reducible exact Ty.ok79
              rotate_left 2
              refine hk_tag 79 ?_
              rotate_right 2)
           )
        | (refine xr_do (v := ?_) (h' := ?_) (by exact rfl) ?_ ?_; rotate_left 2)
        | (refine xr_st (v := ?_) (h' := ?_) (by exact rfl) ?_ ?_; rotate_left 2)
        | (refine xr_gdo (v := ?_) (h' := ?_) (by exact rfl) (by exact rfl) ?_ ?_ ?_
           rotate_left 2
           · simp only [ev, put_some, reduceIte, Nat.reduceEqDiff, Bool.not_true, Bool.not_false, *])
        | (refine xr_gst (v := ?_) (h' := ?_) (by exact rfl) (by exact rfl) ?_ ?_ ?_
           rotate_left 2
           · simp only [ev, put_some, reduceIte, Nat.reduceEqDiff, Bool.not_true, Bool.not_false, *])
        | (refine xr_goff (by exact rfl) ?_ ?_
           · simp only [ev, put_some, reduceIte, Nat.reduceEqDiff, Bool.not_true, Bool.not_false, *])
        | (refine xr_gsoff (by exact rfl) ?_ ?_
           · simp only [ev, put_some, reduceIte, Nat.reduceEqDiff, Bool.not_true, Bool.not_false, *])
        | (refine xr_gund (by exact rfl) ?_ ?_
           · simp only [ev, put_some, reduceIte, Nat.reduceEqDiff, Bool.not_true, Bool.not_false, *])
        | (refine xr_gsund (by exact rfl) ?_ ?_
           · simp only [ev, put_some, reduceIte, Nat.reduceEqDiff, Bool.not_true, Bool.not_false, *])
        | (refine xr_gif (b := ?_) (by exact rfl) ?_ (fun hb => ?_) (fun hb => ?_)
           rotate_left 1
           · simp only [ev, put_some, reduceIte, Nat.reduceEqDiff, Bool.not_true, Bool.not_false, *]; rfl)
        | (refine aw_ift (by decide) ?_ ?_
           · simp only [ev, put_some, reduceIte, Nat.reduceEqDiff, *])
        | (refine aw_iff (by decide) ?_ ?_
           · simp only [ev, put_some, reduceIte, Nat.reduceEqDiff, *])
        | (refine aw_if (b := ?_) (by decide) ?_ (fun hb => ?_) (fun hb => ?_)
           rotate_left 1
           · simp only [ev, put_some, reduceIte, Nat.reduceEqDiff, *]; rfl)
        | (refine r_ret (vs := ?_) ?_ ?_
           rotate_left 1
           · simp only [resV, oneOf, stp, ev, put_some, put_none, argT_list, List.getD_cons_zero, List.getD_cons_succ, reduceIte, Nat.reduceEqDiff, Option.map_some, Array.map_empty, List.map_toArray, List.map_cons, List.map_nil, List.append_toArray, Array.append_empty, Array.empty_append, List.nil_append, List.append_nil, and_self, if_true, decide_true, decide_false, Int.toNat_natCast, Int.natCast_nonneg, List.length_map, binV_add, binV_sub, binV_and, binV_shr, binV_shl, binV_str_eql, binV_str_neq, binV_mul, binV_eql, binV_neq, binV_lss, binV_leq, binV_gtr, binV_geq, unV_not, Bool.not_true, Bool.not_false, Bool.cond_true, Bool.cond_false, binV_bool_neq, binV_bool_eql, Ty.un4, bld, fillL, vcs, splice, List.getElem?_toArray, List.getElem?_cons_zero, List.getElem?_cons_succ, true_and, List.getElem?_toArray, List.getElem?_cons_zero, List.getElem?_cons_succ, ldv, stv, vcs, idxA, blt, lenV, List.size_toArray, List.length_cons, List.length_nil, Nat.zero_add, Array.getD_eq_getD_getElem?, List.getElem?_toArray, List.getElem?_cons_zero, List.getElem?_cons_succ, Option.getD_some, Option.isSome_some, Nat.add_assoc, List.toList_toArray, eq_self, Option.bind_some, List.append_assoc, List.cons_append, List.length_append, List.length_cons, List.length_nil, Nat.zero_add, Nat.add_zero, Nat.reduceAdd, Nat.reduceMul, Nat.reduceLeDiff, mset_some, mset_none, set_at, set_at0, killL_nil, killL_cons, getC_succ2, getC_succ3, getC_succ4, getC_succ5, getC_succ6, loadCs_succ2, loadCs_succ3, loadCs_succ4, loadCs_succ5, loadCs_succ6, setCs_succ2, setCs_succ3, setCs_succ4, setCs_succ5, setCs_succ6, getC_at, getC_at0, getC_zero, getC_succ, loadCs_at, loadCs_at0, loadCs_zero, loadCs_succ, setCs_at, setCs_at0, setCs_zero, setCs_succ, splice, List.set_cons_succ, List.set_cons_zero, List.getElem?_cons_zero, List.getElem?_cons_succ, List.drop_zero, List.drop_succ_cons, List.take_succ_cons, List.take_zero, newB, vcs, flat_int, flat_bool, flat_string, flat_slice, flat_pointer, flat_func, flat_nilFunc, List.all_cons, List.all_nil, Bool.and_true, Bool.and_self, Ty.ld3, Ty.sz3, Ty.zc3, Ty.by3, Ty.ld4, Ty.sz4, Ty.zc4, Ty.by4, Ty.ld24, Ty.sz24, Ty.sl24, Ty.zc24, Ty.by24, Ty.ld25, Ty.sz25, Ty.zc25, Ty.by25, Ty.pl25, Ty.ld26, Ty.sz26, Ty.sl26, Ty.zc26, Ty.by26, Grp.cells_length, Grp.cells_flat, Grp.cells_take, Grp.cells_splice, Grp.cells_splice2, Nat.mul_one, *]; rfl)
        | (with_reducible exact isGroup_ok _ _)
        | (with_reducible refine stepGroup_ok _ _ _ ?_
           · assumption
           )
        | ((with_reducible refine HkTag.mk (n := 78) ?_); rintro _ _ ⟨rfl, hh⟩; replace hh := hh.symm; subst hh)
        | ((with_reducible refine HkTag.mk (n := 79) ?_); rintro _ _ ⟨rfl, hh⟩; replace hh := hh.symm; subst hh)
        )
      · skip
        refine ⟨by first | assumption | omega, ?_, ?_⟩
        · simp only [List.forall_mem_cons, List.not_mem_nil, false_implies, implies_true, and_true, and_self, stp, ev, put_some, put_none, argT_list, List.getD_cons_zero, List.getD_cons_succ, reduceIte, Nat.reduceEqDiff, Option.map_some, Array.map_empty, List.map_toArray, List.map_cons, List.map_nil, List.append_toArray, Array.append_empty, Array.empty_append, List.nil_append, List.append_nil, and_self, if_true, decide_true, decide_false, Int.toNat_natCast, Int.natCast_nonneg, List.length_map, binV_add, binV_sub, binV_and, binV_shr, binV_shl, binV_str_eql, binV_str_neq, binV_mul, binV_eql, binV_neq, binV_lss, binV_leq, binV_gtr, binV_geq, unV_not, Bool.not_true, Bool.not_false, Bool.cond_true, Bool.cond_false, *]
        refine ⟨L ++ [⟨2, 1, (stepG gk kinds[k]).1.cells⟩], ?_, ?_⟩
        · rw [hsn]; simp only [playS, hb, if_true]
        · simp only [put_some, reduceIte, Nat.reduceEqDiff]
          rw [wrap_id (by omega)]; rfl
      · skip
        refine ⟨by first | assumption | omega, ?_, ?_⟩
        · simp only [List.forall_mem_cons, List.not_mem_nil, false_implies, implies_true, and_true, and_self, stp, ev, put_some, put_none, argT_list, List.getD_cons_zero, List.getD_cons_succ, reduceIte, Nat.reduceEqDiff, Option.map_some, Array.map_empty, List.map_toArray, List.map_cons, List.map_nil, List.append_toArray, Array.append_empty, Array.empty_append, List.nil_append, List.append_nil, and_self, if_true, decide_true, decide_false, Int.toNat_natCast, Int.natCast_nonneg, List.length_map, binV_add, binV_sub, binV_and, binV_shr, binV_shl, binV_str_eql, binV_str_neq, binV_mul, binV_eql, binV_neq, binV_lss, binV_leq, binV_gtr, binV_geq, unV_not, Bool.not_true, Bool.not_false, Bool.cond_true, Bool.cond_false, *]
        refine ⟨L ++ [⟨2, 1, (stepG gk kinds[k]).1.cells⟩], ?_, ?_⟩
        · rw [hsn]; simp only [playS, hb, Bool.false_eq_true, if_false, hdf]
        · simp only [put_some, reduceIte, Nat.reduceEqDiff]
          rw [wrap_id (by omega)]; rfl
    · have h1 : ¬ (k : Int) < kinds.length := by omega
      obtain rfl : k = kinds.length := by omega
      rw [List.take_length] at *
      clear hs hrow hmk
      repeat' (first
        | ((with_reducible refine eq_go ?_); simp only [stp, ev, put_some, put_none, argT_list, List.getD_cons_zero, List.getD_cons_succ, reduceIte, Nat.reduceEqDiff, Option.map_some, Array.map_empty, List.map_toArray, List.map_cons, List.map_nil, List.append_toArray, Array.append_empty, Array.empty_append, List.nil_append, List.append_nil, and_self, if_true, decide_true, decide_false, Int.toNat_natCast, Int.natCast_nonneg, List.length_map, binV_add, binV_sub, binV_and, binV_shr, binV_shl, binV_str_eql, binV_str_neq, binV_mul, binV_eql, binV_neq, binV_lss, binV_leq, binV_gtr, binV_geq, unV_not, Bool.not_true, Bool.not_false, Bool.cond_true, Bool.cond_false, binV_bool_neq, binV_bool_eql, Ty.un4, bld, fillL, vcs, splice, List.getElem?_toArray, List.getElem?_cons_zero, List.getElem?_cons_succ, true_and, List.getElem?_toArray, List.getElem?_cons_zero, List.getElem?_cons_succ, ldv, stv, vcs, idxA, blt, lenV, List.size_toArray, List.length_cons, List.length_nil, Nat.zero_add, Array.getD_eq_getD_getElem?, List.getElem?_toArray, List.getElem?_cons_zero, List.getElem?_cons_succ, Option.getD_some, Option.isSome_some, Nat.add_assoc, List.toList_toArray, eq_self, Option.bind_some, List.append_assoc, List.cons_append, List.length_append, List.length_cons, List.length_nil, Nat.zero_add, Nat.add_zero, Nat.reduceAdd, Nat.reduceMul, Nat.reduceLeDiff, mset_some, mset_none, set_at, set_at0, killL_nil, killL_cons, getC_succ2, getC_succ3, getC_succ4, getC_succ5, getC_succ6, loadCs_succ2, loadCs_succ3, loadCs_succ4, loadCs_succ5, loadCs_succ6, setCs_succ2, setCs_succ3, setCs_succ4, setCs_succ5, setCs_succ6, getC_at, getC_at0, getC_zero, getC_succ, loadCs_at, loadCs_at0, loadCs_zero, loadCs_succ, setCs_at, setCs_at0, setCs_zero, setCs_succ, splice, List.set_cons_succ, List.set_cons_zero, List.getElem?_cons_zero, List.getElem?_cons_succ, List.drop_zero, List.drop_succ_cons, List.take_succ_cons, List.take_zero, newB, vcs, flat_int, flat_bool, flat_string, flat_slice, flat_pointer, flat_func, flat_nilFunc, List.all_cons, List.all_nil, Bool.and_true, Bool.and_self, Ty.ld3, Ty.sz3, Ty.zc3, Ty.by3, Ty.ld4, Ty.sz4, Ty.zc4, Ty.by4, Ty.ld24, Ty.sz24, Ty.sl24, Ty.zc24, Ty.by24, Ty.ld25, Ty.sz25, Ty.zc25, Ty.by25, Ty.pl25, Ty.ld26, Ty.sz26, Ty.sl26, Ty.zc26, Ty.by26, Grp.cells_length, Grp.cells_flat, Grp.cells_take, Grp.cells_splice, Grp.cells_splice2, Nat.mul_one, *]; rfl)
        | (with_reducible refine aw_then ?_) | (with_reducible refine aw_skip ?_) | (with_reducible refine aw_ret ?_) | (with_reducible refine aw_exit ?_) | (with_reducible refine aw_block ?_) | (with_reducible refine xr_reg (by decide +kernel) ?_)
        | (with_reducible refine xr_nil ?_) | (with_reducible refine k_norm ?_) | (with_reducible refine k_ret ?_) | (with_reducible refine k_exit ?_) | (with_reducible refine b_norm ?_) | (with_reducible refine b_ret ?_) | (with_reducible refine b_exit ?_) | (with_reducible refine b_past (by decide) ?_)
        | (refine xr_cl (f := ?_) (fs := ?_) (cs := ?_) (args := ?_) (K := ?_) ?_ ?_ ?_ ?_ ?_
           rotate_left 5
           · simp only [ev]; rfl
           first
           | (· with_reducible exact Ty.ok78
              rotate_left 2
              refine hk_tag 78 ?_
              rotate_right 2)
           | (· with_reducible exact Ty.ok79
              rotate_left 2
              refine hk_tag 79 ?_
              rotate_right 2)
           )
        | (refine xr_gcl (f := ?_) (fs := ?_) (cs := ?_) (args := ?_) (K := ?_) (by exact rfl) ?_ ?_ ?_ ?_ ?_ ?_
           rotate_left 5
           · simp only [ev, put_some, reduceIte, Nat.reduceEqDiff, Bool.not_true, Bool.not_false, *]
           · simp only [ev]; rfl
           first
           | (· with_reducible exact Ty.ok78
              rotate_left 2
              refine hk_tag 78 ?_
              rotate_right 2)
           | (· with_reducible exact Ty.ok79
              rotate_left 2
              refine hk_tag 79 ?_
              rotate_right 2)
           )
        | (refine xr_do (v := ?_) (h' := ?_) (by exact rfl) ?_ ?_; rotate_left 2)
        | (refine xr_st (v := ?_) (h' := ?_) (by exact rfl) ?_ ?_; rotate_left 2)
        | (refine xr_gdo (v := ?_) (h' := ?_) (by exact rfl) (by exact rfl) ?_ ?_ ?_
           rotate_left 2
           · simp only [ev, put_some, reduceIte, Nat.reduceEqDiff, Bool.not_true, Bool.not_false, *])
        | (refine xr_gst (v := ?_) (h' := ?_) (by exact rfl) (by exact rfl) ?_ ?_ ?_
           rotate_left 2
           · simp only [ev, put_some, reduceIte, Nat.reduceEqDiff, Bool.not_true, Bool.not_false, *])
        | (refine xr_goff (by exact rfl) ?_ ?_
           · simp only [ev, put_some, reduceIte, Nat.reduceEqDiff, Bool.not_true, Bool.not_false, *])
        | (refine xr_gsoff (by exact rfl) ?_ ?_
           · simp only [ev, put_some, reduceIte, Nat.reduceEqDiff, Bool.not_true, Bool.not_false, *])
        | (refine xr_gund (by exact rfl) ?_ ?_
           · simp only [ev, put_some, reduceIte, Nat.reduceEqDiff, Bool.not_true, Bool.not_false, *])
        | (refine xr_gsund (by exact rfl) ?_ ?_
           · simp only [ev, put_some, reduceIte, Nat.reduceEqDiff, Bool.not_true, Bool.not_false, *])
        | (refine xr_gif (b := ?_) (by exact rfl) ?_ (fun hb => ?_) (fun hb => ?_)
           rotate_left 1
           · simp only [ev, put_some, reduceIte, Nat.reduceEqDiff, Bool.not_true, Bool.not_false, *]; rfl)
        | (refine aw_ift (by decide) ?_ ?_
           · simp only [ev, put_some, reduceIte, Nat.reduceEqDiff, *])
        | (refine aw_iff (by decide) ?_ ?_
           · simp only [ev, put_some, reduceIte, Nat.reduceEqDiff, *])
        | (refine aw_if (b := ?_) (by decide) ?_ (fun hb => ?_) (fun hb => ?_)
           rotate_left 1
           · simp only [ev, put_some, reduceIte, Nat.reduceEqDiff, *]; rfl)
        | (refine r_ret (vs := ?_) ?_ ?_
           rotate_left 1
           · simp only [resV, oneOf, stp, ev, put_some, put_none, argT_list, List.getD_cons_zero, List.getD_cons_succ, reduceIte, Nat.reduceEqDiff, Option.map_some, Array.map_empty, List.map_toArray, List.map_cons, List.map_nil, List.append_toArray, Array.append_empty, Array.empty_append, List.nil_append, List.append_nil, and_self, if_true, decide_true, decide_false, Int.toNat_natCast, Int.natCast_nonneg, List.length_map, binV_add, binV_sub, binV_and, binV_shr, binV_shl, binV_str_eql, binV_str_neq, binV_mul, binV_eql, binV_neq, binV_lss, binV_leq, binV_gtr, binV_geq, unV_not, Bool.not_true, Bool.not_false, Bool.cond_true, Bool.cond_false, binV_bool_neq, binV_bool_eql, Ty.un4, bld, fillL, vcs, splice, List.getElem?_toArray, List.getElem?_cons_zero, List.getElem?_cons_succ, true_and, List.getElem?_toArray, List.getElem?_cons_zero, List.getElem?_cons_succ, ldv, stv, vcs, idxA, blt, lenV, List.size_toArray, List.length_cons, List.length_nil, Nat.zero_add, Array.getD_eq_getD_getElem?, List.getElem?_toArray, List.getElem?_cons_zero, List.getElem?_cons_succ, Option.getD_some, Option.isSome_some, Nat.add_assoc, List.toList_toArray, eq_self, Option.bind_some, List.append_assoc, List.cons_append, List.length_append, List.length_cons, List.length_nil, Nat.zero_add, Nat.add_zero, Nat.reduceAdd, Nat.reduceMul, Nat.reduceLeDiff, mset_some, mset_none, set_at, set_at0, killL_nil, killL_cons, getC_succ2, getC_succ3, getC_succ4, getC_succ5, getC_succ6, loadCs_succ2, loadCs_succ3, loadCs_succ4, loadCs_succ5, loadCs_succ6, setCs_succ2, setCs_succ3, setCs_succ4, setCs_succ5, setCs_succ6, getC_at, getC_at0, getC_zero, getC_succ, loadCs_at, loadCs_at0, loadCs_zero, loadCs_succ, setCs_at, setCs_at0, setCs_zero, setCs_succ, splice, List.set_cons_succ, List.set_cons_zero, List.getElem?_cons_zero, List.getElem?_cons_succ, List.drop_zero, List.drop_succ_cons, List.take_succ_cons, List.take_zero, newB, vcs, flat_int, flat_bool, flat_string, flat_slice, flat_pointer, flat_func, flat_nilFunc, List.all_cons, List.all_nil, Bool.and_true, Bool.and_self, Ty.ld3, Ty.sz3, Ty.zc3, Ty.by3, Ty.ld4, Ty.sz4, Ty.zc4, Ty.by4, Ty.ld24, Ty.sz24, Ty.sl24, Ty.zc24, Ty.by24, Ty.ld25, Ty.sz25, Ty.zc25, Ty.by25, Ty.pl25, Ty.ld26, Ty.sz26, Ty.sl26, Ty.zc26, Ty.by26, Grp.cells_length, Grp.cells_flat, Grp.cells_take, Grp.cells_splice, Grp.cells_splice2, Nat.mul_one, *]; rfl)
        | (with_reducible exact isGroup_ok _ _)
        | (with_reducible refine stepGroup_ok _ _ _ ?_
           · assumption
           )
        | ((with_reducible refine HkTag.mk (n := 78) ?_); rintro _ _ ⟨rfl, hh⟩; replace hh := hh.symm; subst hh)
        | ((with_reducible refine HkTag.mk (n := 79) ?_); rintro _ _ ⟨rfl, hh⟩; replace hh := hh.symm; subst hh)
        )
      rw [Nat.sub_self, doneC_all]
      refine ⟨_, [2], rfl, Inj.one 2, rfl, BsOk.cons rfl (bools_af _) rfl (BsOk.nil _ _), ?_⟩
      exact RVl.tuple (l := [_, _, _]) (l' := [_, _, _]) ⟨rv_grp _ _ _ _, .sl 0 2 _ _ 1 _ _ rfl rfl (by rw [bools_len, hlk, Nat.mul_one]) (Nat.le_refl _) (.inl ⟨rfl, rfl⟩), .plain _ rfl, trivial⟩
  · simp only [playV, playL, hok, Bool.false_eq_true, if_false]
    have hno := playOk_false hok
    rcases Bool.eq_false_or_eq_true (goodG g) with hg | hg
    · have h60 := hno hg
      clear hno
      refine acalls_fn Try.func18 rfl Try.ntmps18 (by simp) (by dsimp only [Try.f18]) ?_
      repeat' (first
        | ((with_reducible refine eq_go ?_); simp only [stp, ev, put_some, put_none, argT_list, List.getD_cons_zero, List.getD_cons_succ, reduceIte, Nat.reduceEqDiff, Option.map_some, Array.map_empty, List.map_toArray, List.map_cons, List.map_nil, List.append_toArray, Array.append_empty, Array.empty_append, List.nil_append, List.append_nil, and_self, if_true, decide_true, decide_false, Int.toNat_natCast, Int.natCast_nonneg, List.length_map, binV_add, binV_sub, binV_and, binV_shr, binV_shl, binV_str_eql, binV_str_neq, binV_mul, binV_eql, binV_neq, binV_lss, binV_leq, binV_gtr, binV_geq, unV_not, Bool.not_true, Bool.not_false, Bool.cond_true, Bool.cond_false, binV_bool_neq, binV_bool_eql, Ty.un4, bld, fillL, vcs, splice, List.getElem?_toArray, List.getElem?_cons_zero, List.getElem?_cons_succ, true_and, List.getElem?_toArray, List.getElem?_cons_zero, List.getElem?_cons_succ, ldv, stv, vcs, idxA, blt, lenV, List.size_toArray, List.length_cons, List.length_nil, Nat.zero_add, Array.getD_eq_getD_getElem?, List.getElem?_toArray, List.getElem?_cons_zero, List.getElem?_cons_succ, Option.getD_some, Option.isSome_some, Nat.add_assoc, List.toList_toArray, eq_self, Option.bind_some, List.append_assoc, List.cons_append, List.length_append, List.length_cons, List.length_nil, Nat.zero_add, Nat.add_zero, Nat.reduceAdd, Nat.reduceMul, Nat.reduceLeDiff, mset_some, mset_none, set_at, set_at0, killL_nil, killL_cons, getC_succ2, getC_succ3, getC_succ4, getC_succ5, getC_succ6, loadCs_succ2, loadCs_succ3, loadCs_succ4, loadCs_succ5, loadCs_succ6, setCs_succ2, setCs_succ3, setCs_succ4, setCs_succ5, setCs_succ6, getC_at, getC_at0, getC_zero, getC_succ, loadCs_at, loadCs_at0, loadCs_zero, loadCs_succ, setCs_at, setCs_at0, setCs_zero, setCs_succ, splice, List.set_cons_succ, List.set_cons_zero, List.getElem?_cons_zero, List.getElem?_cons_succ, List.drop_zero, List.drop_succ_cons, List.take_succ_cons, List.take_zero, newB, vcs, flat_int, flat_bool, flat_string, flat_slice, flat_pointer, flat_func, flat_nilFunc, List.all_cons, List.all_nil, Bool.and_true, Bool.and_self, Ty.ld3, Ty.sz3, Ty.zc3, Ty.by3, Ty.ld4, Ty.sz4, Ty.zc4, Ty.by4, Ty.ld24, Ty.sz24, Ty.sl24, Ty.zc24, Ty.by24, Ty.ld25, Ty.sz25, Ty.zc25, Ty.by25, Ty.pl25, Ty.ld26, Ty.sz26, Ty.sl26, Ty.zc26, Ty.by26, Grp.cells_length, Grp.cells_flat, Grp.cells_take, Grp.cells_splice, Grp.cells_splice2, Nat.mul_one, *]; rfl)
        | (with_reducible refine aw_then ?_) | (with_reducible refine aw_skip ?_) | (with_reducible refine aw_ret ?_) | (with_reducible refine aw_exit ?_) | (with_reducible refine aw_block ?_) | (with_reducible refine xr_reg (by decide +kernel) ?_)
        | (with_reducible refine xr_nil ?_) | (with_reducible refine k_norm ?_) | (with_reducible refine k_ret ?_) | (with_reducible refine k_exit ?_) | (with_reducible refine b_norm ?_) | (with_reducible refine b_ret ?_) | (with_reducible refine b_exit ?_) | (with_reducible refine b_past (by decide) ?_)
        | (refine xr_cl (f := ?_) (fs := ?_) (cs := ?_) (args := ?_) (K := ?_) ?_ ?_ ?_ ?_ ?_
           rotate_left 5
           · simp only [ev]; rfl
           first
           | (· with_reducible exact Ty.ok78
              rotate_left 2
              refine hk_tag 78 ?_
              rotate_right 2)
           | (· with_reducible exact Ty.ok79
              rotate_left 2
              refine hk_tag 79 ?_
              rotate_right 2)
           )
        | (refine xr_gcl (f := ?_) (fs := ?_) (cs := ?_) (args := ?_) (K := ?_) (by exact rfl) ?_ ?_ ?_ ?_ ?_ ?_
           rotate_left 5
           · simp only [ev, put_some, reduceIte, Nat.reduceEqDiff, Bool.not_true, Bool.not_false, *]
           · simp only [ev]; rfl
           first
           | (· with_reducible exact Ty.ok78
              rotate_left 2
              refine hk_tag 78 ?_
              rotate_right 2)
           | (· with_reducible exact Ty.ok79
              rotate_left 2
              refine hk_tag 79 ?_
              rotate_right 2)
           )
        | (refine xr_do (v := ?_) (h' := ?_) (by exact rfl) ?_ ?_; rotate_left 2)
        | (refine xr_st (v := ?_) (h' := ?_) (by exact rfl) ?_ ?_; rotate_left 2)
        | (refine xr_gdo (v := ?_) (h' := ?_) (by exact rfl) (by exact rfl) ?_ ?_ ?_
           rotate_left 2
           · simp only [ev, put_some, reduceIte, Nat.reduceEqDiff, Bool.not_true, Bool.not_false, *])
        | (refine xr_gst (v := ?_) (h' := ?_) (by exact rfl) (by exact rfl) ?_ ?_ ?_
           rotate_left 2
           · simp only [ev, put_some, reduceIte, Nat.reduceEqDiff, Bool.not_true, Bool.not_false, *])
        | (refine xr_goff (by exact rfl) ?_ ?_
           · simp only [ev, put_some, reduceIte, Nat.reduceEqDiff, Bool.not_true, Bool.not_false, *])
        | (refine xr_gsoff (by exact rfl) ?_ ?_
           · simp only [ev, put_some, reduceIte, Nat.reduceEqDiff, Bool.not_true, Bool.not_false, *])
        | (refine xr_gund (by exact rfl) ?_ ?_
           · simp only [ev, put_some, reduceIte, Nat.reduceEqDiff, Bool.not_true, Bool.not_false, *])
        | (refine xr_gsund (by exact rfl) ?_ ?_
           · simp only [ev, put_some, reduceIte, Nat.reduceEqDiff, Bool.not_true, Bool.not_false, *])
        | (refine xr_gif (b := ?_) (by exact rfl) ?_ (fun hb => ?_) (fun hb => ?_)
           rotate_left 1
           · simp only [ev, put_some, reduceIte, Nat.reduceEqDiff, Bool.not_true, Bool.not_false, *]; rfl)
        | (refine aw_ift (by decide) ?_ ?_
           · simp only [ev, put_some, reduceIte, Nat.reduceEqDiff, *])
        | (refine aw_iff (by decide) ?_ ?_
           · simp only [ev, put_some, reduceIte, Nat.reduceEqDiff, *])
        | (refine aw_if (b := ?_) (by decide) ?_ (fun hb => ?_) (fun hb => ?_)
           rotate_left 1
           · simp only [ev, put_some, reduceIte, Nat.reduceEqDiff, *]; rfl)
        | (refine r_ret (vs := ?_) ?_ ?_
           rotate_left 1
           · simp only [resV, oneOf, stp, ev, put_some, put_none, argT_list, List.getD_cons_zero, List.getD_cons_succ, reduceIte, Nat.reduceEqDiff, Option.map_some, Array.map_empty, List.map_toArray, List.map_cons, List.map_nil, List.append_toArray, Array.append_empty, Array.empty_append, List.nil_append, List.append_nil, and_self, if_true, decide_true, decide_false, Int.toNat_natCast, Int.natCast_nonneg, List.length_map, binV_add, binV_sub, binV_and, binV_shr, binV_shl, binV_str_eql, binV_str_neq, binV_mul, binV_eql, binV_neq, binV_lss, binV_leq, binV_gtr, binV_geq, unV_not, Bool.not_true, Bool.not_false, Bool.cond_true, Bool.cond_false, binV_bool_neq, binV_bool_eql, Ty.un4, bld, fillL, vcs, splice, List.getElem?_toArray, List.getElem?_cons_zero, List.getElem?_cons_succ, true_and, List.getElem?_toArray, List.getElem?_cons_zero, List.getElem?_cons_succ, ldv, stv, vcs, idxA, blt, lenV, List.size_toArray, List.length_cons, List.length_nil, Nat.zero_add, Array.getD_eq_getD_getElem?, List.getElem?_toArray, List.getElem?_cons_zero, List.getElem?_cons_succ, Option.getD_some, Option.isSome_some, Nat.add_assoc, List.toList_toArray, eq_self, Option.bind_some, List.append_assoc, List.cons_append, List.length_append, List.length_cons, List.length_nil, Nat.zero_add, Nat.add_zero, Nat.reduceAdd, Nat.reduceMul, Nat.reduceLeDiff, mset_some, mset_none, set_at, set_at0, killL_nil, killL_cons, getC_succ2, getC_succ3, getC_succ4, getC_succ5, getC_succ6, loadCs_succ2, loadCs_succ3, loadCs_succ4, loadCs_succ5, loadCs_succ6, setCs_succ2, setCs_succ3, setCs_succ4, setCs_succ5, setCs_succ6, getC_at, getC_at0, getC_zero, getC_succ, loadCs_at, loadCs_at0, loadCs_zero, loadCs_succ, setCs_at, setCs_at0, setCs_zero, setCs_succ, splice, List.set_cons_succ, List.set_cons_zero, List.getElem?_cons_zero, List.getElem?_cons_succ, List.drop_zero, List.drop_succ_cons, List.take_succ_cons, List.take_zero, newB, vcs, flat_int, flat_bool, flat_string, flat_slice, flat_pointer, flat_func, flat_nilFunc, List.all_cons, List.all_nil, Bool.and_true, Bool.and_self, Ty.ld3, Ty.sz3, Ty.zc3, Ty.by3, Ty.ld4, Ty.sz4, Ty.zc4, Ty.by4, Ty.ld24, Ty.sz24, Ty.sl24, Ty.zc24, Ty.by24, Ty.ld25, Ty.sz25, Ty.zc25, Ty.by25, Ty.pl25, Ty.ld26, Ty.sz26, Ty.sl26, Ty.zc26, Ty.by26, Grp.cells_length, Grp.cells_flat, Grp.cells_take, Grp.cells_splice, Grp.cells_splice2, Nat.mul_one, *]; rfl)
        | (with_reducible exact isGroup_ok _ _)
        | (with_reducible refine stepGroup_ok _ _ _ ?_
           · assumption
           )
        | ((with_reducible refine HkTag.mk (n := 78) ?_); rintro _ _ ⟨rfl, hh⟩; replace hh := hh.symm; subst hh)
        | ((with_reducible refine HkTag.mk (n := 79) ?_); rintro _ _ ⟨rfl, hh⟩; replace hh := hh.symm; subst hh)
        )
      refine ⟨_, [], rfl, Inj.nil, rfl, BsOk.nil _ _, ?_⟩
      exact RVl.tuple (l := [_, _, _]) (l' := [_, _, _]) ⟨rv_grp _ _ _ Grp.zero, .plain _ rfl, .plain _ rfl, trivial⟩
    · clear hno
      refine acalls_fn Try.func18 rfl Try.ntmps18 (by simp) (by dsimp only [Try.f18]) ?_
      repeat' (first
        | ((with_reducible refine eq_go ?_); simp only [stp, ev, put_some, put_none, argT_list, List.getD_cons_zero, List.getD_cons_succ, reduceIte, Nat.reduceEqDiff, Option.map_some, Array.map_empty, List.map_toArray, List.map_cons, List.map_nil, List.append_toArray, Array.append_empty, Array.empty_append, List.nil_append, List.append_nil, and_self, if_true, decide_true, decide_false, Int.toNat_natCast, Int.natCast_nonneg, List.length_map, binV_add, binV_sub, binV_and, binV_shr, binV_shl, binV_str_eql, binV_str_neq, binV_mul, binV_eql, binV_neq, binV_lss, binV_leq, binV_gtr, binV_geq, unV_not, Bool.not_true, Bool.not_false, Bool.cond_true, Bool.cond_false, binV_bool_neq, binV_bool_eql, Ty.un4, bld, fillL, vcs, splice, List.getElem?_toArray, List.getElem?_cons_zero, List.getElem?_cons_succ, true_and, List.getElem?_toArray, List.getElem?_cons_zero, List.getElem?_cons_succ, ldv, stv, vcs, idxA, blt, lenV, List.size_toArray, List.length_cons, List.length_nil, Nat.zero_add, Array.getD_eq_getD_getElem?, List.getElem?_toArray, List.getElem?_cons_zero, List.getElem?_cons_succ, Option.getD_some, Option.isSome_some, Nat.add_assoc, List.toList_toArray, eq_self, Option.bind_some, List.append_assoc, List.cons_append, List.length_append, List.length_cons, List.length_nil, Nat.zero_add, Nat.add_zero, Nat.reduceAdd, Nat.reduceMul, Nat.reduceLeDiff, mset_some, mset_none, set_at, set_at0, killL_nil, killL_cons, getC_succ2, getC_succ3, getC_succ4, getC_succ5, getC_succ6, loadCs_succ2, loadCs_succ3, loadCs_succ4, loadCs_succ5, loadCs_succ6, setCs_succ2, setCs_succ3, setCs_succ4, setCs_succ5, setCs_succ6, getC_at, getC_at0, getC_zero, getC_succ, loadCs_at, loadCs_at0, loadCs_zero, loadCs_succ, setCs_at, setCs_at0, setCs_zero, setCs_succ, splice, List.set_cons_succ, List.set_cons_zero, List.getElem?_cons_zero, List.getElem?_cons_succ, List.drop_zero, List.drop_succ_cons, List.take_succ_cons, List.take_zero, newB, vcs, flat_int, flat_bool, flat_string, flat_slice, flat_pointer, flat_func, flat_nilFunc, List.all_cons, List.all_nil, Bool.and_true, Bool.and_self, Ty.ld3, Ty.sz3, Ty.zc3, Ty.by3, Ty.ld4, Ty.sz4, Ty.zc4, Ty.by4, Ty.ld24, Ty.sz24, Ty.sl24, Ty.zc24, Ty.by24, Ty.ld25, Ty.sz25, Ty.zc25, Ty.by25, Ty.pl25, Ty.ld26, Ty.sz26, Ty.sl26, Ty.zc26, Ty.by26, Grp.cells_length, Grp.cells_flat, Grp.cells_take, Grp.cells_splice, Grp.cells_splice2, Nat.mul_one, *]; rfl)
        | (with_reducible refine aw_then ?_) | (with_reducible refine aw_skip ?_) | (with_reducible refine aw_ret ?_) | (with_reducible refine aw_exit ?_) | (with_reducible refine aw_block ?_) | (with_reducible refine xr_reg (by decide +kernel) ?_)
        | (with_reducible refine xr_nil ?_) | (with_reducible refine k_norm ?_) | (with_reducible refine k_ret ?_) | (with_reducible refine k_exit ?_) | (with_reducible refine b_norm ?_) | (with_reducible refine b_ret ?_) | (with_reducible refine b_exit ?_) | (with_reducible refine b_past (by decide) ?_)
        | (refine xr_cl (f := ?_) (fs := ?_) (cs := ?_) (args := ?_) (K := ?_) ?_ ?_ ?_ ?_ ?_
           rotate_left 5
           · simp only [ev]; rfl
           first
           | (· with_reducible exact Ty.ok78
              rotate_left 2
              refine hk_tag 78 ?_
              rotate_right 2)
           | (· with_reducible exact Ty.ok79
              rotate_left 2
              refine hk_tag 79 ?_
              rotate_right 2)
           )
        | (refine xr_gcl (f := ?_) (fs := ?_) (cs := ?_) (args := ?_) (K := ?_) (by exact rfl) ?_ ?_ ?_ ?_ ?_ ?_
           rotate_left 5
           · simp only [ev, put_some, reduceIte, Nat.reduceEqDiff, Bool.not_true, Bool.not_false, *]
           · simp only [ev]; rfl
           first
           | (· with_reducible exact Ty.ok78
              rotate_left 2
              refine hk_tag 78 ?_
              rotate_right 2)
           | (· with_reducible exact Ty.ok79
              rotate_left 2
              refine hk_tag 79 ?_
              rotate_right 2)
           )
        | (refine xr_do (v := ?_) (h' := ?_) (by exact rfl) ?_ ?_; rotate_left 2)
        | (refine xr_st (v := ?_) (h' := ?_) (by exact rfl) ?_ ?_; rotate_left 2)
        | (refine xr_gdo (v := ?_) (h' := ?_) (by exact rfl) (by exact rfl) ?_ ?_ ?_
           rotate_left 2
           · simp only [ev, put_some, reduceIte, Nat.reduceEqDiff, Bool.not_true, Bool.not_false, *])
        | (refine xr_gst (v := ?_) (h' := ?_) (by exact rfl) (by exact rfl) ?_ ?_ ?_
           rotate_left 2
           · simp only [ev, put_some, reduceIte, Nat.reduceEqDiff, Bool.not_true, Bool.not_false, *])
        | (refine xr_goff (by exact rfl) ?_ ?_
           · simp only [ev, put_some, reduceIte, Nat.reduceEqDiff, Bool.not_true, Bool.not_false, *])
        | (refine xr_gsoff (by exact rfl) ?_ ?_
           · simp only [ev, put_some, reduceIte, Nat.reduceEqDiff, Bool.not_true, Bool.not_false, *])
        | (refine xr_gund (by exact rfl) ?_ ?_
           · simp only [ev, put_some, reduceIte, Nat.reduceEqDiff, Bool.not_true, Bool.not_false, *])
        | (refine xr_gsund (by exact rfl) ?_ ?_
           · simp only [ev, put_some, reduceIte, Nat.reduceEqDiff, Bool.not_true, Bool.not_false, *])
        | (refine xr_gif (b := ?_) (by exact rfl) ?_ (fun hb => ?_) (fun hb => ?_)
           rotate_left 1
           · simp only [ev, put_some, reduceIte, Nat.reduceEqDiff, Bool.not_true, Bool.not_false, *]; rfl)
        | (refine aw_ift (by decide) ?_ ?_
           · simp only [ev, put_some, reduceIte, Nat.reduceEqDiff, *])
        | (refine aw_iff (by decide) ?_ ?_
           · simp only [ev, put_some, reduceIte, Nat.reduceEqDiff, *])
        | (refine aw_if (b := ?_) (by decide) ?_ (fun hb => ?_) (fun hb => ?_)
           rotate_left 1
           · simp only [ev, put_some, reduceIte, Nat.reduceEqDiff, *]; rfl)
        | (refine r_ret (vs := ?_) ?_ ?_
           rotate_left 1
           · simp only [resV, oneOf, stp, ev, put_some, put_none, argT_list, List.getD_cons_zero, List.getD_cons_succ, reduceIte, Nat.reduceEqDiff, Option.map_some, Array.map_empty, List.map_toArray, List.map_cons, List.map_nil, List.append_toArray, Array.append_empty, Array.empty_append, List.nil_append, List.append_nil, and_self, if_true, decide_true, decide_false, Int.toNat_natCast, Int.natCast_nonneg, List.length_map, binV_add, binV_sub, binV_and, binV_shr, binV_shl, binV_str_eql, binV_str_neq, binV_mul, binV_eql, binV_neq, binV_lss, binV_leq, binV_gtr, binV_geq, unV_not, Bool.not_true, Bool.not_false, Bool.cond_true, Bool.cond_false, binV_bool_neq, binV_bool_eql, Ty.un4, bld, fillL, vcs, splice, List.getElem?_toArray, List.getElem?_cons_zero, List.getElem?_cons_succ, true_and, List.getElem?_toArray, List.getElem?_cons_zero, List.getElem?_cons_succ, ldv, stv, vcs, idxA, blt, lenV, List.size_toArray, List.length_cons, List.length_nil, Nat.zero_add, Array.getD_eq_getD_getElem?, List.getElem?_toArray, List.getElem?_cons_zero, List.getElem?_cons_succ, Option.getD_some, Option.isSome_some, Nat.add_assoc, List.toList_toArray, eq_self, Option.bind_some, List.append_assoc, List.cons_append, List.length_append, List.length_cons, List.length_nil, Nat.zero_add, Nat.add_zero, Nat.reduceAdd, Nat.reduceMul, Nat.reduceLeDiff, mset_some, mset_none, set_at, set_at0, killL_nil, killL_cons, getC_succ2, getC_succ3, getC_succ4, getC_succ5, getC_succ6, loadCs_succ2, loadCs_succ3, loadCs_succ4, loadCs_succ5, loadCs_succ6, setCs_succ2, setCs_succ3, setCs_succ4, setCs_succ5, setCs_succ6, getC_at, getC_at0, getC_zero, getC_succ, loadCs_at, loadCs_at0, loadCs_zero, loadCs_succ, setCs_at, setCs_at0, setCs_zero, setCs_succ, splice, List.set_cons_succ, List.set_cons_zero, List.getElem?_cons_zero, List.getElem?_cons_succ, List.drop_zero, List.drop_succ_cons, List.take_succ_cons, List.take_zero, newB, vcs, flat_int, flat_bool, flat_string, flat_slice, flat_pointer, flat_func, flat_nilFunc, List.all_cons, List.all_nil, Bool.and_true, Bool.and_self, Ty.ld3, Ty.sz3, Ty.zc3, Ty.by3, Ty.ld4, Ty.sz4, Ty.zc4, Ty.by4, Ty.ld24, Ty.sz24, Ty.sl24, Ty.zc24, Ty.by24, Ty.ld25, Ty.sz25, Ty.zc25, Ty.by25, Ty.pl25, Ty.ld26, Ty.sz26, Ty.sl26, Ty.zc26, Ty.by26, Grp.cells_length, Grp.cells_flat, Grp.cells_take, Grp.cells_splice, Grp.cells_splice2, Nat.mul_one, *]; rfl)
        | (with_reducible exact isGroup_ok _ _)
        | (with_reducible refine stepGroup_ok _ _ _ ?_
           · assumption
           )
        | ((with_reducible refine HkTag.mk (n := 78) ?_); rintro _ _ ⟨rfl, hh⟩; replace hh := hh.symm; subst hh)
        | ((with_reducible refine HkTag.mk (n := 79) ?_); rintro _ _ ⟨rfl, hh⟩; replace hh := hh.symm; subst hh)
        )
      refine ⟨_, [], rfl, Inj.nil, rfl, BsOk.nil _ _, ?_⟩
      exact RVl.tuple (l := [_, _, _]) (l' := [_, _, _]) ⟨rv_grp _ _ _ Grp.zero, .plain _ rfl, .plain _ rfl, trivial⟩
end Go.Proofs.Ytiddnhhjlipebaa.Am

