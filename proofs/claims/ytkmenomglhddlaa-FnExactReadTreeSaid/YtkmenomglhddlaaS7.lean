/- The law about the reading of trees. Conditions: none. -/
import Derived.Test.YtkmenomglhddlaaS6
namespace Go.Proofs.Ytkmenomglhddlaa.Am
open Go Go.Proofs Go.RowKit
set_option linter.unusedVariables false
set_option linter.unusedSimpArgs false
set_option maxRecDepth 100000
set_option maxHeartbeats 8000000

/-- The pile behind branches: none where one of them does not fit. -/
def pileB (b : Br) (d : Int) : Option Int :=
  if b.op = 1 ∧ 1 ≤ b.n ∧ b.n ≤ 9 then some (d + 1) else if 2 ≤ b.op ∧ b.op ≤ 5 ∧ b.n = 0 ∧ 2 ≤ d then some (d - 1) else none
def pile : List Br → Int → Option Int
  | [], d => some d
  | b :: l, d => (pileB b d).bind (pile l)
theorem pile_app (a b : List Br) (d : Int) : pile (a ++ b) d = (pile a d).bind (pile b) := by
  induction a generalizing d with
  | nil => rfl
  | cons x a ih =>
    simp only [List.cons_append, pile]
    cases pileB x d with
    | none => rfl
    | some e => exact ih e

theorem opOf_range (c : Int) (h : opOf c ≠ 0) : 2 ≤ opOf c ∧ opOf c ≤ 5 := by
  unfold opOf at h ⊢
  repeat' split
  all_goals simp_all

/-- What is read is a tree. -/
theorem rdT_pile (s : ByteArray) : ∀ (f p : Nat) (d : Int), 0 ≤ d → p ≤ s.size → (rdT s f p).2.2 = true → pile (rdT s f p).1 d = some (d + 1)
  | 0, p, d, hd, hp, h => by simp [rdT] at h
  | f + 1, p, d, hd, hp, h => by
      unfold rdT at h ⊢
      split
      · rename_i h1; rw [if_pos h1] at h; cases h
      rename_i h1
      rw [if_neg h1] at h
      split
      · rename_i h2
        have hb : pileB ⟨1, bt s p - 48⟩ d = some (d + 1) := if_pos ⟨rfl, by simp only; omega, by simp only; omega⟩
        simp only [pile, hb, Option.bind_some]
      rename_i h2
      rw [if_neg h2] at h
      split
      · rename_i h3; rw [if_pos h3] at h; cases h
      rename_i h3
      rw [if_neg h3] at h
      have i1 := rdT_inv s f (p + 1) (by omega)
      have p1 := rdT_pile s f (p + 1)
      generalize rdT s f (p + 1) = r1 at *
      split
      · rename_i h4; rw [if_pos h4] at h; cases h
      rename_i h4
      rw [if_neg h4] at h
      split
      · rename_i h5; rw [if_pos h5] at h; cases h
      rename_i h5
      rw [if_neg h5] at h
      have h4b : r1.2.1 ≠ s.size := fun q => h4 (.inr q)
      have h4a : r1.2.2 = true := by cases q : r1.2.2 with | true => rfl | false => exact absurd (.inl q) h4
      have p2 := rdT_pile s f (r1.2.1 + 1)
      generalize rdT s f (r1.2.1 + 1) = r2 at *
      split
      · rename_i h6; rw [if_pos h6] at h; cases h
      rename_i h6
      have h6a : r2.2.2 = true := by cases q : r2.2.2 with | true => rfl | false => exact absurd (.inl q) h6
      have ho := opOf_range _ h5
      simp only [pile_app]
      rw [p1 d hd (by omega) h4a]
      simp only [Option.bind_some]
      rw [p2 (d + 1) (by omega) (by omega) h6a]
      have hb : pileB ⟨opOf (bt s r1.2.1), 0⟩ (d + 1 + 1) = some (d + 1) := by
        have q1 : ¬ (opOf (bt s r1.2.1) = 1 ∧ (1 : Int) ≤ 0 ∧ (0 : Int) ≤ 9) := by omega
        have q2 : 2 ≤ opOf (bt s r1.2.1) ∧ opOf (bt s r1.2.1) ≤ 5 ∧ (0 : Int) = 0 ∧ 2 ≤ d + 1 + 1 := by omega
        exact (if_neg q1).trans ((if_pos q2).trans (by congr 1; omega))
      simp only [Option.bind_some, pile, hb]

def goodT (l : List Br) : Bool := decide (1 ≤ (l.length : Int) ∧ (l.length : Int) ≤ 15) && decide (pile l 0 = some 1)

theorem pile_range : ∀ (l : List Br) (d e : Int), 0 ≤ d → pile l d = some e → 0 ≤ e ∧ e ≤ d + l.length
  | [], d, e, hd, h => by simp [pile] at h; simp; omega
  | b :: l, d, e, hd, h => by
      simp only [pile] at h
      cases hb : pileB b d with
      | none => rw [hb] at h; cases h
      | some x =>
        rw [hb] at h
        have hx : 0 ≤ x ∧ x ≤ d + 1 := by
          unfold pileB at hb
          split at hb
          · cases hb; omega
          · split at hb
            · cases hb; omega
            · cases hb
        have := pile_range l x e hx.1 h
        simp only [List.length_cons]; omega

theorem l11Good_ok (l : List Br) (v : Value) (h : Heap) (hs : Sl h v 2 (l.map Br.cells)) (hl : l.length ≤ 1048576) :
    ACalls Try.prog 0 45 #[v] h fun v h' => v = .bool (goodT l) ∧ h' = h := by
  refine acalls_pure (.inl rfl) ?_
  obtain ⟨b, c, rfl, hc, hrow⟩ := hs
  simp only [List.length_map] at hc ⊢
  unfold goodT
  cases hq : decide (1 ≤ (l.length : Int) ∧ (l.length : Int) ≤ 15) with
  | false =>
    refine acalls_fn Try.func45 rfl Try.ntmps45 (by simp) (by dsimp only [Try.f45]) ?_
    repeat' (first
      | ((with_reducible refine eq_go ?_); simp only [stp, ev, put_some, put_none, argT_list, List.getD_cons_zero, List.getD_cons_succ, reduceIte, Nat.reduceEqDiff, Option.map_some, Array.map_empty, List.map_toArray, List.map_cons, List.map_nil, List.append_toArray, Array.append_empty, Array.empty_append, List.nil_append, List.append_nil, and_self, if_true, decide_true, decide_false, Int.toNat_natCast, Int.natCast_nonneg, List.length_map, binV_add, binV_sub, binV_and, binV_shr, binV_shl, binV_str_eql, binV_str_neq, binV_mul, binV_eql, binV_neq, binV_lss, binV_leq, binV_gtr, binV_geq, unV_not, Bool.not_true, Bool.not_false, Bool.cond_true, Bool.cond_false, ldv, stv, vcs, fldA, idxA, blt, lenV, List.size_toArray, List.length_cons, List.length_nil, Nat.zero_add, Array.getD_eq_getD_getElem?, List.getElem?_toArray, List.getElem?_cons_zero, List.getElem?_cons_succ, Option.getD_some, Option.isSome_some, Nat.add_assoc, List.toList_toArray, eq_self, Option.bind_some, List.append_assoc, List.cons_append, List.length_append, List.length_cons, List.length_nil, Nat.zero_add, Nat.add_zero, Nat.reduceAdd, Nat.reduceMul, Nat.reduceLeDiff, mset_some, mset_none, set_at, set_at0, killL_nil, killL_cons, getC_succ2, getC_succ3, getC_succ4, getC_succ5, getC_succ6, loadCs_succ2, loadCs_succ3, loadCs_succ4, loadCs_succ5, loadCs_succ6, setCs_succ2, setCs_succ3, setCs_succ4, setCs_succ5, setCs_succ6, getC_at, getC_at0, getC_zero, getC_succ, loadCs_at, loadCs_at0, loadCs_zero, loadCs_succ, setCs_at, setCs_at0, setCs_zero, setCs_succ, splice, List.set_cons_succ, List.set_cons_zero, List.getElem?_cons_zero, List.getElem?_cons_succ, List.drop_zero, List.drop_succ_cons, List.take_succ_cons, List.take_zero, newB, vcs, flat_int, flat_bool, flat_string, flat_slice, flat_pointer, flat_func, flat_nilFunc, List.all_cons, List.all_nil, Bool.and_true, Bool.and_self, Ty.ld3, Ty.sz3, Ty.zc3, Ty.by3, Ty.ld48, Ty.sz48, Ty.sl48, Ty.zc48, Ty.by48, Ty.ld70, Ty.sz70, Ty.zc70, Ty.by70, Ty.fl70_0, Ty.fl70_1, *]; rfl)
      | (with_reducible refine aw_then ?_) | (with_reducible refine aw_skip ?_) | (with_reducible refine aw_ret ?_) | (with_reducible refine aw_exit ?_) | (with_reducible refine aw_block ?_) | (with_reducible refine xr_reg (by decide +kernel) ?_)
      | (with_reducible refine xr_nil ?_) | (with_reducible refine k_norm ?_) | (with_reducible refine k_ret ?_) | (with_reducible refine k_exit ?_) | (with_reducible refine b_norm ?_) | (with_reducible refine b_ret ?_) | (with_reducible refine b_exit ?_) | (with_reducible refine b_past (by decide) ?_)
      | (refine xr_cl (f := ?_) (fs := ?_) (cs := ?_) (args := ?_) (K := ?_) ?_ ?_ ?_ ?_ ?_
         rotate_left 5
         · simp only [ev]; rfl
         first
         | (· with_reducible exact Ty.ok32
            rotate_left 2
            refine hk_tag 32 ?_
            rotate_right 2)
         )
      | (refine xr_gcl (f := ?_) (fs := ?_) (cs := ?_) (args := ?_) (K := ?_) (by exact rfl) ?_ ?_ ?_ ?_ ?_ ?_
         rotate_left 5
         · simp only [ev, put_some, reduceIte, Nat.reduceEqDiff, Bool.not_true, Bool.not_false, *]
         · simp only [ev]; rfl
         first
         | (· with_reducible exact Ty.ok32
            rotate_left 2
            refine hk_tag 32 ?_
            rotate_right 2)
         )
      | (refine xr_do (v := ?_) (h' := ?_) (by exact rfl) ?_ ?_; rotate_left 2)
      | (refine xr_st (v := ?_) (h' := ?_) (by exact rfl) ?_ ?_; rotate_left 2)
      | (refine xr_gdo (v := ?_) (h' := ?_) (by exact rfl) (by exact rfl) ?_ ?_ ?_
         rotate_left 2
         · simp only [ev, put_some, reduceIte, Nat.reduceEqDiff, Bool.not_true, Bool.not_false, *])
      | (refine xr_gst (v := ?_) (h' := ?_) (by exact rfl) (by exact rfl) ?_ ?_ ?_
         rotate_left 2
         · simp only [ev, put_some, reduceIte, Nat.reduceEqDiff, Bool.not_true, Bool.not_false, *])
      | (refine xr_goff (by exact rfl) ?_ ?_
         · simp only [ev, put_some, reduceIte, Nat.reduceEqDiff, Bool.not_true, Bool.not_false, *])
      | (refine xr_gsoff (by exact rfl) ?_ ?_
         · simp only [ev, put_some, reduceIte, Nat.reduceEqDiff, Bool.not_true, Bool.not_false, *])
      | (refine xr_gund (by exact rfl) ?_ ?_
         · simp only [ev, put_some, reduceIte, Nat.reduceEqDiff, Bool.not_true, Bool.not_false, *])
      | (refine xr_gsund (by exact rfl) ?_ ?_
         · simp only [ev, put_some, reduceIte, Nat.reduceEqDiff, Bool.not_true, Bool.not_false, *])
      | (refine xr_gif (b := ?_) (by exact rfl) ?_ (fun hb => ?_) (fun hb => ?_)
         rotate_left 1
         · simp only [ev, put_some, reduceIte, Nat.reduceEqDiff, Bool.not_true, Bool.not_false, *]; rfl)
      | (refine aw_ift (by decide) ?_ ?_
         · simp only [ev, put_some, reduceIte, Nat.reduceEqDiff, *])
      | (refine aw_iff (by decide) ?_ ?_
         · simp only [ev, put_some, reduceIte, Nat.reduceEqDiff, *])
      | (refine aw_if (b := ?_) (by decide) ?_ (fun hb => ?_) (fun hb => ?_)
         rotate_left 1
         · simp only [ev, put_some, reduceIte, Nat.reduceEqDiff, *]; rfl)
      | (refine r_ret (vs := ?_) ?_ ?_
         rotate_left 1
         · simp only [resV, ev, put_some, reduceIte, Nat.reduceEqDiff, Option.map_some, *]; rfl)
      | (with_reducible exact l1In_ok _ _ _ _)
      | ((with_reducible refine HkTag.mk (n := 32) ?_); rintro _ _ ⟨rfl, hh⟩; replace hh := hh.symm; subst hh)
      )
    exact ⟨rfl, _, (List.append_nil h).symm⟩
  | true =>
    refine acalls_fn Try.func45 rfl Try.ntmps45 (by simp) (by dsimp only [Try.f45]) ?_
    repeat' (first
      | ((with_reducible refine eq_go ?_); simp only [stp, ev, put_some, put_none, argT_list, List.getD_cons_zero, List.getD_cons_succ, reduceIte, Nat.reduceEqDiff, Option.map_some, Array.map_empty, List.map_toArray, List.map_cons, List.map_nil, List.append_toArray, Array.append_empty, Array.empty_append, List.nil_append, List.append_nil, and_self, if_true, decide_true, decide_false, Int.toNat_natCast, Int.natCast_nonneg, List.length_map, binV_add, binV_sub, binV_and, binV_shr, binV_shl, binV_str_eql, binV_str_neq, binV_mul, binV_eql, binV_neq, binV_lss, binV_leq, binV_gtr, binV_geq, unV_not, Bool.not_true, Bool.not_false, Bool.cond_true, Bool.cond_false, ldv, stv, vcs, fldA, idxA, blt, lenV, List.size_toArray, List.length_cons, List.length_nil, Nat.zero_add, Array.getD_eq_getD_getElem?, List.getElem?_toArray, List.getElem?_cons_zero, List.getElem?_cons_succ, Option.getD_some, Option.isSome_some, Nat.add_assoc, List.toList_toArray, eq_self, Option.bind_some, List.append_assoc, List.cons_append, List.length_append, List.length_cons, List.length_nil, Nat.zero_add, Nat.add_zero, Nat.reduceAdd, Nat.reduceMul, Nat.reduceLeDiff, mset_some, mset_none, set_at, set_at0, killL_nil, killL_cons, getC_succ2, getC_succ3, getC_succ4, getC_succ5, getC_succ6, loadCs_succ2, loadCs_succ3, loadCs_succ4, loadCs_succ5, loadCs_succ6, setCs_succ2, setCs_succ3, setCs_succ4, setCs_succ5, setCs_succ6, getC_at, getC_at0, getC_zero, getC_succ, loadCs_at, loadCs_at0, loadCs_zero, loadCs_succ, setCs_at, setCs_at0, setCs_zero, setCs_succ, splice, List.set_cons_succ, List.set_cons_zero, List.getElem?_cons_zero, List.getElem?_cons_succ, List.drop_zero, List.drop_succ_cons, List.take_succ_cons, List.take_zero, newB, vcs, flat_int, flat_bool, flat_string, flat_slice, flat_pointer, flat_func, flat_nilFunc, List.all_cons, List.all_nil, Bool.and_true, Bool.and_self, Ty.ld3, Ty.sz3, Ty.zc3, Ty.by3, Ty.ld48, Ty.sz48, Ty.sl48, Ty.zc48, Ty.by48, Ty.ld70, Ty.sz70, Ty.zc70, Ty.by70, Ty.fl70_0, Ty.fl70_1, *]; rfl)
      | (with_reducible refine aw_then ?_) | (with_reducible refine aw_skip ?_) | (with_reducible refine aw_ret ?_) | (with_reducible refine aw_exit ?_) | (with_reducible refine aw_block ?_) | (with_reducible refine xr_reg (by decide +kernel) ?_)
      | (with_reducible refine xr_nil ?_) | (with_reducible refine k_norm ?_) | (with_reducible refine k_ret ?_) | (with_reducible refine k_exit ?_) | (with_reducible refine b_norm ?_) | (with_reducible refine b_ret ?_) | (with_reducible refine b_exit ?_) | (with_reducible refine b_past (by decide) ?_)
      | (refine xr_cl (f := ?_) (fs := ?_) (cs := ?_) (args := ?_) (K := ?_) ?_ ?_ ?_ ?_ ?_
         rotate_left 5
         · simp only [ev]; rfl
         first
         | (· with_reducible exact Ty.ok32
            rotate_left 2
            refine hk_tag 32 ?_
            rotate_right 2)
         )
      | (refine xr_gcl (f := ?_) (fs := ?_) (cs := ?_) (args := ?_) (K := ?_) (by exact rfl) ?_ ?_ ?_ ?_ ?_ ?_
         rotate_left 5
         · simp only [ev, put_some, reduceIte, Nat.reduceEqDiff, Bool.not_true, Bool.not_false, *]
         · simp only [ev]; rfl
         first
         | (· with_reducible exact Ty.ok32
            rotate_left 2
            refine hk_tag 32 ?_
            rotate_right 2)
         )
      | (refine xr_do (v := ?_) (h' := ?_) (by exact rfl) ?_ ?_; rotate_left 2)
      | (refine xr_st (v := ?_) (h' := ?_) (by exact rfl) ?_ ?_; rotate_left 2)
      | (refine xr_gdo (v := ?_) (h' := ?_) (by exact rfl) (by exact rfl) ?_ ?_ ?_
         rotate_left 2
         · simp only [ev, put_some, reduceIte, Nat.reduceEqDiff, Bool.not_true, Bool.not_false, *])
      | (refine xr_gst (v := ?_) (h' := ?_) (by exact rfl) (by exact rfl) ?_ ?_ ?_
         rotate_left 2
         · simp only [ev, put_some, reduceIte, Nat.reduceEqDiff, Bool.not_true, Bool.not_false, *])
      | (refine xr_goff (by exact rfl) ?_ ?_
         · simp only [ev, put_some, reduceIte, Nat.reduceEqDiff, Bool.not_true, Bool.not_false, *])
      | (refine xr_gsoff (by exact rfl) ?_ ?_
         · simp only [ev, put_some, reduceIte, Nat.reduceEqDiff, Bool.not_true, Bool.not_false, *])
      | (refine xr_gund (by exact rfl) ?_ ?_
         · simp only [ev, put_some, reduceIte, Nat.reduceEqDiff, Bool.not_true, Bool.not_false, *])
      | (refine xr_gsund (by exact rfl) ?_ ?_
         · simp only [ev, put_some, reduceIte, Nat.reduceEqDiff, Bool.not_true, Bool.not_false, *])
      | (refine xr_gif (b := ?_) (by exact rfl) ?_ (fun hb => ?_) (fun hb => ?_)
         rotate_left 1
         · simp only [ev, put_some, reduceIte, Nat.reduceEqDiff, Bool.not_true, Bool.not_false, *]; rfl)
      | (refine aw_ift (by decide) ?_ ?_
         · simp only [ev, put_some, reduceIte, Nat.reduceEqDiff, *])
      | (refine aw_iff (by decide) ?_ ?_
         · simp only [ev, put_some, reduceIte, Nat.reduceEqDiff, *])
      | (refine aw_if (b := ?_) (by decide) ?_ (fun hb => ?_) (fun hb => ?_)
         rotate_left 1
         · simp only [ev, put_some, reduceIte, Nat.reduceEqDiff, *]; rfl)
      | (refine r_ret (vs := ?_) ?_ ?_
         rotate_left 1
         · simp only [resV, ev, put_some, reduceIte, Nat.reduceEqDiff, Option.map_some, *]; rfl)
      | (with_reducible exact l1In_ok _ _ _ _)
      | ((with_reducible refine HkTag.mk (n := 32) ?_); rintro _ _ ⟨rfl, hh⟩; replace hh := hh.symm; subst hh)
      )
    refine aw_for [10, 11] (fun k T h' => ∃ L d, h' = h ++ L ∧ T 12 = .int .i64 (k : Nat) ∧ T 3 = .int .i64 d ∧ pile (l.take k) 0 = some d) l.length (k0 := 0) (Nat.zero_le _) ⟨[], 0, (List.append_nil h).symm, rfl, rfl, rfl⟩ ?_
    rintro k T h' hk hR ⟨L, d, rfl, h12, h3, hp⟩
    simp only [List.forall_mem_cons, List.not_mem_nil, false_implies, implies_true, and_true, stp, ev, put_some, put_none, argT_list, List.getD_cons_zero, List.getD_cons_succ, reduceIte, Nat.reduceEqDiff, Option.map_some, Array.map_empty, List.map_toArray, List.map_cons, List.map_nil, List.append_toArray, Array.append_empty, Array.empty_append, List.nil_append, List.append_nil, and_self, if_true, decide_true, decide_false, Int.toNat_natCast, Int.natCast_nonneg, List.length_map, binV_add, binV_sub, binV_and, binV_shr, binV_shl, binV_str_eql, binV_str_neq, binV_mul, binV_eql, binV_neq, binV_lss, binV_leq, binV_gtr, binV_geq, unV_not, Bool.not_true, Bool.not_false, Bool.cond_true, Bool.cond_false] at hR
    have hdr := pile_range _ _ _ (Int.le_refl 0) hp
    rcases Nat.lt_or_ge k l.length with hkn | hkn
    · have h1 : (k : Int) < l.length := by omega
      obtain ⟨a, rfl, hld0⟩ := Sl.row hrow (k := k) (by simpa using hkn)
      rw [List.getElem_map] at hld0
      have hld := loadCs_old hld0
      have hst : pile (l.take (k + 1)) 0 = pileB l[k] d := by
        rw [← List.take_append_getElem hkn, pile_app, hp]; simp [pile]
      repeat' (first
        | ((with_reducible refine eq_go ?_); simp only [stp, ev, put_some, put_none, argT_list, List.getD_cons_zero, List.getD_cons_succ, reduceIte, Nat.reduceEqDiff, Option.map_some, Array.map_empty, List.map_toArray, List.map_cons, List.map_nil, List.append_toArray, Array.append_empty, Array.empty_append, List.nil_append, List.append_nil, and_self, if_true, decide_true, decide_false, Int.toNat_natCast, Int.natCast_nonneg, List.length_map, binV_add, binV_sub, binV_and, binV_shr, binV_shl, binV_str_eql, binV_str_neq, binV_mul, binV_eql, binV_neq, binV_lss, binV_leq, binV_gtr, binV_geq, unV_not, Bool.not_true, Bool.not_false, Bool.cond_true, Bool.cond_false, ldv, stv, vcs, fldA, idxA, blt, lenV, List.size_toArray, List.length_cons, List.length_nil, Nat.zero_add, Array.getD_eq_getD_getElem?, List.getElem?_toArray, List.getElem?_cons_zero, List.getElem?_cons_succ, Option.getD_some, Option.isSome_some, Nat.add_assoc, List.toList_toArray, eq_self, Option.bind_some, List.append_assoc, List.cons_append, List.length_append, List.length_cons, List.length_nil, Nat.zero_add, Nat.add_zero, Nat.reduceAdd, Nat.reduceMul, Nat.reduceLeDiff, mset_some, mset_none, set_at, set_at0, killL_nil, killL_cons, getC_succ2, getC_succ3, getC_succ4, getC_succ5, getC_succ6, loadCs_succ2, loadCs_succ3, loadCs_succ4, loadCs_succ5, loadCs_succ6, setCs_succ2, setCs_succ3, setCs_succ4, setCs_succ5, setCs_succ6, getC_at, getC_at0, getC_zero, getC_succ, loadCs_at, loadCs_at0, loadCs_zero, loadCs_succ, setCs_at, setCs_at0, setCs_zero, setCs_succ, splice, List.set_cons_succ, List.set_cons_zero, List.getElem?_cons_zero, List.getElem?_cons_succ, List.drop_zero, List.drop_succ_cons, List.take_succ_cons, List.take_zero, newB, vcs, flat_int, flat_bool, flat_string, flat_slice, flat_pointer, flat_func, flat_nilFunc, List.all_cons, List.all_nil, Bool.and_true, Bool.and_self, Ty.ld3, Ty.sz3, Ty.zc3, Ty.by3, Ty.ld48, Ty.sz48, Ty.sl48, Ty.zc48, Ty.by48, Ty.ld70, Ty.sz70, Ty.zc70, Ty.by70, Ty.fl70_0, Ty.fl70_1, Br.cells_length, Br.cells_flat, Br.cells_take, Br.cells_splice, Br.get0, Br.get1, *]; rfl)
        | (with_reducible refine aw_then ?_) | (with_reducible refine aw_skip ?_) | (with_reducible refine aw_ret ?_) | (with_reducible refine aw_exit ?_) | (with_reducible refine aw_block ?_) | (with_reducible refine xr_reg (by decide +kernel) ?_)
        | (with_reducible refine xr_nil ?_) | (with_reducible refine k_norm ?_) | (with_reducible refine k_ret ?_) | (with_reducible refine k_exit ?_) | (with_reducible refine b_norm ?_) | (with_reducible refine b_ret ?_) | (with_reducible refine b_exit ?_) | (with_reducible refine b_past (by decide) ?_)
        | (refine xr_cl (f := ?_) (fs := ?_) (cs := ?_) (args := ?_) (K := ?_) ?_ ?_ ?_ ?_ ?_
           rotate_left 5
           · simp only [ev]; rfl
           first
           | (· with_reducible exact Ty.ok32
              rotate_left 2
              refine hk_tag 32 ?_
              rotate_right 2)
           )
        | (refine xr_gcl (f := ?_) (fs := ?_) (cs := ?_) (args := ?_) (K := ?_) (by exact rfl) ?_ ?_ ?_ ?_ ?_ ?_
           rotate_left 5
           · simp only [ev, put_some, reduceIte, Nat.reduceEqDiff, Bool.not_true, Bool.not_false, *]
           · simp only [ev]; rfl
           first
           | (· with_reducible exact Ty.ok32
              rotate_left 2
              refine hk_tag 32 ?_
              rotate_right 2)
           )
        | (refine xr_do (v := ?_) (h' := ?_) (by exact rfl) ?_ ?_; rotate_left 2)
        | (refine xr_st (v := ?_) (h' := ?_) (by exact rfl) ?_ ?_; rotate_left 2)
        | (refine xr_gdo (v := ?_) (h' := ?_) (by exact rfl) (by exact rfl) ?_ ?_ ?_
           rotate_left 2
           · simp only [ev, put_some, reduceIte, Nat.reduceEqDiff, Bool.not_true, Bool.not_false, *])
        | (refine xr_gst (v := ?_) (h' := ?_) (by exact rfl) (by exact rfl) ?_ ?_ ?_
           rotate_left 2
           · simp only [ev, put_some, reduceIte, Nat.reduceEqDiff, Bool.not_true, Bool.not_false, *])
        | (refine xr_goff (by exact rfl) ?_ ?_
           · simp only [ev, put_some, reduceIte, Nat.reduceEqDiff, Bool.not_true, Bool.not_false, *])
        | (refine xr_gsoff (by exact rfl) ?_ ?_
           · simp only [ev, put_some, reduceIte, Nat.reduceEqDiff, Bool.not_true, Bool.not_false, *])
        | (refine xr_gund (by exact rfl) ?_ ?_
           · simp only [ev, put_some, reduceIte, Nat.reduceEqDiff, Bool.not_true, Bool.not_false, *])
        | (refine xr_gsund (by exact rfl) ?_ ?_
           · simp only [ev, put_some, reduceIte, Nat.reduceEqDiff, Bool.not_true, Bool.not_false, *])
        | (refine xr_gif (b := ?_) (by exact rfl) ?_ (fun hb => ?_) (fun hb => ?_)
           rotate_left 1
           · simp only [ev, put_some, reduceIte, Nat.reduceEqDiff, Bool.not_true, Bool.not_false, *]; rfl)
        | (refine aw_ift (by decide) ?_ ?_
           · simp only [ev, put_some, reduceIte, Nat.reduceEqDiff, *])
        | (refine aw_iff (by decide) ?_ ?_
           · simp only [ev, put_some, reduceIte, Nat.reduceEqDiff, *])
        | (refine aw_if (b := ?_) (by decide) ?_ (fun hb => ?_) (fun hb => ?_)
           rotate_left 1
           · simp only [ev, put_some, reduceIte, Nat.reduceEqDiff, *]; rfl)
        | (refine r_ret (vs := ?_) ?_ ?_
           rotate_left 1
           · simp only [resV, ev, put_some, reduceIte, Nat.reduceEqDiff, Option.map_some, *]; rfl)
        | (with_reducible exact l1In_ok _ _ _ _)
        | ((with_reducible refine HkTag.mk (n := 32) ?_); rintro _ _ ⟨rfl, hh⟩; replace hh := hh.symm; subst hh)
        )
      all_goals simp only [decide_eq_true_eq, decide_eq_false_iff_not, Bool.not_eq_true', Bool.not_eq_false'] at *
      all_goals first
        | (have hpb : pileB l[k] d = some (d + 1) := by (unfold pileB; (repeat' split) <;> first | rfl | (exfalso; omega))
           refine ⟨hkn, ?_, L ++ [⟨2, 1, l[k].cells⟩], d + 1, by first | rfl | (simp only [List.append_assoc]), ?_, ?_, hst.trans hpb⟩
           · simp only [List.forall_mem_cons, List.not_mem_nil, false_implies, implies_true, and_true, put_some, reduceIte, Nat.reduceEqDiff, hR, and_self]
           · simp only [put_some, reduceIte, Nat.reduceEqDiff]; rw [wrap_id (by omega)]; rfl
           · simp only [put_some, reduceIte, Nat.reduceEqDiff]; rw [wrap_id (by simp only [List.length_take] at hdr; omega)])
        | (have hpb : pileB l[k] d = some (d - 1) := by (unfold pileB; (repeat' split) <;> first | rfl | (exfalso; omega))
           refine ⟨hkn, ?_, L ++ [⟨2, 1, l[k].cells⟩], d - 1, by first | rfl | (simp only [List.append_assoc]), ?_, ?_, hst.trans hpb⟩
           · simp only [List.forall_mem_cons, List.not_mem_nil, false_implies, implies_true, and_true, put_some, reduceIte, Nat.reduceEqDiff, hR, and_self]
           · simp only [put_some, reduceIte, Nat.reduceEqDiff]; rw [wrap_id (by omega)]; rfl
           · simp only [put_some, reduceIte, Nat.reduceEqDiff]; rw [wrap_id (by simp only [List.length_take] at hdr; omega)])
        | (have hpb : pileB l[k] d = none := by (unfold pileB; (repeat' split) <;> first | rfl | (exfalso; omega))
           have hno : pile l 0 = none := by
             rw [← List.take_append_drop (k + 1) l, pile_app, hst.trans hpb]; rfl
           refine ⟨?_, _, by first | rfl | (simp only [List.append_assoc]; rfl)⟩
           simp [oneOf, hno])
    · have h1 : ¬ (k : Int) < l.length := by omega
      rw [List.take_of_length_le hkn] at hp
      repeat' (first
        | ((with_reducible refine eq_go ?_); simp only [stp, ev, put_some, put_none, argT_list, List.getD_cons_zero, List.getD_cons_succ, reduceIte, Nat.reduceEqDiff, Option.map_some, Array.map_empty, List.map_toArray, List.map_cons, List.map_nil, List.append_toArray, Array.append_empty, Array.empty_append, List.nil_append, List.append_nil, and_self, if_true, decide_true, decide_false, Int.toNat_natCast, Int.natCast_nonneg, List.length_map, binV_add, binV_sub, binV_and, binV_shr, binV_shl, binV_str_eql, binV_str_neq, binV_mul, binV_eql, binV_neq, binV_lss, binV_leq, binV_gtr, binV_geq, unV_not, Bool.not_true, Bool.not_false, Bool.cond_true, Bool.cond_false, ldv, stv, vcs, fldA, idxA, blt, lenV, List.size_toArray, List.length_cons, List.length_nil, Nat.zero_add, Array.getD_eq_getD_getElem?, List.getElem?_toArray, List.getElem?_cons_zero, List.getElem?_cons_succ, Option.getD_some, Option.isSome_some, Nat.add_assoc, List.toList_toArray, eq_self, Option.bind_some, List.append_assoc, List.cons_append, List.length_append, List.length_cons, List.length_nil, Nat.zero_add, Nat.add_zero, Nat.reduceAdd, Nat.reduceMul, Nat.reduceLeDiff, mset_some, mset_none, set_at, set_at0, killL_nil, killL_cons, getC_succ2, getC_succ3, getC_succ4, getC_succ5, getC_succ6, loadCs_succ2, loadCs_succ3, loadCs_succ4, loadCs_succ5, loadCs_succ6, setCs_succ2, setCs_succ3, setCs_succ4, setCs_succ5, setCs_succ6, getC_at, getC_at0, getC_zero, getC_succ, loadCs_at, loadCs_at0, loadCs_zero, loadCs_succ, setCs_at, setCs_at0, setCs_zero, setCs_succ, splice, List.set_cons_succ, List.set_cons_zero, List.getElem?_cons_zero, List.getElem?_cons_succ, List.drop_zero, List.drop_succ_cons, List.take_succ_cons, List.take_zero, newB, vcs, flat_int, flat_bool, flat_string, flat_slice, flat_pointer, flat_func, flat_nilFunc, List.all_cons, List.all_nil, Bool.and_true, Bool.and_self, Ty.ld3, Ty.sz3, Ty.zc3, Ty.by3, Ty.ld48, Ty.sz48, Ty.sl48, Ty.zc48, Ty.by48, Ty.ld70, Ty.sz70, Ty.zc70, Ty.by70, Ty.fl70_0, Ty.fl70_1, *]; rfl)
        | (with_reducible refine aw_then ?_) | (with_reducible refine aw_skip ?_) | (with_reducible refine aw_ret ?_) | (with_reducible refine aw_exit ?_) | (with_reducible refine aw_block ?_) | (with_reducible refine xr_reg (by decide +kernel) ?_)
        | (with_reducible refine xr_nil ?_) | (with_reducible refine k_norm ?_) | (with_reducible refine k_ret ?_) | (with_reducible refine k_exit ?_) | (with_reducible refine b_norm ?_) | (with_reducible refine b_ret ?_) | (with_reducible refine b_exit ?_) | (with_reducible refine b_past (by decide) ?_)
        | (refine xr_cl (f := ?_) (fs := ?_) (cs := ?_) (args := ?_) (K := ?_) ?_ ?_ ?_ ?_ ?_
           rotate_left 5
           · simp only [ev]; rfl
           first
           | (· with_reducible exact Ty.ok32
              rotate_left 2
              refine hk_tag 32 ?_
              rotate_right 2)
           )
        | (refine xr_gcl (f := ?_) (fs := ?_) (cs := ?_) (args := ?_) (K := ?_) (by exact rfl) ?_ ?_ ?_ ?_ ?_ ?_
           rotate_left 5
           · simp only [ev, put_some, reduceIte, Nat.reduceEqDiff, Bool.not_true, Bool.not_false, *]
           · simp only [ev]; rfl
           first
           | (· with_reducible exact Ty.ok32
              rotate_left 2
              refine hk_tag 32 ?_
              rotate_right 2)
           )
        | (refine xr_do (v := ?_) (h' := ?_) (by exact rfl) ?_ ?_; rotate_left 2)
        | (refine xr_st (v := ?_) (h' := ?_) (by exact rfl) ?_ ?_; rotate_left 2)
        | (refine xr_gdo (v := ?_) (h' := ?_) (by exact rfl) (by exact rfl) ?_ ?_ ?_
           rotate_left 2
           · simp only [ev, put_some, reduceIte, Nat.reduceEqDiff, Bool.not_true, Bool.not_false, *])
        | (refine xr_gst (v := ?_) (h' := ?_) (by exact rfl) (by exact rfl) ?_ ?_ ?_
           rotate_left 2
           · simp only [ev, put_some, reduceIte, Nat.reduceEqDiff, Bool.not_true, Bool.not_false, *])
        | (refine xr_goff (by exact rfl) ?_ ?_
           · simp only [ev, put_some, reduceIte, Nat.reduceEqDiff, Bool.not_true, Bool.not_false, *])
        | (refine xr_gsoff (by exact rfl) ?_ ?_
           · simp only [ev, put_some, reduceIte, Nat.reduceEqDiff, Bool.not_true, Bool.not_false, *])
        | (refine xr_gund (by exact rfl) ?_ ?_
           · simp only [ev, put_some, reduceIte, Nat.reduceEqDiff, Bool.not_true, Bool.not_false, *])
        | (refine xr_gsund (by exact rfl) ?_ ?_
           · simp only [ev, put_some, reduceIte, Nat.reduceEqDiff, Bool.not_true, Bool.not_false, *])
        | (refine xr_gif (b := ?_) (by exact rfl) ?_ (fun hb => ?_) (fun hb => ?_)
           rotate_left 1
           · simp only [ev, put_some, reduceIte, Nat.reduceEqDiff, Bool.not_true, Bool.not_false, *]; rfl)
        | (refine aw_ift (by decide) ?_ ?_
           · simp only [ev, put_some, reduceIte, Nat.reduceEqDiff, *])
        | (refine aw_iff (by decide) ?_ ?_
           · simp only [ev, put_some, reduceIte, Nat.reduceEqDiff, *])
        | (refine aw_if (b := ?_) (by decide) ?_ (fun hb => ?_) (fun hb => ?_)
           rotate_left 1
           · simp only [ev, put_some, reduceIte, Nat.reduceEqDiff, *]; rfl)
        | (refine r_ret (vs := ?_) ?_ ?_
           rotate_left 1
           · simp only [resV, ev, put_some, reduceIte, Nat.reduceEqDiff, Option.map_some, *]; rfl)
        | (with_reducible exact l1In_ok _ _ _ _)
        | ((with_reducible refine HkTag.mk (n := 32) ?_); rintro _ _ ⟨rfl, hh⟩; replace hh := hh.symm; subst hh)
        )
      refine ⟨?_, _, rfl⟩
      simp [oneOf, hp]
end Go.Proofs.Ytkmenomglhddlaa.Am

