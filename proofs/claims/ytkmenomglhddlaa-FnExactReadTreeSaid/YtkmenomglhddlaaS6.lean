/- Walk of the program's reader of trees. Conditions: none. -/
import Derived.Test.YtkmenomglhddlaaS5
namespace Go.Proofs.Ytkmenomglhddlaa.Am
open Go Go.Proofs Go.RowKit
set_option linter.unusedVariables false
set_option linter.unusedSimpArgs false
set_option maxRecDepth 100000
set_option maxHeartbeats 8000000

/-- The reader's cells. -/
def rdr (s : ByteArray) (p : Nat) (v : Value) : List Value := [.string s, .int .i64 p, v]
def nxtB (s : ByteArray) (p : Nat) : Int := if p = s.size then 0 else bt s p
theorem nxtB_range (s : ByteArray) (p : Nat) : 0 ≤ nxtB s p ∧ nxtB s p ≤ 255 := by
  unfold nxtB
  split
  · omega
  · exact bt_range s p

theorem next_ok (s : ByteArray) (p : Nat) (v : Value) (h L : Heap) (hv : flat v = true) (hp : p ≤ s.size) (hs : s.size ≤ 1048576) :
    ACalls Try.prog 0 54 #[.pointer (some ⟨h.length, 0, none⟩)] (h ++ ⟨2, 1, [.string s, .int .i64 (p : Nat), v]⟩ :: L) fun w h' => w = .int .u8 (nxtB s p) ∧ h' = h ++ ⟨2, 1, [.string s, .int .i64 (p : Nat), v]⟩ :: L := by
  by_cases h1 : p = s.size
  · subst h1
    have hn : nxtB s s.size = 0 := if_pos rfl
    rw [hn]
    clear hn
    refine acalls_fn Try.func54 rfl Try.ntmps54 (by simp) (by dsimp only [Try.f54]) ?_
    repeat' (first
      | ((with_reducible refine eq_go ?_); simp only [stp, ev, put_some, put_none, argT_list, List.getD_cons_zero, List.getD_cons_succ, reduceIte, Nat.reduceEqDiff, Option.map_some, Array.map_empty, List.map_toArray, List.map_cons, List.map_nil, List.append_toArray, Array.append_empty, Array.empty_append, List.nil_append, List.append_nil, and_self, if_true, decide_true, decide_false, Int.toNat_natCast, Int.natCast_nonneg, List.length_map, binV_add, binV_sub, binV_and, binV_shr, binV_shl, binV_str_eql, binV_str_neq, binV_mul, binV_eql, binV_neq, binV_lss, binV_leq, binV_gtr, binV_geq, unV_not, Bool.not_true, Bool.not_false, Bool.cond_true, Bool.cond_false, ldv, fldA, blt, lenV, List.size_toArray, List.length_cons, List.length_nil, Nat.zero_add, Array.getD_eq_getD_getElem?, List.getElem?_toArray, List.getElem?_cons_zero, List.getElem?_cons_succ, Option.getD_some, Option.isSome_some, Nat.add_assoc, List.toList_toArray, eq_self, Option.bind_some, List.append_assoc, List.cons_append, List.length_append, List.length_cons, List.length_nil, Nat.zero_add, Nat.add_zero, Nat.reduceAdd, Nat.reduceMul, Nat.reduceLeDiff, mset_some, mset_none, set_at, set_at0, killL_nil, killL_cons, getC_succ2, getC_succ3, getC_succ4, getC_succ5, getC_succ6, loadCs_succ2, loadCs_succ3, loadCs_succ4, loadCs_succ5, loadCs_succ6, setCs_succ2, setCs_succ3, setCs_succ4, setCs_succ5, setCs_succ6, getC_at, getC_at0, getC_zero, getC_succ, loadCs_at, loadCs_at0, loadCs_zero, loadCs_succ, setCs_at, setCs_at0, setCs_zero, setCs_succ, splice, List.set_cons_succ, List.set_cons_zero, List.getElem?_cons_zero, List.getElem?_cons_succ, List.drop_zero, List.drop_succ_cons, List.take_succ_cons, List.take_zero, newB, vcs, flat_int, flat_bool, flat_string, flat_slice, flat_pointer, flat_func, flat_nilFunc, List.all_cons, List.all_nil, Bool.and_true, Bool.and_self, Ty.ld3, Ty.sz3, Ty.zc3, Ty.by3, Ty.ld9, Ty.sz9, Ty.st9, Ty.zc9, Ty.by9, Ty.ld48, Ty.sz48, Ty.sl48, Ty.zc48, Ty.by48, Ty.ld66, Ty.sz66, Ty.zc66, Ty.by66, Ty.fl66_0, Ty.fl66_1, Ty.fl66_2, Ty.ld70, Ty.sz70, Ty.zc70, Ty.by70, Ty.fl70_0, Ty.fl70_1, *]; rfl)
      | (with_reducible refine aw_then ?_) | (with_reducible refine aw_skip ?_) | (with_reducible refine aw_ret ?_) | (with_reducible refine aw_exit ?_) | (with_reducible refine aw_block ?_) | (with_reducible refine xr_reg (by decide +kernel) ?_)
      | (with_reducible refine xr_nil ?_) | (with_reducible refine k_norm ?_) | (with_reducible refine k_ret ?_) | (with_reducible refine k_exit ?_) | (with_reducible refine b_norm ?_) | (with_reducible refine b_ret ?_) | (with_reducible refine b_exit ?_) | (with_reducible refine b_past (by decide) ?_)
      | (with_reducible refine xd_nil ?_)
      | (refine xr_do (v := ?_) (h' := ?_) (by exact rfl) ?_ ?_; rotate_left 2)
      | (refine xr_st (v := ?_) (h' := ?_) (by exact rfl) ?_ ?_; rotate_left 2)
      | (refine xd_reg (ms := [0, 1, 3, 7, 0, 16, 48, 112, 240, 511]) Ty.mx (by decide +kernel) (by decide +kernel) ?_)
      | (refine xd_reg (ms := [0, 1, 3, 7, 0, 16, 48, 112, 255, 511]) Ty.mx (by decide +kernel) (by decide +kernel) ?_)
      | (refine xd_do (v := ?_) (by exact rfl) (by decide +kernel) ?_ ?_; rotate_left 1)
      | (refine aw_ift (by decide) ?_ ?_
         · simp only [ev, put_some, reduceIte, Nat.reduceEqDiff, *])
      | (refine aw_iff (by decide) ?_ ?_
         · simp only [ev, put_some, reduceIte, Nat.reduceEqDiff, *])
      | (refine aw_if (b := ?_) (by decide) ?_ (fun hb => ?_) (fun hb => ?_)
         rotate_left 1
         · simp only [ev, put_some, reduceIte, Nat.reduceEqDiff, *]; rfl)
      | (refine r_ret (vs := ?_) ?_ ?_
         rotate_left 1
         · simp only [resV, ev, put_some, reduceIte, Nat.reduceEqDiff, Option.map_some, *]; rfl)
      )
    exact ⟨rfl, rfl⟩
  · have h1' : ¬ (p : Int) = s.size := by omega
    have hn : nxtB s p = bt s p := if_neg h1
    have hix := bt_idx (P := Try.prog) Ty.st9 s (show p < s.size by omega) .i64
    rw [hn]
    clear hn h1
    refine acalls_fn Try.func54 rfl Try.ntmps54 (by simp) (by dsimp only [Try.f54]) ?_
    repeat' (first
      | ((with_reducible refine eq_go ?_); simp only [stp, ev, put_some, put_none, argT_list, List.getD_cons_zero, List.getD_cons_succ, reduceIte, Nat.reduceEqDiff, Option.map_some, Array.map_empty, List.map_toArray, List.map_cons, List.map_nil, List.append_toArray, Array.append_empty, Array.empty_append, List.nil_append, List.append_nil, and_self, if_true, decide_true, decide_false, Int.toNat_natCast, Int.natCast_nonneg, List.length_map, binV_add, binV_sub, binV_and, binV_shr, binV_shl, binV_str_eql, binV_str_neq, binV_mul, binV_eql, binV_neq, binV_lss, binV_leq, binV_gtr, binV_geq, unV_not, Bool.not_true, Bool.not_false, Bool.cond_true, Bool.cond_false, ldv, fldA, blt, lenV, List.size_toArray, List.length_cons, List.length_nil, Nat.zero_add, Array.getD_eq_getD_getElem?, List.getElem?_toArray, List.getElem?_cons_zero, List.getElem?_cons_succ, Option.getD_some, Option.isSome_some, Nat.add_assoc, List.toList_toArray, eq_self, Option.bind_some, List.append_assoc, List.cons_append, List.length_append, List.length_cons, List.length_nil, Nat.zero_add, Nat.add_zero, Nat.reduceAdd, Nat.reduceMul, Nat.reduceLeDiff, mset_some, mset_none, set_at, set_at0, killL_nil, killL_cons, getC_succ2, getC_succ3, getC_succ4, getC_succ5, getC_succ6, loadCs_succ2, loadCs_succ3, loadCs_succ4, loadCs_succ5, loadCs_succ6, setCs_succ2, setCs_succ3, setCs_succ4, setCs_succ5, setCs_succ6, getC_at, getC_at0, getC_zero, getC_succ, loadCs_at, loadCs_at0, loadCs_zero, loadCs_succ, setCs_at, setCs_at0, setCs_zero, setCs_succ, splice, List.set_cons_succ, List.set_cons_zero, List.getElem?_cons_zero, List.getElem?_cons_succ, List.drop_zero, List.drop_succ_cons, List.take_succ_cons, List.take_zero, newB, vcs, flat_int, flat_bool, flat_string, flat_slice, flat_pointer, flat_func, flat_nilFunc, List.all_cons, List.all_nil, Bool.and_true, Bool.and_self, Ty.ld3, Ty.sz3, Ty.zc3, Ty.by3, Ty.ld9, Ty.sz9, Ty.st9, Ty.zc9, Ty.by9, Ty.ld48, Ty.sz48, Ty.sl48, Ty.zc48, Ty.by48, Ty.ld66, Ty.sz66, Ty.zc66, Ty.by66, Ty.fl66_0, Ty.fl66_1, Ty.fl66_2, Ty.ld70, Ty.sz70, Ty.zc70, Ty.by70, Ty.fl70_0, Ty.fl70_1, *]; rfl)
      | (with_reducible refine aw_then ?_) | (with_reducible refine aw_skip ?_) | (with_reducible refine aw_ret ?_) | (with_reducible refine aw_exit ?_) | (with_reducible refine aw_block ?_) | (with_reducible refine xr_reg (by decide +kernel) ?_)
      | (with_reducible refine xr_nil ?_) | (with_reducible refine k_norm ?_) | (with_reducible refine k_ret ?_) | (with_reducible refine k_exit ?_) | (with_reducible refine b_norm ?_) | (with_reducible refine b_ret ?_) | (with_reducible refine b_exit ?_) | (with_reducible refine b_past (by decide) ?_)
      | (with_reducible refine xd_nil ?_)
      | (refine xr_do (v := ?_) (h' := ?_) (by exact rfl) ?_ ?_; rotate_left 2)
      | (refine xr_st (v := ?_) (h' := ?_) (by exact rfl) ?_ ?_; rotate_left 2)
      | (refine xd_reg (ms := [0, 1, 3, 7, 0, 16, 48, 112, 240, 511]) Ty.mx (by decide +kernel) (by decide +kernel) ?_)
      | (refine xd_reg (ms := [0, 1, 3, 7, 0, 16, 48, 112, 255, 511]) Ty.mx (by decide +kernel) (by decide +kernel) ?_)
      | (refine xd_do (v := ?_) (by exact rfl) (by decide +kernel) ?_ ?_; rotate_left 1)
      | (refine aw_ift (by decide) ?_ ?_
         · simp only [ev, put_some, reduceIte, Nat.reduceEqDiff, *])
      | (refine aw_iff (by decide) ?_ ?_
         · simp only [ev, put_some, reduceIte, Nat.reduceEqDiff, *])
      | (refine aw_if (b := ?_) (by decide) ?_ (fun hb => ?_) (fun hb => ?_)
         rotate_left 1
         · simp only [ev, put_some, reduceIte, Nat.reduceEqDiff, *]; rfl)
      | (refine r_ret (vs := ?_) ?_ ?_
         rotate_left 1
         · simp only [resV, ev, put_some, reduceIte, Nat.reduceEqDiff, Option.map_some, *]; rfl)
      )
    exact ⟨rfl, rfl⟩

theorem ixB (c : Int) (h : 0 ≤ c ∧ c ≤ 255) : IntKind.i64.wrap (Lib.indexByte [59, 124, 38, 42] c.toNat.toUInt8 + 2) = if opOf c = 0 then 1 else opOf c := by
  obtain ⟨n, rfl⟩ : ∃ n : Fin 256, c = (n.val : Int) := ⟨⟨c.toNat, by omega⟩, by simp; omega⟩
  revert n
  decide +kernel
theorem read_ok (s : ByteArray) (hs : s.size ≤ 100) : ∀ (f : Nat) (a : List Br) (e : Nat) (ok : Bool) (p : Nat) (h : Heap) (v : Value) (L : Heap) (acc : List Br) (hr : rdT s f p = (a, e, ok)) (hp : p ≤ s.size) (hf : s.size - p < f)
    (hap : App (h.length + 1) L v 2 (brs acc) acc.length) (hacc : acc.length ≤ p),
    ACalls Try.prog 0 46 #[.pointer (some ⟨h.length, 0, none⟩)] (h ++ ⟨2, 1, [.string s, .int .i64 (p : Nat), v]⟩ :: L) fun w h' =>
      ∃ (v' : Value) (L' : Heap) (acc' : List Br), w = .bool ok ∧ h' = h ++ ⟨2, 1, [.string s, .int .i64 (e : Nat), v']⟩ :: L' ∧ App (h.length + 1) L' v' 2 (brs acc') acc'.length ∧ (ok = true → acc' = acc ++ a) := by
  intro f
  induction f with
  | zero => intro a e ok p h v L acc _ hp hf; omega
  | succ f ihf =>
    intro a e ok p h v L acc hr hp hf hap hacc
    have ih := ihf
    clear ihf
    have hfl := hap.flat
    have hs2 : s.size ≤ 1048576 := by omega
    unfold rdT at hr
    by_cases h1 : p = s.size
    · rw [if_pos h1] at hr
      subst h1
      simp only [Prod.mk.injEq] at hr
      obtain ⟨rfl, rfl, rfl⟩ := hr
      have hn : nxtB s s.size = 0 := if_pos rfl
      have q0 : ¬ (49 : Int) ≤ 0 := by omega
      have q1 : ¬ (0 : Int) = 40 := by omega
      refine acalls_fn Try.func46 rfl Try.ntmps46 (by simp) (by dsimp only [Try.f46]) ?_
      repeat' (first
        | ((with_reducible refine eq_go ?_); simp only [stp, ev, put_some, put_none, argT_list, List.getD_cons_zero, List.getD_cons_succ, reduceIte, Nat.reduceEqDiff, Option.map_some, Array.map_empty, List.map_toArray, List.map_cons, List.map_nil, List.append_toArray, Array.append_empty, Array.empty_append, List.nil_append, List.append_nil, and_self, if_true, decide_true, decide_false, Int.toNat_natCast, Int.natCast_nonneg, List.length_map, binV_add, binV_sub, binV_and, binV_shr, binV_shl, binV_str_eql, binV_str_neq, binV_mul, binV_eql, binV_neq, binV_lss, binV_leq, binV_gtr, binV_geq, unV_not, Bool.not_true, Bool.not_false, Bool.cond_true, Bool.cond_false, bld, fillL, vcs, splice, List.getElem?_toArray, List.getElem?_cons_zero, List.getElem?_cons_succ, true_and, Option.map_none, ldv, stv, vcs, conV, fldA, blt, lenV, List.size_toArray, List.length_cons, List.length_nil, Nat.zero_add, Array.getD_eq_getD_getElem?, List.getElem?_toArray, List.getElem?_cons_zero, List.getElem?_cons_succ, Option.getD_some, Option.isSome_some, Nat.add_assoc, List.toList_toArray, eq_self, Option.bind_some, List.append_assoc, List.cons_append, List.length_append, List.length_cons, List.length_nil, Nat.zero_add, Nat.add_zero, Nat.reduceAdd, Nat.reduceMul, Nat.reduceLeDiff, mset_some, mset_none, set_at, set_at0, killL_nil, killL_cons, getC_succ2, getC_succ3, getC_succ4, getC_succ5, getC_succ6, loadCs_succ2, loadCs_succ3, loadCs_succ4, loadCs_succ5, loadCs_succ6, setCs_succ2, setCs_succ3, setCs_succ4, setCs_succ5, setCs_succ6, getC_at, getC_at0, getC_zero, getC_succ, loadCs_at, loadCs_at0, loadCs_zero, loadCs_succ, setCs_at, setCs_at0, setCs_zero, setCs_succ, splice, List.set_cons_succ, List.set_cons_zero, List.getElem?_cons_zero, List.getElem?_cons_succ, List.drop_zero, List.drop_succ_cons, List.take_succ_cons, List.take_zero, newB, vcs, flat_int, flat_bool, flat_string, flat_slice, flat_pointer, flat_func, flat_nilFunc, List.all_cons, List.all_nil, Bool.and_true, Bool.and_self, Ty.ld3, Ty.sz3, Ty.zc3, Ty.by3, Ty.un3, Ty.ld5, Ty.sz5, Ty.zc5, Ty.by5, Ty.un5, Ty.ld9, Ty.sz9, Ty.st9, Ty.zc9, Ty.by9, Ty.un9, Ty.ld48, Ty.sz48, Ty.sl48, Ty.zc48, Ty.by48, Ty.un48, Ty.ld64, Ty.sz64, Ty.zc64, Ty.by64, Ty.un64, Ty.ld66, Ty.sz66, Ty.zc66, Ty.by66, Ty.un66, Ty.pl66, Ty.fl66_0, Ty.fl66_1, Ty.fl66_2, Ty.ld70, Ty.sz70, Ty.zc70, Ty.by70, Ty.un70, Ty.pl70, Ty.fl70_0, Ty.fl70_1, *]; rfl)
        | (with_reducible refine aw_then ?_) | (with_reducible refine aw_skip ?_) | (with_reducible refine aw_ret ?_) | (with_reducible refine aw_exit ?_) | (with_reducible refine aw_block ?_) | (with_reducible refine xr_reg (by decide +kernel) ?_)
        | (with_reducible refine xr_nil ?_) | (with_reducible refine k_norm ?_) | (with_reducible refine k_ret ?_) | (with_reducible refine k_exit ?_) | (with_reducible refine b_norm ?_) | (with_reducible refine b_ret ?_) | (with_reducible refine b_exit ?_) | (with_reducible refine b_past (by decide) ?_)
        | (with_reducible refine xd_nil ?_)
        | (refine xr_cl (f := ?_) (fs := ?_) (cs := ?_) (args := ?_) (K := ?_) ?_ ?_ ?_ ?_ ?_
           rotate_left 5
           · simp only [ev]; rfl
           first
           | (· with_reducible exact Ty.ok46
              rotate_left 2
              refine hk_tag 46 ?_
              rotate_right 2)
           | (· with_reducible exact Ty.ok54
              rotate_left 2
              refine hk_tag 54 ?_
              rotate_right 2)
           | (· with_reducible exact Ty.ok55
              rotate_left 2
              refine hk_tag 55 ?_
              rotate_right 2)
           )
        | (refine xr_gcl (f := ?_) (fs := ?_) (cs := ?_) (args := ?_) (K := ?_) (by exact rfl) ?_ ?_ ?_ ?_ ?_ ?_
           rotate_left 5
           · simp only [ev, put_some, reduceIte, Nat.reduceEqDiff, Bool.not_true, Bool.not_false, *]
           · simp only [ev]; rfl
           first
           | (· with_reducible exact Ty.ok46
              rotate_left 2
              refine hk_tag 46 ?_
              rotate_right 2)
           | (· with_reducible exact Ty.ok54
              rotate_left 2
              refine hk_tag 54 ?_
              rotate_right 2)
           | (· with_reducible exact Ty.ok55
              rotate_left 2
              refine hk_tag 55 ?_
              rotate_right 2)
           )
        | (refine xd_cl (f := ?_) (fs := ?_) (cs := ?_) (args := ?_) (v := ?_) ?_ ?_ ?_ ?_ ?_ ?_
           rotate_left 5
           · simp only [ev]; rfl
           · first | with_reducible exact Ty.ok46 | with_reducible exact Ty.ok54 | with_reducible exact Ty.ok55
           rotate_left 1
           · decide +kernel
           rotate_right 1)
        | (refine xd_gcl (f := ?_) (fs := ?_) (cs := ?_) (args := ?_) (v := ?_) (by exact rfl) ?_ ?_ ?_ ?_ ?_ ?_ ?_
           rotate_left 5
           · simp only [ev, put_some, reduceIte, Nat.reduceEqDiff, Bool.not_true, Bool.not_false, *]
           · simp only [ev]; rfl
           · first | with_reducible exact Ty.ok46 | with_reducible exact Ty.ok54 | with_reducible exact Ty.ok55
           rotate_left 1
           · decide +kernel
           rotate_right 1)
        | (refine xr_do (v := ?_) (h' := ?_) (by exact rfl) ?_ ?_; rotate_left 2)
        | (refine xr_st (v := ?_) (h' := ?_) (by exact rfl) ?_ ?_; rotate_left 2)
        | (refine xd_reg (ms := [0, 0, 2, 7, 15, 31]) Ty.mx (by decide +kernel) (by decide +kernel) ?_)
        | (refine xd_do (v := ?_) (by exact rfl) (by decide +kernel) ?_ ?_; rotate_left 1)
        | (refine xd_gdo (v := ?_) (by exact rfl) (by decide +kernel) (by exact rfl) ?_ ?_ ?_
           rotate_left 1
           · simp only [ev, put_some, reduceIte, Nat.reduceEqDiff, Bool.not_true, Bool.not_false, *])
        | (refine xd_goff (by exact rfl) ?_ ?_
           · simp only [ev, put_some, reduceIte, Nat.reduceEqDiff, Bool.not_true, Bool.not_false, *])
        | (refine xd_gund (by exact rfl) ?_ ?_
           · simp only [ev, put_some, reduceIte, Nat.reduceEqDiff, Bool.not_true, Bool.not_false, *])
        | (refine xd_gif (b := ?_) (by exact rfl) ?_ (fun hb => ?_) (fun hb => ?_)
           rotate_left 1
           · simp only [ev, put_some, reduceIte, Nat.reduceEqDiff, Bool.not_true, Bool.not_false, *]; rfl)
        | (refine xr_gdo (v := ?_) (h' := ?_) (by exact rfl) (by exact rfl) ?_ ?_ ?_
           rotate_left 2
           · simp only [ev, put_some, reduceIte, Nat.reduceEqDiff, Bool.not_true, Bool.not_false, *])
        | (refine xr_gst (v := ?_) (h' := ?_) (by exact rfl) (by exact rfl) ?_ ?_ ?_
           rotate_left 2
           · simp only [ev, put_some, reduceIte, Nat.reduceEqDiff, Bool.not_true, Bool.not_false, *])
        | (refine xr_goff (by exact rfl) ?_ ?_
           · simp only [ev, put_some, reduceIte, Nat.reduceEqDiff, Bool.not_true, Bool.not_false, *])
        | (refine xr_gsoff (by exact rfl) ?_ ?_
           · simp only [ev, put_some, reduceIte, Nat.reduceEqDiff, Bool.not_true, Bool.not_false, *])
        | (refine xr_gund (by exact rfl) ?_ ?_
           · simp only [ev, put_some, reduceIte, Nat.reduceEqDiff, Bool.not_true, Bool.not_false, *])
        | (refine xr_gsund (by exact rfl) ?_ ?_
           · simp only [ev, put_some, reduceIte, Nat.reduceEqDiff, Bool.not_true, Bool.not_false, *])
        | (refine xr_gif (b := ?_) (by exact rfl) ?_ (fun hb => ?_) (fun hb => ?_)
           rotate_left 1
           · simp only [ev, put_some, reduceIte, Nat.reduceEqDiff, Bool.not_true, Bool.not_false, *]; rfl)
        | (refine aw_ift (by decide) ?_ ?_
           · simp only [ev, put_some, reduceIte, Nat.reduceEqDiff, *])
        | (refine aw_iff (by decide) ?_ ?_
           · simp only [ev, put_some, reduceIte, Nat.reduceEqDiff, *])
        | (refine aw_if (b := ?_) (by decide) ?_ (fun hb => ?_) (fun hb => ?_)
           rotate_left 1
           · simp only [ev, put_some, reduceIte, Nat.reduceEqDiff, *]; rfl)
        | (refine r_ret (vs := ?_) ?_ ?_
           rotate_left 1
           · simp only [resV, ev, put_some, reduceIte, Nat.reduceEqDiff, Option.map_some, *]; rfl)
        | (with_reducible refine ih ?_ ?_ ?_ _ _ _ _ ?_ ?_ ?_ ?_ ?_ ?_
           rotate_left 4
           · assumption
           · first | omega | (simp only [List.length_nil]; omega)
           · first | omega | (simp only [List.length_nil]; omega)
           · assumption
           · first | omega | (rw [hok1 rfl, List.length_append]; omega)
           )
        | (with_reducible refine next_ok _ _ _ _ _ ?_ ?_ ?_
           · first | rfl | assumption | exact hap1.flat
           · first | omega | (simp only [List.length_nil]; omega)
           · first | omega | (simp only [List.length_nil]; omega)
           )
        | (with_reducible exact indexByte_ok _ _ _)
        | ((with_reducible refine HkTag.mk (n := 46) ?_); rintro _ _ ⟨v1, L1, acc1, rfl, rfl, hap1, hok1⟩)
        | ((with_reducible refine HkTag.mk (n := 54) ?_); rintro _ _ ⟨rfl, hh⟩; replace hh := hh.symm; subst hh)
        | ((with_reducible refine HkTag.mk (n := 55) ?_); rintro _ _ ⟨rfl, hh⟩; replace hh := hh.symm; subst hh)
        )
      exact ⟨v, L, acc, rfl, rfl, hap, fun q => by cases q⟩
    rw [if_neg h1] at hr
    have hn : nxtB s p = bt s p := if_neg h1
    have hbr := bt_range s p
    generalize hcc : bt s p = c at *
    have hw1 : IntKind.i64.wrap ((p : Int) + 1) = ((p + 1 : Nat) : Int) := by rw [wrap_id (by omega)]; omega
    by_cases h2 : 49 ≤ c ∧ c ≤ 57
    · rw [if_pos h2] at hr
      simp only [Prod.mk.injEq] at hr
      obtain ⟨rfl, rfl, rfl⟩ := hr
      obtain ⟨h2a, h2b⟩ := h2
      have hw2 : IntKind.u8.wrap (c - 48) = c - 48 := by simp [IntKind.wrap, IntKind.signed, IntKind.bits]; omega
      have hw3 : IntKind.i64.wrap (c - 48) = c - 48 := wrap_id (by omega)
      have hbs := bsl_agg (P := Try.prog) (t := 48) (e := 70) (cs := [.int .i64 1, .int .i64 (c - 48)]) (h := h ++ ⟨2, 1, [.string s, .int .i64 (p : Nat), v]⟩ :: L) Ty.sl48 Ty.zc70 rfl rfl (by decide) rfl
      obtain ⟨v', L', hap', happ⟩ := app_step (P := Try.prog) (h2 := h ++ [⟨2, 1, [.string s, .int .i64 (p : Nat), v]⟩]) (L := L) (E := [⟨2, 2, [.int .i64 1, .int .i64 (c - 48)]⟩]) (j := 0) (ix := h.length + (L.length + 1))
        Ty.sl48 Ty.zc70 Ty.by70 (by simpa using hap) rfl rfl (by simp; omega) (by omega) (by omega)
      simp only [List.append_assoc, List.cons_append, List.nil_append, List.length_append, List.length_cons, List.length_nil, Nat.zero_add, Nat.add_assoc, Nat.reduceAdd] at hbs hap' happ
      have hfl' := happ.flat
      have hvc := vcs_flat hfl'
      simp only [vcs] at hvc
      refine acalls_fn Try.func46 rfl Try.ntmps46 (by simp) (by dsimp only [Try.f46]) ?_
      repeat' (first
        | ((with_reducible refine eq_go ?_); simp only [stp, ev, put_some, put_none, argT_list, List.getD_cons_zero, List.getD_cons_succ, reduceIte, Nat.reduceEqDiff, Option.map_some, Array.map_empty, List.map_toArray, List.map_cons, List.map_nil, List.append_toArray, Array.append_empty, Array.empty_append, List.nil_append, List.append_nil, and_self, if_true, decide_true, decide_false, Int.toNat_natCast, Int.natCast_nonneg, List.length_map, binV_add, binV_sub, binV_and, binV_shr, binV_shl, binV_str_eql, binV_str_neq, binV_mul, binV_eql, binV_neq, binV_lss, binV_leq, binV_gtr, binV_geq, unV_not, Bool.not_true, Bool.not_false, Bool.cond_true, Bool.cond_false, bld, fillL, vcs, splice, List.getElem?_toArray, List.getElem?_cons_zero, List.getElem?_cons_succ, true_and, Option.map_none, ldv, stv, vcs, conV, fldA, blt, lenV, List.size_toArray, List.length_cons, List.length_nil, Nat.zero_add, Array.getD_eq_getD_getElem?, List.getElem?_toArray, List.getElem?_cons_zero, List.getElem?_cons_succ, Option.getD_some, Option.isSome_some, Nat.add_assoc, List.toList_toArray, eq_self, Option.bind_some, List.append_assoc, List.cons_append, List.length_append, List.length_cons, List.length_nil, Nat.zero_add, Nat.add_zero, Nat.reduceAdd, Nat.reduceMul, Nat.reduceLeDiff, mset_some, mset_none, set_at, set_at0, killL_nil, killL_cons, getC_succ2, getC_succ3, getC_succ4, getC_succ5, getC_succ6, loadCs_succ2, loadCs_succ3, loadCs_succ4, loadCs_succ5, loadCs_succ6, setCs_succ2, setCs_succ3, setCs_succ4, setCs_succ5, setCs_succ6, getC_at, getC_at0, getC_zero, getC_succ, loadCs_at, loadCs_at0, loadCs_zero, loadCs_succ, setCs_at, setCs_at0, setCs_zero, setCs_succ, splice, List.set_cons_succ, List.set_cons_zero, List.getElem?_cons_zero, List.getElem?_cons_succ, List.drop_zero, List.drop_succ_cons, List.take_succ_cons, List.take_zero, newB, vcs, flat_int, flat_bool, flat_string, flat_slice, flat_pointer, flat_func, flat_nilFunc, List.all_cons, List.all_nil, Bool.and_true, Bool.and_self, Ty.ld3, Ty.sz3, Ty.zc3, Ty.by3, Ty.un3, Ty.ld5, Ty.sz5, Ty.zc5, Ty.by5, Ty.un5, Ty.ld9, Ty.sz9, Ty.st9, Ty.zc9, Ty.by9, Ty.un9, Ty.ld48, Ty.sz48, Ty.sl48, Ty.zc48, Ty.by48, Ty.un48, Ty.ld64, Ty.sz64, Ty.zc64, Ty.by64, Ty.un64, Ty.ld66, Ty.sz66, Ty.zc66, Ty.by66, Ty.un66, Ty.pl66, Ty.fl66_0, Ty.fl66_1, Ty.fl66_2, Ty.ld70, Ty.sz70, Ty.zc70, Ty.by70, Ty.un70, Ty.pl70, Ty.fl70_0, Ty.fl70_1, *]; rfl)
        | (with_reducible refine aw_then ?_) | (with_reducible refine aw_skip ?_) | (with_reducible refine aw_ret ?_) | (with_reducible refine aw_exit ?_) | (with_reducible refine aw_block ?_) | (with_reducible refine xr_reg (by decide +kernel) ?_)
        | (with_reducible refine xr_nil ?_) | (with_reducible refine k_norm ?_) | (with_reducible refine k_ret ?_) | (with_reducible refine k_exit ?_) | (with_reducible refine b_norm ?_) | (with_reducible refine b_ret ?_) | (with_reducible refine b_exit ?_) | (with_reducible refine b_past (by decide) ?_)
        | (with_reducible refine xd_nil ?_)
        | (refine xr_cl (f := ?_) (fs := ?_) (cs := ?_) (args := ?_) (K := ?_) ?_ ?_ ?_ ?_ ?_
           rotate_left 5
           · simp only [ev]; rfl
           first
           | (· with_reducible exact Ty.ok46
              rotate_left 2
              refine hk_tag 46 ?_
              rotate_right 2)
           | (· with_reducible exact Ty.ok54
              rotate_left 2
              refine hk_tag 54 ?_
              rotate_right 2)
           | (· with_reducible exact Ty.ok55
              rotate_left 2
              refine hk_tag 55 ?_
              rotate_right 2)
           )
        | (refine xr_gcl (f := ?_) (fs := ?_) (cs := ?_) (args := ?_) (K := ?_) (by exact rfl) ?_ ?_ ?_ ?_ ?_ ?_
           rotate_left 5
           · simp only [ev, put_some, reduceIte, Nat.reduceEqDiff, Bool.not_true, Bool.not_false, *]
           · simp only [ev]; rfl
           first
           | (· with_reducible exact Ty.ok46
              rotate_left 2
              refine hk_tag 46 ?_
              rotate_right 2)
           | (· with_reducible exact Ty.ok54
              rotate_left 2
              refine hk_tag 54 ?_
              rotate_right 2)
           | (· with_reducible exact Ty.ok55
              rotate_left 2
              refine hk_tag 55 ?_
              rotate_right 2)
           )
        | (refine xd_cl (f := ?_) (fs := ?_) (cs := ?_) (args := ?_) (v := ?_) ?_ ?_ ?_ ?_ ?_ ?_
           rotate_left 5
           · simp only [ev]; rfl
           · first | with_reducible exact Ty.ok46 | with_reducible exact Ty.ok54 | with_reducible exact Ty.ok55
           rotate_left 1
           · decide +kernel
           rotate_right 1)
        | (refine xd_gcl (f := ?_) (fs := ?_) (cs := ?_) (args := ?_) (v := ?_) (by exact rfl) ?_ ?_ ?_ ?_ ?_ ?_ ?_
           rotate_left 5
           · simp only [ev, put_some, reduceIte, Nat.reduceEqDiff, Bool.not_true, Bool.not_false, *]
           · simp only [ev]; rfl
           · first | with_reducible exact Ty.ok46 | with_reducible exact Ty.ok54 | with_reducible exact Ty.ok55
           rotate_left 1
           · decide +kernel
           rotate_right 1)
        | (refine xr_do (v := ?_) (h' := ?_) (by exact rfl) ?_ ?_; rotate_left 2)
        | (refine xr_st (v := ?_) (h' := ?_) (by exact rfl) ?_ ?_; rotate_left 2)
        | (refine xd_reg (ms := [0, 0, 2, 7, 15, 31]) Ty.mx (by decide +kernel) (by decide +kernel) ?_)
        | (refine xd_do (v := ?_) (by exact rfl) (by decide +kernel) ?_ ?_; rotate_left 1)
        | (refine xd_gdo (v := ?_) (by exact rfl) (by decide +kernel) (by exact rfl) ?_ ?_ ?_
           rotate_left 1
           · simp only [ev, put_some, reduceIte, Nat.reduceEqDiff, Bool.not_true, Bool.not_false, *])
        | (refine xd_goff (by exact rfl) ?_ ?_
           · simp only [ev, put_some, reduceIte, Nat.reduceEqDiff, Bool.not_true, Bool.not_false, *])
        | (refine xd_gund (by exact rfl) ?_ ?_
           · simp only [ev, put_some, reduceIte, Nat.reduceEqDiff, Bool.not_true, Bool.not_false, *])
        | (refine xd_gif (b := ?_) (by exact rfl) ?_ (fun hb => ?_) (fun hb => ?_)
           rotate_left 1
           · simp only [ev, put_some, reduceIte, Nat.reduceEqDiff, Bool.not_true, Bool.not_false, *]; rfl)
        | (refine xr_gdo (v := ?_) (h' := ?_) (by exact rfl) (by exact rfl) ?_ ?_ ?_
           rotate_left 2
           · simp only [ev, put_some, reduceIte, Nat.reduceEqDiff, Bool.not_true, Bool.not_false, *])
        | (refine xr_gst (v := ?_) (h' := ?_) (by exact rfl) (by exact rfl) ?_ ?_ ?_
           rotate_left 2
           · simp only [ev, put_some, reduceIte, Nat.reduceEqDiff, Bool.not_true, Bool.not_false, *])
        | (refine xr_goff (by exact rfl) ?_ ?_
           · simp only [ev, put_some, reduceIte, Nat.reduceEqDiff, Bool.not_true, Bool.not_false, *])
        | (refine xr_gsoff (by exact rfl) ?_ ?_
           · simp only [ev, put_some, reduceIte, Nat.reduceEqDiff, Bool.not_true, Bool.not_false, *])
        | (refine xr_gund (by exact rfl) ?_ ?_
           · simp only [ev, put_some, reduceIte, Nat.reduceEqDiff, Bool.not_true, Bool.not_false, *])
        | (refine xr_gsund (by exact rfl) ?_ ?_
           · simp only [ev, put_some, reduceIte, Nat.reduceEqDiff, Bool.not_true, Bool.not_false, *])
        | (refine xr_gif (b := ?_) (by exact rfl) ?_ (fun hb => ?_) (fun hb => ?_)
           rotate_left 1
           · simp only [ev, put_some, reduceIte, Nat.reduceEqDiff, Bool.not_true, Bool.not_false, *]; rfl)
        | (refine aw_ift (by decide) ?_ ?_
           · simp only [ev, put_some, reduceIte, Nat.reduceEqDiff, *])
        | (refine aw_iff (by decide) ?_ ?_
           · simp only [ev, put_some, reduceIte, Nat.reduceEqDiff, *])
        | (refine aw_if (b := ?_) (by decide) ?_ (fun hb => ?_) (fun hb => ?_)
           rotate_left 1
           · simp only [ev, put_some, reduceIte, Nat.reduceEqDiff, *]; rfl)
        | (refine r_ret (vs := ?_) ?_ ?_
           rotate_left 1
           · simp only [resV, ev, put_some, reduceIte, Nat.reduceEqDiff, Option.map_some, *]; rfl)
        | (with_reducible refine ih ?_ ?_ ?_ _ _ _ _ ?_ ?_ ?_ ?_ ?_ ?_
           rotate_left 4
           · assumption
           · first | omega | (simp only [List.length_nil]; omega)
           · first | omega | (simp only [List.length_nil]; omega)
           · assumption
           · first | omega | (rw [hok1 rfl, List.length_append]; omega)
           )
        | (with_reducible refine next_ok _ _ _ _ _ ?_ ?_ ?_
           · first | rfl | assumption | exact hap1.flat
           · first | omega | (simp only [List.length_nil]; omega)
           · first | omega | (simp only [List.length_nil]; omega)
           )
        | (with_reducible exact indexByte_ok _ _ _)
        | ((with_reducible refine HkTag.mk (n := 46) ?_); rintro _ _ ⟨v1, L1, acc1, rfl, rfl, hap1, hok1⟩)
        | ((with_reducible refine HkTag.mk (n := 54) ?_); rintro _ _ ⟨rfl, hh⟩; replace hh := hh.symm; subst hh)
        | ((with_reducible refine HkTag.mk (n := 55) ?_); rintro _ _ ⟨rfl, hh⟩; replace hh := hh.symm; subst hh)
        )
      refine ⟨v', L', acc ++ [⟨1, c - 48⟩], rfl, rfl, ?_, fun _ => rfl⟩
      rw [brs_app, brs_one, List.length_append]; exact happ
    rw [if_neg h2] at hr
    have h2d : decide (49 ≤ c) = true → decide (c ≤ 57) = false := fun q => by simp only [decide_eq_true_eq, decide_eq_false_iff_not] at *; omega
    by_cases h3 : c ≠ 40
    · rw [if_pos h3] at hr
      simp only [Prod.mk.injEq] at hr
      obtain ⟨rfl, rfl, rfl⟩ := hr
      refine acalls_fn Try.func46 rfl Try.ntmps46 (by simp) (by dsimp only [Try.f46]) ?_
      repeat' (first
        | ((with_reducible refine eq_go ?_); simp only [stp, ev, put_some, put_none, argT_list, List.getD_cons_zero, List.getD_cons_succ, reduceIte, Nat.reduceEqDiff, Option.map_some, Array.map_empty, List.map_toArray, List.map_cons, List.map_nil, List.append_toArray, Array.append_empty, Array.empty_append, List.nil_append, List.append_nil, and_self, if_true, decide_true, decide_false, Int.toNat_natCast, Int.natCast_nonneg, List.length_map, binV_add, binV_sub, binV_and, binV_shr, binV_shl, binV_str_eql, binV_str_neq, binV_mul, binV_eql, binV_neq, binV_lss, binV_leq, binV_gtr, binV_geq, unV_not, Bool.not_true, Bool.not_false, Bool.cond_true, Bool.cond_false, bld, fillL, vcs, splice, List.getElem?_toArray, List.getElem?_cons_zero, List.getElem?_cons_succ, true_and, Option.map_none, ldv, stv, vcs, conV, fldA, blt, lenV, List.size_toArray, List.length_cons, List.length_nil, Nat.zero_add, Array.getD_eq_getD_getElem?, List.getElem?_toArray, List.getElem?_cons_zero, List.getElem?_cons_succ, Option.getD_some, Option.isSome_some, Nat.add_assoc, List.toList_toArray, eq_self, Option.bind_some, List.append_assoc, List.cons_append, List.length_append, List.length_cons, List.length_nil, Nat.zero_add, Nat.add_zero, Nat.reduceAdd, Nat.reduceMul, Nat.reduceLeDiff, mset_some, mset_none, set_at, set_at0, killL_nil, killL_cons, getC_succ2, getC_succ3, getC_succ4, getC_succ5, getC_succ6, loadCs_succ2, loadCs_succ3, loadCs_succ4, loadCs_succ5, loadCs_succ6, setCs_succ2, setCs_succ3, setCs_succ4, setCs_succ5, setCs_succ6, getC_at, getC_at0, getC_zero, getC_succ, loadCs_at, loadCs_at0, loadCs_zero, loadCs_succ, setCs_at, setCs_at0, setCs_zero, setCs_succ, splice, List.set_cons_succ, List.set_cons_zero, List.getElem?_cons_zero, List.getElem?_cons_succ, List.drop_zero, List.drop_succ_cons, List.take_succ_cons, List.take_zero, newB, vcs, flat_int, flat_bool, flat_string, flat_slice, flat_pointer, flat_func, flat_nilFunc, List.all_cons, List.all_nil, Bool.and_true, Bool.and_self, Ty.ld3, Ty.sz3, Ty.zc3, Ty.by3, Ty.un3, Ty.ld5, Ty.sz5, Ty.zc5, Ty.by5, Ty.un5, Ty.ld9, Ty.sz9, Ty.st9, Ty.zc9, Ty.by9, Ty.un9, Ty.ld48, Ty.sz48, Ty.sl48, Ty.zc48, Ty.by48, Ty.un48, Ty.ld64, Ty.sz64, Ty.zc64, Ty.by64, Ty.un64, Ty.ld66, Ty.sz66, Ty.zc66, Ty.by66, Ty.un66, Ty.pl66, Ty.fl66_0, Ty.fl66_1, Ty.fl66_2, Ty.ld70, Ty.sz70, Ty.zc70, Ty.by70, Ty.un70, Ty.pl70, Ty.fl70_0, Ty.fl70_1, *]; rfl)
        | (with_reducible refine aw_then ?_) | (with_reducible refine aw_skip ?_) | (with_reducible refine aw_ret ?_) | (with_reducible refine aw_exit ?_) | (with_reducible refine aw_block ?_) | (with_reducible refine xr_reg (by decide +kernel) ?_)
        | (with_reducible refine xr_nil ?_) | (with_reducible refine k_norm ?_) | (with_reducible refine k_ret ?_) | (with_reducible refine k_exit ?_) | (with_reducible refine b_norm ?_) | (with_reducible refine b_ret ?_) | (with_reducible refine b_exit ?_) | (with_reducible refine b_past (by decide) ?_)
        | (with_reducible refine xd_nil ?_)
        | (refine xr_cl (f := ?_) (fs := ?_) (cs := ?_) (args := ?_) (K := ?_) ?_ ?_ ?_ ?_ ?_
           rotate_left 5
           · simp only [ev]; rfl
           first
           | (· with_reducible exact Ty.ok46
              rotate_left 2
              refine hk_tag 46 ?_
              rotate_right 2)
           | (· with_reducible exact Ty.ok54
              rotate_left 2
              refine hk_tag 54 ?_
              rotate_right 2)
           | (· with_reducible exact Ty.ok55
              rotate_left 2
              refine hk_tag 55 ?_
              rotate_right 2)
           )
        | (refine xr_gcl (f := ?_) (fs := ?_) (cs := ?_) (args := ?_) (K := ?_) (by exact rfl) ?_ ?_ ?_ ?_ ?_ ?_
           rotate_left 5
           · simp only [ev, put_some, reduceIte, Nat.reduceEqDiff, Bool.not_true, Bool.not_false, *]
           · simp only [ev]; rfl
           first
           | (· with_reducible exact Ty.ok46
              rotate_left 2
              refine hk_tag 46 ?_
              rotate_right 2)
           | (· with_reducible exact Ty.ok54
              rotate_left 2
              refine hk_tag 54 ?_
              rotate_right 2)
           | (· with_reducible exact Ty.ok55
              rotate_left 2
              refine hk_tag 55 ?_
              rotate_right 2)
           )
        | (refine xd_cl (f := ?_) (fs := ?_) (cs := ?_) (args := ?_) (v := ?_) ?_ ?_ ?_ ?_ ?_ ?_
           rotate_left 5
           · simp only [ev]; rfl
           · first | with_reducible exact Ty.ok46 | with_reducible exact Ty.ok54 | with_reducible exact Ty.ok55
           rotate_left 1
           · decide +kernel
           rotate_right 1)
        | (refine xd_gcl (f := ?_) (fs := ?_) (cs := ?_) (args := ?_) (v := ?_) (by exact rfl) ?_ ?_ ?_ ?_ ?_ ?_ ?_
           rotate_left 5
           · simp only [ev, put_some, reduceIte, Nat.reduceEqDiff, Bool.not_true, Bool.not_false, *]
           · simp only [ev]; rfl
           · first | with_reducible exact Ty.ok46 | with_reducible exact Ty.ok54 | with_reducible exact Ty.ok55
           rotate_left 1
           · decide +kernel
           rotate_right 1)
        | (refine xr_do (v := ?_) (h' := ?_) (by exact rfl) ?_ ?_; rotate_left 2)
        | (refine xr_st (v := ?_) (h' := ?_) (by exact rfl) ?_ ?_; rotate_left 2)
        | (refine xd_reg (ms := [0, 0, 2, 7, 15, 31]) Ty.mx (by decide +kernel) (by decide +kernel) ?_)
        | (refine xd_do (v := ?_) (by exact rfl) (by decide +kernel) ?_ ?_; rotate_left 1)
        | (refine xd_gdo (v := ?_) (by exact rfl) (by decide +kernel) (by exact rfl) ?_ ?_ ?_
           rotate_left 1
           · simp only [ev, put_some, reduceIte, Nat.reduceEqDiff, Bool.not_true, Bool.not_false, *])
        | (refine xd_goff (by exact rfl) ?_ ?_
           · simp only [ev, put_some, reduceIte, Nat.reduceEqDiff, Bool.not_true, Bool.not_false, *])
        | (refine xd_gund (by exact rfl) ?_ ?_
           · simp only [ev, put_some, reduceIte, Nat.reduceEqDiff, Bool.not_true, Bool.not_false, *])
        | (refine xd_gif (b := ?_) (by exact rfl) ?_ (fun hb => ?_) (fun hb => ?_)
           rotate_left 1
           · simp only [ev, put_some, reduceIte, Nat.reduceEqDiff, Bool.not_true, Bool.not_false, *]; rfl)
        | (refine xr_gdo (v := ?_) (h' := ?_) (by exact rfl) (by exact rfl) ?_ ?_ ?_
           rotate_left 2
           · simp only [ev, put_some, reduceIte, Nat.reduceEqDiff, Bool.not_true, Bool.not_false, *])
        | (refine xr_gst (v := ?_) (h' := ?_) (by exact rfl) (by exact rfl) ?_ ?_ ?_
           rotate_left 2
           · simp only [ev, put_some, reduceIte, Nat.reduceEqDiff, Bool.not_true, Bool.not_false, *])
        | (refine xr_goff (by exact rfl) ?_ ?_
           · simp only [ev, put_some, reduceIte, Nat.reduceEqDiff, Bool.not_true, Bool.not_false, *])
        | (refine xr_gsoff (by exact rfl) ?_ ?_
           · simp only [ev, put_some, reduceIte, Nat.reduceEqDiff, Bool.not_true, Bool.not_false, *])
        | (refine xr_gund (by exact rfl) ?_ ?_
           · simp only [ev, put_some, reduceIte, Nat.reduceEqDiff, Bool.not_true, Bool.not_false, *])
        | (refine xr_gsund (by exact rfl) ?_ ?_
           · simp only [ev, put_some, reduceIte, Nat.reduceEqDiff, Bool.not_true, Bool.not_false, *])
        | (refine xr_gif (b := ?_) (by exact rfl) ?_ (fun hb => ?_) (fun hb => ?_)
           rotate_left 1
           · simp only [ev, put_some, reduceIte, Nat.reduceEqDiff, Bool.not_true, Bool.not_false, *]; rfl)
        | (refine aw_ift (by decide) ?_ ?_
           · simp only [ev, put_some, reduceIte, Nat.reduceEqDiff, *])
        | (refine aw_iff (by decide) ?_ ?_
           · simp only [ev, put_some, reduceIte, Nat.reduceEqDiff, *])
        | (refine aw_if (b := ?_) (by decide) ?_ (fun hb => ?_) (fun hb => ?_)
           rotate_left 1
           · simp only [ev, put_some, reduceIte, Nat.reduceEqDiff, *]; rfl)
        | (refine r_ret (vs := ?_) ?_ ?_
           rotate_left 1
           · simp only [resV, ev, put_some, reduceIte, Nat.reduceEqDiff, Option.map_some, *]; rfl)
        | (with_reducible refine ih ?_ ?_ ?_ _ _ _ _ ?_ ?_ ?_ ?_ ?_ ?_
           rotate_left 4
           · assumption
           · first | omega | (simp only [List.length_nil]; omega)
           · first | omega | (simp only [List.length_nil]; omega)
           · assumption
           · first | omega | (rw [hok1 rfl, List.length_append]; omega)
           )
        | (with_reducible refine next_ok _ _ _ _ _ ?_ ?_ ?_
           · first | rfl | assumption | exact hap1.flat
           · first | omega | (simp only [List.length_nil]; omega)
           · first | omega | (simp only [List.length_nil]; omega)
           )
        | (with_reducible exact indexByte_ok _ _ _)
        | ((with_reducible refine HkTag.mk (n := 46) ?_); rintro _ _ ⟨v1, L1, acc1, rfl, rfl, hap1, hok1⟩)
        | ((with_reducible refine HkTag.mk (n := 54) ?_); rintro _ _ ⟨rfl, hh⟩; replace hh := hh.symm; subst hh)
        | ((with_reducible refine HkTag.mk (n := 55) ?_); rintro _ _ ⟨rfl, hh⟩; replace hh := hh.symm; subst hh)
        )
      all_goals exact ⟨v, L, acc, rfl, rfl, hap, fun q => by cases q⟩
    rw [if_neg h3] at hr
    have h3' : c = 40 := by omega
    subst h3'
    clear h2 h3 h2d
    have q1 : ¬ (49 : Int) ≤ 40 := by omega
    have i1 := rdT_inv s f (p + 1) (by omega)
    generalize hr1 : rdT s f (p + 1) = r1 at i1 hr
    obtain ⟨a1, e1, ok1⟩ := r1
    simp only at i1 hr
    cases ok1 with
    | false =>
      rw [if_pos (.inl rfl)] at hr
      simp only [Prod.mk.injEq] at hr
      obtain ⟨rfl, rfl, rfl⟩ := hr
      refine acalls_fn Try.func46 rfl Try.ntmps46 (by simp) (by dsimp only [Try.f46]) ?_
      repeat' (first
        | ((with_reducible refine eq_go ?_); simp only [stp, ev, put_some, put_none, argT_list, List.getD_cons_zero, List.getD_cons_succ, reduceIte, Nat.reduceEqDiff, Option.map_some, Array.map_empty, List.map_toArray, List.map_cons, List.map_nil, List.append_toArray, Array.append_empty, Array.empty_append, List.nil_append, List.append_nil, and_self, if_true, decide_true, decide_false, Int.toNat_natCast, Int.natCast_nonneg, List.length_map, binV_add, binV_sub, binV_and, binV_shr, binV_shl, binV_str_eql, binV_str_neq, binV_mul, binV_eql, binV_neq, binV_lss, binV_leq, binV_gtr, binV_geq, unV_not, Bool.not_true, Bool.not_false, Bool.cond_true, Bool.cond_false, bld, fillL, vcs, splice, List.getElem?_toArray, List.getElem?_cons_zero, List.getElem?_cons_succ, true_and, Option.map_none, ldv, stv, vcs, conV, fldA, blt, lenV, List.size_toArray, List.length_cons, List.length_nil, Nat.zero_add, Array.getD_eq_getD_getElem?, List.getElem?_toArray, List.getElem?_cons_zero, List.getElem?_cons_succ, Option.getD_some, Option.isSome_some, Nat.add_assoc, List.toList_toArray, eq_self, Option.bind_some, List.append_assoc, List.cons_append, List.length_append, List.length_cons, List.length_nil, Nat.zero_add, Nat.add_zero, Nat.reduceAdd, Nat.reduceMul, Nat.reduceLeDiff, mset_some, mset_none, set_at, set_at0, killL_nil, killL_cons, getC_succ2, getC_succ3, getC_succ4, getC_succ5, getC_succ6, loadCs_succ2, loadCs_succ3, loadCs_succ4, loadCs_succ5, loadCs_succ6, setCs_succ2, setCs_succ3, setCs_succ4, setCs_succ5, setCs_succ6, getC_at, getC_at0, getC_zero, getC_succ, loadCs_at, loadCs_at0, loadCs_zero, loadCs_succ, setCs_at, setCs_at0, setCs_zero, setCs_succ, splice, List.set_cons_succ, List.set_cons_zero, List.getElem?_cons_zero, List.getElem?_cons_succ, List.drop_zero, List.drop_succ_cons, List.take_succ_cons, List.take_zero, newB, vcs, flat_int, flat_bool, flat_string, flat_slice, flat_pointer, flat_func, flat_nilFunc, List.all_cons, List.all_nil, Bool.and_true, Bool.and_self, Ty.ld3, Ty.sz3, Ty.zc3, Ty.by3, Ty.un3, Ty.ld5, Ty.sz5, Ty.zc5, Ty.by5, Ty.un5, Ty.ld9, Ty.sz9, Ty.st9, Ty.zc9, Ty.by9, Ty.un9, Ty.ld48, Ty.sz48, Ty.sl48, Ty.zc48, Ty.by48, Ty.un48, Ty.ld64, Ty.sz64, Ty.zc64, Ty.by64, Ty.un64, Ty.ld66, Ty.sz66, Ty.zc66, Ty.by66, Ty.un66, Ty.pl66, Ty.fl66_0, Ty.fl66_1, Ty.fl66_2, Ty.ld70, Ty.sz70, Ty.zc70, Ty.by70, Ty.un70, Ty.pl70, Ty.fl70_0, Ty.fl70_1, *]; rfl)
        | (with_reducible refine aw_then ?_) | (with_reducible refine aw_skip ?_) | (with_reducible refine aw_ret ?_) | (with_reducible refine aw_exit ?_) | (with_reducible refine aw_block ?_) | (with_reducible refine xr_reg (by decide +kernel) ?_)
        | (with_reducible refine xr_nil ?_) | (with_reducible refine k_norm ?_) | (with_reducible refine k_ret ?_) | (with_reducible refine k_exit ?_) | (with_reducible refine b_norm ?_) | (with_reducible refine b_ret ?_) | (with_reducible refine b_exit ?_) | (with_reducible refine b_past (by decide) ?_)
        | (with_reducible refine xd_nil ?_)
        | (refine xr_cl (f := ?_) (fs := ?_) (cs := ?_) (args := ?_) (K := ?_) ?_ ?_ ?_ ?_ ?_
           rotate_left 5
           · simp only [ev]; rfl
           first
           | (· with_reducible exact Ty.ok46
              rotate_left 2
              refine hk_tag 46 ?_
              rotate_right 2)
           | (· with_reducible exact Ty.ok54
              rotate_left 2
              refine hk_tag 54 ?_
              rotate_right 2)
           | (· with_reducible exact Ty.ok55
              rotate_left 2
              refine hk_tag 55 ?_
              rotate_right 2)
           )
        | (refine xr_gcl (f := ?_) (fs := ?_) (cs := ?_) (args := ?_) (K := ?_) (by exact rfl) ?_ ?_ ?_ ?_ ?_ ?_
           rotate_left 5
           · simp only [ev, put_some, reduceIte, Nat.reduceEqDiff, Bool.not_true, Bool.not_false, *]
           · simp only [ev]; rfl
           first
           | (· with_reducible exact Ty.ok46
              rotate_left 2
              refine hk_tag 46 ?_
              rotate_right 2)
           | (· with_reducible exact Ty.ok54
              rotate_left 2
              refine hk_tag 54 ?_
              rotate_right 2)
           | (· with_reducible exact Ty.ok55
              rotate_left 2
              refine hk_tag 55 ?_
              rotate_right 2)
           )
        | (refine xd_cl (f := ?_) (fs := ?_) (cs := ?_) (args := ?_) (v := ?_) ?_ ?_ ?_ ?_ ?_ ?_
           rotate_left 5
           · simp only [ev]; rfl
           · first | with_reducible exact Ty.ok46 | with_reducible exact Ty.ok54 | with_reducible exact Ty.ok55
           rotate_left 1
           · decide +kernel
           rotate_right 1)
        | (refine xd_gcl (f := ?_) (fs := ?_) (cs := ?_) (args := ?_) (v := ?_) (by exact rfl) ?_ ?_ ?_ ?_ ?_ ?_ ?_
           rotate_left 5
           · simp only [ev, put_some, reduceIte, Nat.reduceEqDiff, Bool.not_true, Bool.not_false, *]
           · simp only [ev]; rfl
           · first | with_reducible exact Ty.ok46 | with_reducible exact Ty.ok54 | with_reducible exact Ty.ok55
           rotate_left 1
           · decide +kernel
           rotate_right 1)
        | (refine xr_do (v := ?_) (h' := ?_) (by exact rfl) ?_ ?_; rotate_left 2)
        | (refine xr_st (v := ?_) (h' := ?_) (by exact rfl) ?_ ?_; rotate_left 2)
        | (refine xd_reg (ms := [0, 0, 2, 7, 15, 31]) Ty.mx (by decide +kernel) (by decide +kernel) ?_)
        | (refine xd_do (v := ?_) (by exact rfl) (by decide +kernel) ?_ ?_; rotate_left 1)
        | (refine xd_gdo (v := ?_) (by exact rfl) (by decide +kernel) (by exact rfl) ?_ ?_ ?_
           rotate_left 1
           · simp only [ev, put_some, reduceIte, Nat.reduceEqDiff, Bool.not_true, Bool.not_false, *])
        | (refine xd_goff (by exact rfl) ?_ ?_
           · simp only [ev, put_some, reduceIte, Nat.reduceEqDiff, Bool.not_true, Bool.not_false, *])
        | (refine xd_gund (by exact rfl) ?_ ?_
           · simp only [ev, put_some, reduceIte, Nat.reduceEqDiff, Bool.not_true, Bool.not_false, *])
        | (refine xd_gif (b := ?_) (by exact rfl) ?_ (fun hb => ?_) (fun hb => ?_)
           rotate_left 1
           · simp only [ev, put_some, reduceIte, Nat.reduceEqDiff, Bool.not_true, Bool.not_false, *]; rfl)
        | (refine xr_gdo (v := ?_) (h' := ?_) (by exact rfl) (by exact rfl) ?_ ?_ ?_
           rotate_left 2
           · simp only [ev, put_some, reduceIte, Nat.reduceEqDiff, Bool.not_true, Bool.not_false, *])
        | (refine xr_gst (v := ?_) (h' := ?_) (by exact rfl) (by exact rfl) ?_ ?_ ?_
           rotate_left 2
           · simp only [ev, put_some, reduceIte, Nat.reduceEqDiff, Bool.not_true, Bool.not_false, *])
        | (refine xr_goff (by exact rfl) ?_ ?_
           · simp only [ev, put_some, reduceIte, Nat.reduceEqDiff, Bool.not_true, Bool.not_false, *])
        | (refine xr_gsoff (by exact rfl) ?_ ?_
           · simp only [ev, put_some, reduceIte, Nat.reduceEqDiff, Bool.not_true, Bool.not_false, *])
        | (refine xr_gund (by exact rfl) ?_ ?_
           · simp only [ev, put_some, reduceIte, Nat.reduceEqDiff, Bool.not_true, Bool.not_false, *])
        | (refine xr_gsund (by exact rfl) ?_ ?_
           · simp only [ev, put_some, reduceIte, Nat.reduceEqDiff, Bool.not_true, Bool.not_false, *])
        | (refine xr_gif (b := ?_) (by exact rfl) ?_ (fun hb => ?_) (fun hb => ?_)
           rotate_left 1
           · simp only [ev, put_some, reduceIte, Nat.reduceEqDiff, Bool.not_true, Bool.not_false, *]; rfl)
        | (refine aw_ift (by decide) ?_ ?_
           · simp only [ev, put_some, reduceIte, Nat.reduceEqDiff, *])
        | (refine aw_iff (by decide) ?_ ?_
           · simp only [ev, put_some, reduceIte, Nat.reduceEqDiff, *])
        | (refine aw_if (b := ?_) (by decide) ?_ (fun hb => ?_) (fun hb => ?_)
           rotate_left 1
           · simp only [ev, put_some, reduceIte, Nat.reduceEqDiff, *]; rfl)
        | (refine r_ret (vs := ?_) ?_ ?_
           rotate_left 1
           · simp only [resV, ev, put_some, reduceIte, Nat.reduceEqDiff, Option.map_some, *]; rfl)
        | (with_reducible refine ih ?_ ?_ ?_ _ _ _ _ ?_ ?_ ?_ ?_ ?_ ?_
           rotate_left 4
           · assumption
           · first | omega | (simp only [List.length_nil]; omega)
           · first | omega | (simp only [List.length_nil]; omega)
           · assumption
           · first | omega | (rw [hok1 rfl, List.length_append]; omega)
           )
        | (with_reducible refine next_ok _ _ _ _ _ ?_ ?_ ?_
           · first | rfl | assumption | exact hap1.flat
           · first | omega | (simp only [List.length_nil]; omega)
           · first | omega | (simp only [List.length_nil]; omega)
           )
        | (with_reducible exact indexByte_ok _ _ _)
        | ((with_reducible refine HkTag.mk (n := 46) ?_); rintro _ _ ⟨v1, L1, acc1, rfl, rfl, hap1, hok1⟩)
        | ((with_reducible refine HkTag.mk (n := 54) ?_); rintro _ _ ⟨rfl, hh⟩; replace hh := hh.symm; subst hh)
        | ((with_reducible refine HkTag.mk (n := 55) ?_); rintro _ _ ⟨rfl, hh⟩; replace hh := hh.symm; subst hh)
        )
      exact ⟨v1, L1, acc1, rfl, rfl, hap1, fun q => by cases q⟩
    | true =>
    have hcut : ∀ h, cut Try.prog 9 h (.string ⟨#[32, 32, 59, 124, 38, 42]⟩) (some (.int .i64 2)) none none = some (.string ⟨#[59, 124, 38, 42]⟩) := fun h =>
      (cut_str_lo Ty.st9 _ 2 (by decide) (by decide +kernel) _).trans (congrArg (fun x => some (Value.string x)) (by decide +kernel))
    have hnr := nxtB_range s e1
    have hixb := ixB (nxtB s e1) hnr
    by_cases h4 : e1 = s.size
    · rw [if_pos (.inr h4)] at hr
      simp only [Prod.mk.injEq] at hr
      obtain ⟨rfl, rfl, rfl⟩ := hr
      have hn2 : nxtB s e1 = 0 := if_pos h4
      rw [hn2] at hixb
      rw [if_pos (by decide)] at hixb
      have q2 : (1 : Int) < 2 := by omega
      clear h4 hnr
      refine acalls_fn Try.func46 rfl Try.ntmps46 (by simp) (by dsimp only [Try.f46]) ?_
      repeat' (first
        | ((with_reducible refine eq_go ?_); simp only [stp, ev, put_some, put_none, argT_list, List.getD_cons_zero, List.getD_cons_succ, reduceIte, Nat.reduceEqDiff, Option.map_some, Array.map_empty, List.map_toArray, List.map_cons, List.map_nil, List.append_toArray, Array.append_empty, Array.empty_append, List.nil_append, List.append_nil, and_self, if_true, decide_true, decide_false, Int.toNat_natCast, Int.natCast_nonneg, List.length_map, binV_add, binV_sub, binV_and, binV_shr, binV_shl, binV_str_eql, binV_str_neq, binV_mul, binV_eql, binV_neq, binV_lss, binV_leq, binV_gtr, binV_geq, unV_not, Bool.not_true, Bool.not_false, Bool.cond_true, Bool.cond_false, bld, fillL, vcs, splice, List.getElem?_toArray, List.getElem?_cons_zero, List.getElem?_cons_succ, true_and, Option.map_none, ldv, stv, vcs, conV, fldA, blt, lenV, List.size_toArray, List.length_cons, List.length_nil, Nat.zero_add, Array.getD_eq_getD_getElem?, List.getElem?_toArray, List.getElem?_cons_zero, List.getElem?_cons_succ, Option.getD_some, Option.isSome_some, Nat.add_assoc, List.toList_toArray, eq_self, Option.bind_some, List.append_assoc, List.cons_append, List.length_append, List.length_cons, List.length_nil, Nat.zero_add, Nat.add_zero, Nat.reduceAdd, Nat.reduceMul, Nat.reduceLeDiff, mset_some, mset_none, set_at, set_at0, killL_nil, killL_cons, getC_succ2, getC_succ3, getC_succ4, getC_succ5, getC_succ6, loadCs_succ2, loadCs_succ3, loadCs_succ4, loadCs_succ5, loadCs_succ6, setCs_succ2, setCs_succ3, setCs_succ4, setCs_succ5, setCs_succ6, getC_at, getC_at0, getC_zero, getC_succ, loadCs_at, loadCs_at0, loadCs_zero, loadCs_succ, setCs_at, setCs_at0, setCs_zero, setCs_succ, splice, List.set_cons_succ, List.set_cons_zero, List.getElem?_cons_zero, List.getElem?_cons_succ, List.drop_zero, List.drop_succ_cons, List.take_succ_cons, List.take_zero, newB, vcs, flat_int, flat_bool, flat_string, flat_slice, flat_pointer, flat_func, flat_nilFunc, List.all_cons, List.all_nil, Bool.and_true, Bool.and_self, Ty.ld3, Ty.sz3, Ty.zc3, Ty.by3, Ty.un3, Ty.ld5, Ty.sz5, Ty.zc5, Ty.by5, Ty.un5, Ty.ld9, Ty.sz9, Ty.st9, Ty.zc9, Ty.by9, Ty.un9, Ty.ld48, Ty.sz48, Ty.sl48, Ty.zc48, Ty.by48, Ty.un48, Ty.ld64, Ty.sz64, Ty.zc64, Ty.by64, Ty.un64, Ty.ld66, Ty.sz66, Ty.zc66, Ty.by66, Ty.un66, Ty.pl66, Ty.fl66_0, Ty.fl66_1, Ty.fl66_2, Ty.ld70, Ty.sz70, Ty.zc70, Ty.by70, Ty.un70, Ty.pl70, Ty.fl70_0, Ty.fl70_1, *]; rfl)
        | (with_reducible refine aw_then ?_) | (with_reducible refine aw_skip ?_) | (with_reducible refine aw_ret ?_) | (with_reducible refine aw_exit ?_) | (with_reducible refine aw_block ?_) | (with_reducible refine xr_reg (by decide +kernel) ?_)
        | (with_reducible refine xr_nil ?_) | (with_reducible refine k_norm ?_) | (with_reducible refine k_ret ?_) | (with_reducible refine k_exit ?_) | (with_reducible refine b_norm ?_) | (with_reducible refine b_ret ?_) | (with_reducible refine b_exit ?_) | (with_reducible refine b_past (by decide) ?_)
        | (with_reducible refine xd_nil ?_)
        | (refine xr_cl (f := ?_) (fs := ?_) (cs := ?_) (args := ?_) (K := ?_) ?_ ?_ ?_ ?_ ?_
           rotate_left 5
           · simp only [ev]; rfl
           first
           | (· with_reducible exact Ty.ok46
              rotate_left 2
              refine hk_tag 46 ?_
              rotate_right 2)
           | (· with_reducible exact Ty.ok54
              rotate_left 2
              refine hk_tag 54 ?_
              rotate_right 2)
           | (· with_reducible exact Ty.ok55
              rotate_left 2
              refine hk_tag 55 ?_
              rotate_right 2)
           )
        | (refine xr_gcl (f := ?_) (fs := ?_) (cs := ?_) (args := ?_) (K := ?_) (by exact rfl) ?_ ?_ ?_ ?_ ?_ ?_
           rotate_left 5
           · simp only [ev, put_some, reduceIte, Nat.reduceEqDiff, Bool.not_true, Bool.not_false, *]
           · simp only [ev]; rfl
           first
           | (· with_reducible exact Ty.ok46
              rotate_left 2
              refine hk_tag 46 ?_
              rotate_right 2)
           | (· with_reducible exact Ty.ok54
              rotate_left 2
              refine hk_tag 54 ?_
              rotate_right 2)
           | (· with_reducible exact Ty.ok55
              rotate_left 2
              refine hk_tag 55 ?_
              rotate_right 2)
           )
        | (refine xd_cl (f := ?_) (fs := ?_) (cs := ?_) (args := ?_) (v := ?_) ?_ ?_ ?_ ?_ ?_ ?_
           rotate_left 5
           · simp only [ev]; rfl
           · first | with_reducible exact Ty.ok46 | with_reducible exact Ty.ok54 | with_reducible exact Ty.ok55
           rotate_left 1
           · decide +kernel
           rotate_right 1)
        | (refine xd_gcl (f := ?_) (fs := ?_) (cs := ?_) (args := ?_) (v := ?_) (by exact rfl) ?_ ?_ ?_ ?_ ?_ ?_ ?_
           rotate_left 5
           · simp only [ev, put_some, reduceIte, Nat.reduceEqDiff, Bool.not_true, Bool.not_false, *]
           · simp only [ev]; rfl
           · first | with_reducible exact Ty.ok46 | with_reducible exact Ty.ok54 | with_reducible exact Ty.ok55
           rotate_left 1
           · decide +kernel
           rotate_right 1)
        | (refine xr_do (v := ?_) (h' := ?_) (by exact rfl) ?_ ?_; rotate_left 2)
        | (refine xr_st (v := ?_) (h' := ?_) (by exact rfl) ?_ ?_; rotate_left 2)
        | (refine xd_reg (ms := [0, 0, 2, 7, 15, 31]) Ty.mx (by decide +kernel) (by decide +kernel) ?_)
        | (refine xd_do (v := ?_) (by exact rfl) (by decide +kernel) ?_ ?_; rotate_left 1)
        | (refine xd_gdo (v := ?_) (by exact rfl) (by decide +kernel) (by exact rfl) ?_ ?_ ?_
           rotate_left 1
           · simp only [ev, put_some, reduceIte, Nat.reduceEqDiff, Bool.not_true, Bool.not_false, *])
        | (refine xd_goff (by exact rfl) ?_ ?_
           · simp only [ev, put_some, reduceIte, Nat.reduceEqDiff, Bool.not_true, Bool.not_false, *])
        | (refine xd_gund (by exact rfl) ?_ ?_
           · simp only [ev, put_some, reduceIte, Nat.reduceEqDiff, Bool.not_true, Bool.not_false, *])
        | (refine xd_gif (b := ?_) (by exact rfl) ?_ (fun hb => ?_) (fun hb => ?_)
           rotate_left 1
           · simp only [ev, put_some, reduceIte, Nat.reduceEqDiff, Bool.not_true, Bool.not_false, *]; rfl)
        | (refine xr_gdo (v := ?_) (h' := ?_) (by exact rfl) (by exact rfl) ?_ ?_ ?_
           rotate_left 2
           · simp only [ev, put_some, reduceIte, Nat.reduceEqDiff, Bool.not_true, Bool.not_false, *])
        | (refine xr_gst (v := ?_) (h' := ?_) (by exact rfl) (by exact rfl) ?_ ?_ ?_
           rotate_left 2
           · simp only [ev, put_some, reduceIte, Nat.reduceEqDiff, Bool.not_true, Bool.not_false, *])
        | (refine xr_goff (by exact rfl) ?_ ?_
           · simp only [ev, put_some, reduceIte, Nat.reduceEqDiff, Bool.not_true, Bool.not_false, *])
        | (refine xr_gsoff (by exact rfl) ?_ ?_
           · simp only [ev, put_some, reduceIte, Nat.reduceEqDiff, Bool.not_true, Bool.not_false, *])
        | (refine xr_gund (by exact rfl) ?_ ?_
           · simp only [ev, put_some, reduceIte, Nat.reduceEqDiff, Bool.not_true, Bool.not_false, *])
        | (refine xr_gsund (by exact rfl) ?_ ?_
           · simp only [ev, put_some, reduceIte, Nat.reduceEqDiff, Bool.not_true, Bool.not_false, *])
        | (refine xr_gif (b := ?_) (by exact rfl) ?_ (fun hb => ?_) (fun hb => ?_)
           rotate_left 1
           · simp only [ev, put_some, reduceIte, Nat.reduceEqDiff, Bool.not_true, Bool.not_false, *]; rfl)
        | (refine aw_ift (by decide) ?_ ?_
           · simp only [ev, put_some, reduceIte, Nat.reduceEqDiff, *])
        | (refine aw_iff (by decide) ?_ ?_
           · simp only [ev, put_some, reduceIte, Nat.reduceEqDiff, *])
        | (refine aw_if (b := ?_) (by decide) ?_ (fun hb => ?_) (fun hb => ?_)
           rotate_left 1
           · simp only [ev, put_some, reduceIte, Nat.reduceEqDiff, *]; rfl)
        | (refine r_ret (vs := ?_) ?_ ?_
           rotate_left 1
           · simp only [resV, ev, put_some, reduceIte, Nat.reduceEqDiff, Option.map_some, *]; rfl)
        | (with_reducible refine ih ?_ ?_ ?_ _ _ _ _ ?_ ?_ ?_ ?_ ?_ ?_
           rotate_left 4
           · assumption
           · first | omega | (simp only [List.length_nil]; omega)
           · first | omega | (simp only [List.length_nil]; omega)
           · assumption
           · first | omega | (rw [hok1 rfl, List.length_append]; omega)
           )
        | (with_reducible refine next_ok _ _ _ _ _ ?_ ?_ ?_
           · first | rfl | assumption | exact hap1.flat
           · first | omega | (simp only [List.length_nil]; omega)
           · first | omega | (simp only [List.length_nil]; omega)
           )
        | (with_reducible exact indexByte_ok _ _ _)
        | ((with_reducible refine HkTag.mk (n := 46) ?_); rintro _ _ ⟨v1, L1, acc1, rfl, rfl, hap1, hok1⟩)
        | ((with_reducible refine HkTag.mk (n := 54) ?_); rintro _ _ ⟨rfl, hh⟩; replace hh := hh.symm; subst hh)
        | ((with_reducible refine HkTag.mk (n := 55) ?_); rintro _ _ ⟨rfl, hh⟩; replace hh := hh.symm; subst hh)
        )
      exact ⟨v1, L1, acc1, rfl, rfl, hap1, fun q => by cases q⟩
    rw [if_neg (by simp [h4])] at hr
    have helt : e1 < s.size := by omega
    have hn2 : nxtB s e1 = bt s e1 := if_neg h4
    rw [hn2] at hixb hnr
    generalize hc2 : bt s e1 = c2 at hixb hnr hn2 hr
    by_cases h5 : opOf c2 = 0
    · rw [if_pos h5] at hr hixb
      simp only [Prod.mk.injEq] at hr
      obtain ⟨rfl, rfl, rfl⟩ := hr
      have q2 : (1 : Int) < 2 := by omega
      clear h4 hnr
      refine acalls_fn Try.func46 rfl Try.ntmps46 (by simp) (by dsimp only [Try.f46]) ?_
      repeat' (first
        | ((with_reducible refine eq_go ?_); simp only [stp, ev, put_some, put_none, argT_list, List.getD_cons_zero, List.getD_cons_succ, reduceIte, Nat.reduceEqDiff, Option.map_some, Array.map_empty, List.map_toArray, List.map_cons, List.map_nil, List.append_toArray, Array.append_empty, Array.empty_append, List.nil_append, List.append_nil, and_self, if_true, decide_true, decide_false, Int.toNat_natCast, Int.natCast_nonneg, List.length_map, binV_add, binV_sub, binV_and, binV_shr, binV_shl, binV_str_eql, binV_str_neq, binV_mul, binV_eql, binV_neq, binV_lss, binV_leq, binV_gtr, binV_geq, unV_not, Bool.not_true, Bool.not_false, Bool.cond_true, Bool.cond_false, bld, fillL, vcs, splice, List.getElem?_toArray, List.getElem?_cons_zero, List.getElem?_cons_succ, true_and, Option.map_none, ldv, stv, vcs, conV, fldA, blt, lenV, List.size_toArray, List.length_cons, List.length_nil, Nat.zero_add, Array.getD_eq_getD_getElem?, List.getElem?_toArray, List.getElem?_cons_zero, List.getElem?_cons_succ, Option.getD_some, Option.isSome_some, Nat.add_assoc, List.toList_toArray, eq_self, Option.bind_some, List.append_assoc, List.cons_append, List.length_append, List.length_cons, List.length_nil, Nat.zero_add, Nat.add_zero, Nat.reduceAdd, Nat.reduceMul, Nat.reduceLeDiff, mset_some, mset_none, set_at, set_at0, killL_nil, killL_cons, getC_succ2, getC_succ3, getC_succ4, getC_succ5, getC_succ6, loadCs_succ2, loadCs_succ3, loadCs_succ4, loadCs_succ5, loadCs_succ6, setCs_succ2, setCs_succ3, setCs_succ4, setCs_succ5, setCs_succ6, getC_at, getC_at0, getC_zero, getC_succ, loadCs_at, loadCs_at0, loadCs_zero, loadCs_succ, setCs_at, setCs_at0, setCs_zero, setCs_succ, splice, List.set_cons_succ, List.set_cons_zero, List.getElem?_cons_zero, List.getElem?_cons_succ, List.drop_zero, List.drop_succ_cons, List.take_succ_cons, List.take_zero, newB, vcs, flat_int, flat_bool, flat_string, flat_slice, flat_pointer, flat_func, flat_nilFunc, List.all_cons, List.all_nil, Bool.and_true, Bool.and_self, Ty.ld3, Ty.sz3, Ty.zc3, Ty.by3, Ty.un3, Ty.ld5, Ty.sz5, Ty.zc5, Ty.by5, Ty.un5, Ty.ld9, Ty.sz9, Ty.st9, Ty.zc9, Ty.by9, Ty.un9, Ty.ld48, Ty.sz48, Ty.sl48, Ty.zc48, Ty.by48, Ty.un48, Ty.ld64, Ty.sz64, Ty.zc64, Ty.by64, Ty.un64, Ty.ld66, Ty.sz66, Ty.zc66, Ty.by66, Ty.un66, Ty.pl66, Ty.fl66_0, Ty.fl66_1, Ty.fl66_2, Ty.ld70, Ty.sz70, Ty.zc70, Ty.by70, Ty.un70, Ty.pl70, Ty.fl70_0, Ty.fl70_1, *]; rfl)
        | (with_reducible refine aw_then ?_) | (with_reducible refine aw_skip ?_) | (with_reducible refine aw_ret ?_) | (with_reducible refine aw_exit ?_) | (with_reducible refine aw_block ?_) | (with_reducible refine xr_reg (by decide +kernel) ?_)
        | (with_reducible refine xr_nil ?_) | (with_reducible refine k_norm ?_) | (with_reducible refine k_ret ?_) | (with_reducible refine k_exit ?_) | (with_reducible refine b_norm ?_) | (with_reducible refine b_ret ?_) | (with_reducible refine b_exit ?_) | (with_reducible refine b_past (by decide) ?_)
        | (with_reducible refine xd_nil ?_)
        | (refine xr_cl (f := ?_) (fs := ?_) (cs := ?_) (args := ?_) (K := ?_) ?_ ?_ ?_ ?_ ?_
           rotate_left 5
           · simp only [ev]; rfl
           first
           | (· with_reducible exact Ty.ok46
              rotate_left 2
              refine hk_tag 46 ?_
              rotate_right 2)
           | (· with_reducible exact Ty.ok54
              rotate_left 2
              refine hk_tag 54 ?_
              rotate_right 2)
           | (· with_reducible exact Ty.ok55
              rotate_left 2
              refine hk_tag 55 ?_
              rotate_right 2)
           )
        | (refine xr_gcl (f := ?_) (fs := ?_) (cs := ?_) (args := ?_) (K := ?_) (by exact rfl) ?_ ?_ ?_ ?_ ?_ ?_
           rotate_left 5
           · simp only [ev, put_some, reduceIte, Nat.reduceEqDiff, Bool.not_true, Bool.not_false, *]
           · simp only [ev]; rfl
           first
           | (· with_reducible exact Ty.ok46
              rotate_left 2
              refine hk_tag 46 ?_
              rotate_right 2)
           | (· with_reducible exact Ty.ok54
              rotate_left 2
              refine hk_tag 54 ?_
              rotate_right 2)
           | (· with_reducible exact Ty.ok55
              rotate_left 2
              refine hk_tag 55 ?_
              rotate_right 2)
           )
        | (refine xd_cl (f := ?_) (fs := ?_) (cs := ?_) (args := ?_) (v := ?_) ?_ ?_ ?_ ?_ ?_ ?_
           rotate_left 5
           · simp only [ev]; rfl
           · first | with_reducible exact Ty.ok46 | with_reducible exact Ty.ok54 | with_reducible exact Ty.ok55
           rotate_left 1
           · decide +kernel
           rotate_right 1)
        | (refine xd_gcl (f := ?_) (fs := ?_) (cs := ?_) (args := ?_) (v := ?_) (by exact rfl) ?_ ?_ ?_ ?_ ?_ ?_ ?_
           rotate_left 5
           · simp only [ev, put_some, reduceIte, Nat.reduceEqDiff, Bool.not_true, Bool.not_false, *]
           · simp only [ev]; rfl
           · first | with_reducible exact Ty.ok46 | with_reducible exact Ty.ok54 | with_reducible exact Ty.ok55
           rotate_left 1
           · decide +kernel
           rotate_right 1)
        | (refine xr_do (v := ?_) (h' := ?_) (by exact rfl) ?_ ?_; rotate_left 2)
        | (refine xr_st (v := ?_) (h' := ?_) (by exact rfl) ?_ ?_; rotate_left 2)
        | (refine xd_reg (ms := [0, 0, 2, 7, 15, 31]) Ty.mx (by decide +kernel) (by decide +kernel) ?_)
        | (refine xd_do (v := ?_) (by exact rfl) (by decide +kernel) ?_ ?_; rotate_left 1)
        | (refine xd_gdo (v := ?_) (by exact rfl) (by decide +kernel) (by exact rfl) ?_ ?_ ?_
           rotate_left 1
           · simp only [ev, put_some, reduceIte, Nat.reduceEqDiff, Bool.not_true, Bool.not_false, *])
        | (refine xd_goff (by exact rfl) ?_ ?_
           · simp only [ev, put_some, reduceIte, Nat.reduceEqDiff, Bool.not_true, Bool.not_false, *])
        | (refine xd_gund (by exact rfl) ?_ ?_
           · simp only [ev, put_some, reduceIte, Nat.reduceEqDiff, Bool.not_true, Bool.not_false, *])
        | (refine xd_gif (b := ?_) (by exact rfl) ?_ (fun hb => ?_) (fun hb => ?_)
           rotate_left 1
           · simp only [ev, put_some, reduceIte, Nat.reduceEqDiff, Bool.not_true, Bool.not_false, *]; rfl)
        | (refine xr_gdo (v := ?_) (h' := ?_) (by exact rfl) (by exact rfl) ?_ ?_ ?_
           rotate_left 2
           · simp only [ev, put_some, reduceIte, Nat.reduceEqDiff, Bool.not_true, Bool.not_false, *])
        | (refine xr_gst (v := ?_) (h' := ?_) (by exact rfl) (by exact rfl) ?_ ?_ ?_
           rotate_left 2
           · simp only [ev, put_some, reduceIte, Nat.reduceEqDiff, Bool.not_true, Bool.not_false, *])
        | (refine xr_goff (by exact rfl) ?_ ?_
           · simp only [ev, put_some, reduceIte, Nat.reduceEqDiff, Bool.not_true, Bool.not_false, *])
        | (refine xr_gsoff (by exact rfl) ?_ ?_
           · simp only [ev, put_some, reduceIte, Nat.reduceEqDiff, Bool.not_true, Bool.not_false, *])
        | (refine xr_gund (by exact rfl) ?_ ?_
           · simp only [ev, put_some, reduceIte, Nat.reduceEqDiff, Bool.not_true, Bool.not_false, *])
        | (refine xr_gsund (by exact rfl) ?_ ?_
           · simp only [ev, put_some, reduceIte, Nat.reduceEqDiff, Bool.not_true, Bool.not_false, *])
        | (refine xr_gif (b := ?_) (by exact rfl) ?_ (fun hb => ?_) (fun hb => ?_)
           rotate_left 1
           · simp only [ev, put_some, reduceIte, Nat.reduceEqDiff, Bool.not_true, Bool.not_false, *]; rfl)
        | (refine aw_ift (by decide) ?_ ?_
           · simp only [ev, put_some, reduceIte, Nat.reduceEqDiff, *])
        | (refine aw_iff (by decide) ?_ ?_
           · simp only [ev, put_some, reduceIte, Nat.reduceEqDiff, *])
        | (refine aw_if (b := ?_) (by decide) ?_ (fun hb => ?_) (fun hb => ?_)
           rotate_left 1
           · simp only [ev, put_some, reduceIte, Nat.reduceEqDiff, *]; rfl)
        | (refine r_ret (vs := ?_) ?_ ?_
           rotate_left 1
           · simp only [resV, ev, put_some, reduceIte, Nat.reduceEqDiff, Option.map_some, *]; rfl)
        | (with_reducible refine ih ?_ ?_ ?_ _ _ _ _ ?_ ?_ ?_ ?_ ?_ ?_
           rotate_left 4
           · assumption
           · first | omega | (simp only [List.length_nil]; omega)
           · first | omega | (simp only [List.length_nil]; omega)
           · assumption
           · first | omega | (rw [hok1 rfl, List.length_append]; omega)
           )
        | (with_reducible refine next_ok _ _ _ _ _ ?_ ?_ ?_
           · first | rfl | assumption | exact hap1.flat
           · first | omega | (simp only [List.length_nil]; omega)
           · first | omega | (simp only [List.length_nil]; omega)
           )
        | (with_reducible exact indexByte_ok _ _ _)
        | ((with_reducible refine HkTag.mk (n := 46) ?_); rintro _ _ ⟨v1, L1, acc1, rfl, rfl, hap1, hok1⟩)
        | ((with_reducible refine HkTag.mk (n := 54) ?_); rintro _ _ ⟨rfl, hh⟩; replace hh := hh.symm; subst hh)
        | ((with_reducible refine HkTag.mk (n := 55) ?_); rintro _ _ ⟨rfl, hh⟩; replace hh := hh.symm; subst hh)
        )
      exact ⟨v1, L1, acc1, rfl, rfl, hap1, fun q => by cases q⟩
    rw [if_neg h5] at hr hixb
    have q2 : ¬ opOf c2 < 2 := by
      unfold opOf at h5 ⊢
      repeat' split
      all_goals simp_all
    have i2 := rdT_inv s f (e1 + 1) (by omega)
    generalize hr2 : rdT s f (e1 + 1) = r2 at i2 hr
    obtain ⟨a2, e2, ok2⟩ := r2
    simp only at i2 hr
    have hw4 : IntKind.i64.wrap ((e1 : Int) + 1) = ((e1 + 1 : Nat) : Int) := by rw [wrap_id (by omega)]; omega
    cases ok2 with
    | false =>
      rw [if_pos (.inl rfl)] at hr
      simp only [Prod.mk.injEq] at hr
      obtain ⟨rfl, rfl, rfl⟩ := hr
      clear h4 hnr
      refine acalls_fn Try.func46 rfl Try.ntmps46 (by simp) (by dsimp only [Try.f46]) ?_
      repeat' (first
        | ((with_reducible refine eq_go ?_); simp only [stp, ev, put_some, put_none, argT_list, List.getD_cons_zero, List.getD_cons_succ, reduceIte, Nat.reduceEqDiff, Option.map_some, Array.map_empty, List.map_toArray, List.map_cons, List.map_nil, List.append_toArray, Array.append_empty, Array.empty_append, List.nil_append, List.append_nil, and_self, if_true, decide_true, decide_false, Int.toNat_natCast, Int.natCast_nonneg, List.length_map, binV_add, binV_sub, binV_and, binV_shr, binV_shl, binV_str_eql, binV_str_neq, binV_mul, binV_eql, binV_neq, binV_lss, binV_leq, binV_gtr, binV_geq, unV_not, Bool.not_true, Bool.not_false, Bool.cond_true, Bool.cond_false, bld, fillL, vcs, splice, List.getElem?_toArray, List.getElem?_cons_zero, List.getElem?_cons_succ, true_and, Option.map_none, ldv, stv, vcs, conV, fldA, blt, lenV, List.size_toArray, List.length_cons, List.length_nil, Nat.zero_add, Array.getD_eq_getD_getElem?, List.getElem?_toArray, List.getElem?_cons_zero, List.getElem?_cons_succ, Option.getD_some, Option.isSome_some, Nat.add_assoc, List.toList_toArray, eq_self, Option.bind_some, List.append_assoc, List.cons_append, List.length_append, List.length_cons, List.length_nil, Nat.zero_add, Nat.add_zero, Nat.reduceAdd, Nat.reduceMul, Nat.reduceLeDiff, mset_some, mset_none, set_at, set_at0, killL_nil, killL_cons, getC_succ2, getC_succ3, getC_succ4, getC_succ5, getC_succ6, loadCs_succ2, loadCs_succ3, loadCs_succ4, loadCs_succ5, loadCs_succ6, setCs_succ2, setCs_succ3, setCs_succ4, setCs_succ5, setCs_succ6, getC_at, getC_at0, getC_zero, getC_succ, loadCs_at, loadCs_at0, loadCs_zero, loadCs_succ, setCs_at, setCs_at0, setCs_zero, setCs_succ, splice, List.set_cons_succ, List.set_cons_zero, List.getElem?_cons_zero, List.getElem?_cons_succ, List.drop_zero, List.drop_succ_cons, List.take_succ_cons, List.take_zero, newB, vcs, flat_int, flat_bool, flat_string, flat_slice, flat_pointer, flat_func, flat_nilFunc, List.all_cons, List.all_nil, Bool.and_true, Bool.and_self, Ty.ld3, Ty.sz3, Ty.zc3, Ty.by3, Ty.un3, Ty.ld5, Ty.sz5, Ty.zc5, Ty.by5, Ty.un5, Ty.ld9, Ty.sz9, Ty.st9, Ty.zc9, Ty.by9, Ty.un9, Ty.ld48, Ty.sz48, Ty.sl48, Ty.zc48, Ty.by48, Ty.un48, Ty.ld64, Ty.sz64, Ty.zc64, Ty.by64, Ty.un64, Ty.ld66, Ty.sz66, Ty.zc66, Ty.by66, Ty.un66, Ty.pl66, Ty.fl66_0, Ty.fl66_1, Ty.fl66_2, Ty.ld70, Ty.sz70, Ty.zc70, Ty.by70, Ty.un70, Ty.pl70, Ty.fl70_0, Ty.fl70_1, *]; rfl)
        | (with_reducible refine aw_then ?_) | (with_reducible refine aw_skip ?_) | (with_reducible refine aw_ret ?_) | (with_reducible refine aw_exit ?_) | (with_reducible refine aw_block ?_) | (with_reducible refine xr_reg (by decide +kernel) ?_)
        | (with_reducible refine xr_nil ?_) | (with_reducible refine k_norm ?_) | (with_reducible refine k_ret ?_) | (with_reducible refine k_exit ?_) | (with_reducible refine b_norm ?_) | (with_reducible refine b_ret ?_) | (with_reducible refine b_exit ?_) | (with_reducible refine b_past (by decide) ?_)
        | (with_reducible refine xd_nil ?_)
        | (refine xr_cl (f := ?_) (fs := ?_) (cs := ?_) (args := ?_) (K := ?_) ?_ ?_ ?_ ?_ ?_
           rotate_left 5
           · simp only [ev]; rfl
           first
           | (· with_reducible exact Ty.ok46
              rotate_left 2
              refine hk_tag 46 ?_
              rotate_right 2)
           | (· with_reducible exact Ty.ok54
              rotate_left 2
              refine hk_tag 54 ?_
              rotate_right 2)
           | (· with_reducible exact Ty.ok55
              rotate_left 2
              refine hk_tag 55 ?_
              rotate_right 2)
           )
        | (refine xr_gcl (f := ?_) (fs := ?_) (cs := ?_) (args := ?_) (K := ?_) (by exact rfl) ?_ ?_ ?_ ?_ ?_ ?_
           rotate_left 5
           · simp only [ev, put_some, reduceIte, Nat.reduceEqDiff, Bool.not_true, Bool.not_false, *]
           · simp only [ev]; rfl
           first
           | (· with_reducible exact Ty.ok46
              rotate_left 2
              refine hk_tag 46 ?_
              rotate_right 2)
           | (· with_reducible exact Ty.ok54
              rotate_left 2
              refine hk_tag 54 ?_
              rotate_right 2)
           | (· with_reducible exact Ty.ok55
              rotate_left 2
              refine hk_tag 55 ?_
              rotate_right 2)
           )
        | (refine xd_cl (f := ?_) (fs := ?_) (cs := ?_) (args := ?_) (v := ?_) ?_ ?_ ?_ ?_ ?_ ?_
           rotate_left 5
           · simp only [ev]; rfl
           · first | with_reducible exact Ty.ok46 | with_reducible exact Ty.ok54 | with_reducible exact Ty.ok55
           rotate_left 1
           · decide +kernel
           rotate_right 1)
        | (refine xd_gcl (f := ?_) (fs := ?_) (cs := ?_) (args := ?_) (v := ?_) (by exact rfl) ?_ ?_ ?_ ?_ ?_ ?_ ?_
           rotate_left 5
           · simp only [ev, put_some, reduceIte, Nat.reduceEqDiff, Bool.not_true, Bool.not_false, *]
           · simp only [ev]; rfl
           · first | with_reducible exact Ty.ok46 | with_reducible exact Ty.ok54 | with_reducible exact Ty.ok55
           rotate_left 1
           · decide +kernel
           rotate_right 1)
        | (refine xr_do (v := ?_) (h' := ?_) (by exact rfl) ?_ ?_; rotate_left 2)
        | (refine xr_st (v := ?_) (h' := ?_) (by exact rfl) ?_ ?_; rotate_left 2)
        | (refine xd_reg (ms := [0, 0, 2, 7, 15, 31]) Ty.mx (by decide +kernel) (by decide +kernel) ?_)
        | (refine xd_do (v := ?_) (by exact rfl) (by decide +kernel) ?_ ?_; rotate_left 1)
        | (refine xd_gdo (v := ?_) (by exact rfl) (by decide +kernel) (by exact rfl) ?_ ?_ ?_
           rotate_left 1
           · simp only [ev, put_some, reduceIte, Nat.reduceEqDiff, Bool.not_true, Bool.not_false, *])
        | (refine xd_goff (by exact rfl) ?_ ?_
           · simp only [ev, put_some, reduceIte, Nat.reduceEqDiff, Bool.not_true, Bool.not_false, *])
        | (refine xd_gund (by exact rfl) ?_ ?_
           · simp only [ev, put_some, reduceIte, Nat.reduceEqDiff, Bool.not_true, Bool.not_false, *])
        | (refine xd_gif (b := ?_) (by exact rfl) ?_ (fun hb => ?_) (fun hb => ?_)
           rotate_left 1
           · simp only [ev, put_some, reduceIte, Nat.reduceEqDiff, Bool.not_true, Bool.not_false, *]; rfl)
        | (refine xr_gdo (v := ?_) (h' := ?_) (by exact rfl) (by exact rfl) ?_ ?_ ?_
           rotate_left 2
           · simp only [ev, put_some, reduceIte, Nat.reduceEqDiff, Bool.not_true, Bool.not_false, *])
        | (refine xr_gst (v := ?_) (h' := ?_) (by exact rfl) (by exact rfl) ?_ ?_ ?_
           rotate_left 2
           · simp only [ev, put_some, reduceIte, Nat.reduceEqDiff, Bool.not_true, Bool.not_false, *])
        | (refine xr_goff (by exact rfl) ?_ ?_
           · simp only [ev, put_some, reduceIte, Nat.reduceEqDiff, Bool.not_true, Bool.not_false, *])
        | (refine xr_gsoff (by exact rfl) ?_ ?_
           · simp only [ev, put_some, reduceIte, Nat.reduceEqDiff, Bool.not_true, Bool.not_false, *])
        | (refine xr_gund (by exact rfl) ?_ ?_
           · simp only [ev, put_some, reduceIte, Nat.reduceEqDiff, Bool.not_true, Bool.not_false, *])
        | (refine xr_gsund (by exact rfl) ?_ ?_
           · simp only [ev, put_some, reduceIte, Nat.reduceEqDiff, Bool.not_true, Bool.not_false, *])
        | (refine xr_gif (b := ?_) (by exact rfl) ?_ (fun hb => ?_) (fun hb => ?_)
           rotate_left 1
           · simp only [ev, put_some, reduceIte, Nat.reduceEqDiff, Bool.not_true, Bool.not_false, *]; rfl)
        | (refine aw_ift (by decide) ?_ ?_
           · simp only [ev, put_some, reduceIte, Nat.reduceEqDiff, *])
        | (refine aw_iff (by decide) ?_ ?_
           · simp only [ev, put_some, reduceIte, Nat.reduceEqDiff, *])
        | (refine aw_if (b := ?_) (by decide) ?_ (fun hb => ?_) (fun hb => ?_)
           rotate_left 1
           · simp only [ev, put_some, reduceIte, Nat.reduceEqDiff, *]; rfl)
        | (refine r_ret (vs := ?_) ?_ ?_
           rotate_left 1
           · simp only [resV, ev, put_some, reduceIte, Nat.reduceEqDiff, Option.map_some, *]; rfl)
        | (with_reducible refine ih ?_ ?_ ?_ _ _ _ _ ?_ ?_ ?_ ?_ ?_ ?_
           rotate_left 4
           · assumption
           · first | omega | (simp only [List.length_nil]; omega)
           · first | omega | (simp only [List.length_nil]; omega)
           · assumption
           · first | omega | (rw [hok1 rfl, List.length_append]; omega)
           )
        | (with_reducible refine next_ok _ _ _ _ _ ?_ ?_ ?_
           · first | rfl | assumption | exact hap1.flat
           · first | omega | (simp only [List.length_nil]; omega)
           · first | omega | (simp only [List.length_nil]; omega)
           )
        | (with_reducible exact indexByte_ok _ _ _)
        | ((with_reducible refine HkTag.mk (n := 46) ?_); rintro _ _ ⟨v1, L1, acc1, rfl, rfl, hap1, hok1⟩)
        | ((with_reducible refine HkTag.mk (n := 54) ?_); rintro _ _ ⟨rfl, hh⟩; replace hh := hh.symm; subst hh)
        | ((with_reducible refine HkTag.mk (n := 55) ?_); rintro _ _ ⟨rfl, hh⟩; replace hh := hh.symm; subst hh)
        )
      exact ⟨v1, L1, acc1, rfl, rfl, hap1, fun q => by cases q⟩
    | true =>
    by_cases h6 : nxtB s e2 = 41
    · have h6' : e2 ≠ s.size := by
        intro q; rw [nxtB, if_pos q] at h6; cases h6
      have h7 : bt s e2 = 41 := by rw [nxtB, if_neg h6'] at h6; exact h6
      rw [if_neg (by simp [h6', h7])] at hr
      simp only [Prod.mk.injEq] at hr
      obtain ⟨rfl, rfl, rfl⟩ := hr
      have hw5 : IntKind.i64.wrap ((e2 : Int) + 1) = ((e2 + 1 : Nat) : Int) := by rw [wrap_id (by omega)]; omega
      clear h4 hnr
      refine acalls_fn Try.func46 rfl Try.ntmps46 (by simp) (by dsimp only [Try.f46]) ?_
      repeat' (first
        | (with_reducible refine xr_park 81 ?_)
        | ((with_reducible refine eq_go ?_); simp only [stp, ev, put_some, put_none, argT_list, List.getD_cons_zero, List.getD_cons_succ, reduceIte, Nat.reduceEqDiff, Option.map_some, Array.map_empty, List.map_toArray, List.map_cons, List.map_nil, List.append_toArray, Array.append_empty, Array.empty_append, List.nil_append, List.append_nil, and_self, if_true, decide_true, decide_false, Int.toNat_natCast, Int.natCast_nonneg, List.length_map, binV_add, binV_sub, binV_and, binV_shr, binV_shl, binV_str_eql, binV_str_neq, binV_mul, binV_eql, binV_neq, binV_lss, binV_leq, binV_gtr, binV_geq, unV_not, Bool.not_true, Bool.not_false, Bool.cond_true, Bool.cond_false, bld, fillL, vcs, splice, List.getElem?_toArray, List.getElem?_cons_zero, List.getElem?_cons_succ, true_and, Option.map_none, ldv, stv, vcs, conV, fldA, blt, lenV, List.size_toArray, List.length_cons, List.length_nil, Nat.zero_add, Array.getD_eq_getD_getElem?, List.getElem?_toArray, List.getElem?_cons_zero, List.getElem?_cons_succ, Option.getD_some, Option.isSome_some, Nat.add_assoc, List.toList_toArray, eq_self, Option.bind_some, List.append_assoc, List.cons_append, List.length_append, List.length_cons, List.length_nil, Nat.zero_add, Nat.add_zero, Nat.reduceAdd, Nat.reduceMul, Nat.reduceLeDiff, mset_some, mset_none, set_at, set_at0, killL_nil, killL_cons, getC_succ2, getC_succ3, getC_succ4, getC_succ5, getC_succ6, loadCs_succ2, loadCs_succ3, loadCs_succ4, loadCs_succ5, loadCs_succ6, setCs_succ2, setCs_succ3, setCs_succ4, setCs_succ5, setCs_succ6, getC_at, getC_at0, getC_zero, getC_succ, loadCs_at, loadCs_at0, loadCs_zero, loadCs_succ, setCs_at, setCs_at0, setCs_zero, setCs_succ, splice, List.set_cons_succ, List.set_cons_zero, List.getElem?_cons_zero, List.getElem?_cons_succ, List.drop_zero, List.drop_succ_cons, List.take_succ_cons, List.take_zero, newB, vcs, flat_int, flat_bool, flat_string, flat_slice, flat_pointer, flat_func, flat_nilFunc, List.all_cons, List.all_nil, Bool.and_true, Bool.and_self, Ty.ld3, Ty.sz3, Ty.zc3, Ty.by3, Ty.un3, Ty.ld5, Ty.sz5, Ty.zc5, Ty.by5, Ty.un5, Ty.ld9, Ty.sz9, Ty.st9, Ty.zc9, Ty.by9, Ty.un9, Ty.ld48, Ty.sz48, Ty.sl48, Ty.zc48, Ty.by48, Ty.un48, Ty.ld64, Ty.sz64, Ty.zc64, Ty.by64, Ty.un64, Ty.ld66, Ty.sz66, Ty.zc66, Ty.by66, Ty.un66, Ty.pl66, Ty.fl66_0, Ty.fl66_1, Ty.fl66_2, Ty.ld70, Ty.sz70, Ty.zc70, Ty.by70, Ty.un70, Ty.pl70, Ty.fl70_0, Ty.fl70_1, *]; rfl)
        | (with_reducible refine aw_then ?_) | (with_reducible refine aw_skip ?_) | (with_reducible refine aw_ret ?_) | (with_reducible refine aw_exit ?_) | (with_reducible refine aw_block ?_) | (with_reducible refine xr_reg (by decide +kernel) ?_)
        | (with_reducible refine xr_nil ?_) | (with_reducible refine k_norm ?_) | (with_reducible refine k_ret ?_) | (with_reducible refine k_exit ?_) | (with_reducible refine b_norm ?_) | (with_reducible refine b_ret ?_) | (with_reducible refine b_exit ?_) | (with_reducible refine b_past (by decide) ?_)
        | (with_reducible refine xd_nil ?_)
        | (refine xr_cl (f := ?_) (fs := ?_) (cs := ?_) (args := ?_) (K := ?_) ?_ ?_ ?_ ?_ ?_
           rotate_left 5
           · simp only [ev]; rfl
           first
           | (· with_reducible exact Ty.ok46
              rotate_left 2
              refine hk_tag 46 ?_
              rotate_right 2)
           | (· with_reducible exact Ty.ok54
              rotate_left 2
              refine hk_tag 54 ?_
              rotate_right 2)
           | (· with_reducible exact Ty.ok55
              rotate_left 2
              refine hk_tag 55 ?_
              rotate_right 2)
           )
        | (refine xr_gcl (f := ?_) (fs := ?_) (cs := ?_) (args := ?_) (K := ?_) (by exact rfl) ?_ ?_ ?_ ?_ ?_ ?_
           rotate_left 5
           · simp only [ev, put_some, reduceIte, Nat.reduceEqDiff, Bool.not_true, Bool.not_false, *]
           · simp only [ev]; rfl
           first
           | (· with_reducible exact Ty.ok46
              rotate_left 2
              refine hk_tag 46 ?_
              rotate_right 2)
           | (· with_reducible exact Ty.ok54
              rotate_left 2
              refine hk_tag 54 ?_
              rotate_right 2)
           | (· with_reducible exact Ty.ok55
              rotate_left 2
              refine hk_tag 55 ?_
              rotate_right 2)
           )
        | (refine xd_cl (f := ?_) (fs := ?_) (cs := ?_) (args := ?_) (v := ?_) ?_ ?_ ?_ ?_ ?_ ?_
           rotate_left 5
           · simp only [ev]; rfl
           · first | with_reducible exact Ty.ok46 | with_reducible exact Ty.ok54 | with_reducible exact Ty.ok55
           rotate_left 1
           · decide +kernel
           rotate_right 1)
        | (refine xd_gcl (f := ?_) (fs := ?_) (cs := ?_) (args := ?_) (v := ?_) (by exact rfl) ?_ ?_ ?_ ?_ ?_ ?_ ?_
           rotate_left 5
           · simp only [ev, put_some, reduceIte, Nat.reduceEqDiff, Bool.not_true, Bool.not_false, *]
           · simp only [ev]; rfl
           · first | with_reducible exact Ty.ok46 | with_reducible exact Ty.ok54 | with_reducible exact Ty.ok55
           rotate_left 1
           · decide +kernel
           rotate_right 1)
        | (refine xr_do (v := ?_) (h' := ?_) (by exact rfl) ?_ ?_; rotate_left 2)
        | (refine xr_st (v := ?_) (h' := ?_) (by exact rfl) ?_ ?_; rotate_left 2)
        | (refine xd_reg (ms := [0, 0, 2, 7, 15, 31]) Ty.mx (by decide +kernel) (by decide +kernel) ?_)
        | (refine xd_do (v := ?_) (by exact rfl) (by decide +kernel) ?_ ?_; rotate_left 1)
        | (refine xd_gdo (v := ?_) (by exact rfl) (by decide +kernel) (by exact rfl) ?_ ?_ ?_
           rotate_left 1
           · simp only [ev, put_some, reduceIte, Nat.reduceEqDiff, Bool.not_true, Bool.not_false, *])
        | (refine xd_goff (by exact rfl) ?_ ?_
           · simp only [ev, put_some, reduceIte, Nat.reduceEqDiff, Bool.not_true, Bool.not_false, *])
        | (refine xd_gund (by exact rfl) ?_ ?_
           · simp only [ev, put_some, reduceIte, Nat.reduceEqDiff, Bool.not_true, Bool.not_false, *])
        | (refine xd_gif (b := ?_) (by exact rfl) ?_ (fun hb => ?_) (fun hb => ?_)
           rotate_left 1
           · simp only [ev, put_some, reduceIte, Nat.reduceEqDiff, Bool.not_true, Bool.not_false, *]; rfl)
        | (refine xr_gdo (v := ?_) (h' := ?_) (by exact rfl) (by exact rfl) ?_ ?_ ?_
           rotate_left 2
           · simp only [ev, put_some, reduceIte, Nat.reduceEqDiff, Bool.not_true, Bool.not_false, *])
        | (refine xr_gst (v := ?_) (h' := ?_) (by exact rfl) (by exact rfl) ?_ ?_ ?_
           rotate_left 2
           · simp only [ev, put_some, reduceIte, Nat.reduceEqDiff, Bool.not_true, Bool.not_false, *])
        | (refine xr_goff (by exact rfl) ?_ ?_
           · simp only [ev, put_some, reduceIte, Nat.reduceEqDiff, Bool.not_true, Bool.not_false, *])
        | (refine xr_gsoff (by exact rfl) ?_ ?_
           · simp only [ev, put_some, reduceIte, Nat.reduceEqDiff, Bool.not_true, Bool.not_false, *])
        | (refine xr_gund (by exact rfl) ?_ ?_
           · simp only [ev, put_some, reduceIte, Nat.reduceEqDiff, Bool.not_true, Bool.not_false, *])
        | (refine xr_gsund (by exact rfl) ?_ ?_
           · simp only [ev, put_some, reduceIte, Nat.reduceEqDiff, Bool.not_true, Bool.not_false, *])
        | (refine xr_gif (b := ?_) (by exact rfl) ?_ (fun hb => ?_) (fun hb => ?_)
           rotate_left 1
           · simp only [ev, put_some, reduceIte, Nat.reduceEqDiff, Bool.not_true, Bool.not_false, *]; rfl)
        | (refine aw_ift (by decide) ?_ ?_
           · simp only [ev, put_some, reduceIte, Nat.reduceEqDiff, *])
        | (refine aw_iff (by decide) ?_ ?_
           · simp only [ev, put_some, reduceIte, Nat.reduceEqDiff, *])
        | (refine aw_if (b := ?_) (by decide) ?_ (fun hb => ?_) (fun hb => ?_)
           rotate_left 1
           · simp only [ev, put_some, reduceIte, Nat.reduceEqDiff, *]; rfl)
        | (refine r_ret (vs := ?_) ?_ ?_
           rotate_left 1
           · simp only [resV, ev, put_some, reduceIte, Nat.reduceEqDiff, Option.map_some, *]; rfl)
        | (with_reducible refine ih ?_ ?_ ?_ _ _ _ _ ?_ ?_ ?_ ?_ ?_ ?_
           rotate_left 4
           · assumption
           · first | omega | (simp only [List.length_nil]; omega)
           · first | omega | (simp only [List.length_nil]; omega)
           · assumption
           · first | omega | (rw [hok1 rfl, List.length_append]; omega)
           )
        | (with_reducible refine next_ok _ _ _ _ _ ?_ ?_ ?_
           · first | rfl | assumption | exact hap1.flat
           · first | omega | (simp only [List.length_nil]; omega)
           · first | omega | (simp only [List.length_nil]; omega)
           )
        | (with_reducible exact indexByte_ok _ _ _)
        | ((with_reducible refine HkTag.mk (n := 46) ?_); rintro _ _ ⟨v1, L1, acc1, rfl, rfl, hap1, hok1⟩)
        | ((with_reducible refine HkTag.mk (n := 54) ?_); rintro _ _ ⟨rfl, hh⟩; replace hh := hh.symm; subst hh)
        | ((with_reducible refine HkTag.mk (n := 55) ?_); rintro _ _ ⟨rfl, hh⟩; replace hh := hh.symm; subst hh)
        )
      refine ⟨?_⟩
      rename_i v0 L0 acc0 hap0 hok0
      have hacc2 : acc1 = acc ++ a1 ++ a2 := by rw [hok1 rfl, hok0 rfl]
      have hbs := bsl_agg (P := Try.prog) (t := 48) (e := 70) (cs := [.int .i64 (opOf c2), .int .i64 0]) (h := h ++ ⟨2, 1, [.string s, .int .i64 ((e2 + 1 : Nat) : Int), v1]⟩ :: L1) Ty.sl48 Ty.zc70 rfl rfl (by decide) rfl
      have hacc1 : acc1.length ≤ s.size + s.size + s.size := by
        rw [hacc2, List.length_append, List.length_append]; omega
      obtain ⟨v', L', hap', happ⟩ := app_step (P := Try.prog) (h2 := h ++ [⟨2, 1, [.string s, .int .i64 ((e2 + 1 : Nat) : Int), v1]⟩]) (L := L1) (E := [⟨2, 2, [.int .i64 (opOf c2), .int .i64 0]⟩]) (j := 0) (ix := h.length + (L1.length + 1))
        Ty.sl48 Ty.zc70 Ty.by70 (by simpa using hap1) rfl rfl (by simp; omega) (by omega) (by omega)
      simp only [List.append_assoc, List.cons_append, List.nil_append, List.length_append, List.length_cons, List.length_nil, Nat.zero_add, Nat.add_assoc, Nat.reduceAdd] at hbs hap' happ
      have hvc := vcs_flat happ.flat
      simp only [vcs] at hvc
      repeat' (first
        | ((with_reducible refine eq_go ?_); simp only [stp, ev, put_some, put_none, argT_list, List.getD_cons_zero, List.getD_cons_succ, reduceIte, Nat.reduceEqDiff, Option.map_some, Array.map_empty, List.map_toArray, List.map_cons, List.map_nil, List.append_toArray, Array.append_empty, Array.empty_append, List.nil_append, List.append_nil, and_self, if_true, decide_true, decide_false, Int.toNat_natCast, Int.natCast_nonneg, List.length_map, binV_add, binV_sub, binV_and, binV_shr, binV_shl, binV_str_eql, binV_str_neq, binV_mul, binV_eql, binV_neq, binV_lss, binV_leq, binV_gtr, binV_geq, unV_not, Bool.not_true, Bool.not_false, Bool.cond_true, Bool.cond_false, bld, fillL, vcs, splice, List.getElem?_toArray, List.getElem?_cons_zero, List.getElem?_cons_succ, true_and, Option.map_none, ldv, stv, vcs, conV, fldA, blt, lenV, List.size_toArray, List.length_cons, List.length_nil, Nat.zero_add, Array.getD_eq_getD_getElem?, List.getElem?_toArray, List.getElem?_cons_zero, List.getElem?_cons_succ, Option.getD_some, Option.isSome_some, Nat.add_assoc, List.toList_toArray, eq_self, Option.bind_some, List.append_assoc, List.cons_append, List.length_append, List.length_cons, List.length_nil, Nat.zero_add, Nat.add_zero, Nat.reduceAdd, Nat.reduceMul, Nat.reduceLeDiff, mset_some, mset_none, set_at, set_at0, killL_nil, killL_cons, getC_succ2, getC_succ3, getC_succ4, getC_succ5, getC_succ6, loadCs_succ2, loadCs_succ3, loadCs_succ4, loadCs_succ5, loadCs_succ6, setCs_succ2, setCs_succ3, setCs_succ4, setCs_succ5, setCs_succ6, getC_at, getC_at0, getC_zero, getC_succ, loadCs_at, loadCs_at0, loadCs_zero, loadCs_succ, setCs_at, setCs_at0, setCs_zero, setCs_succ, splice, List.set_cons_succ, List.set_cons_zero, List.getElem?_cons_zero, List.getElem?_cons_succ, List.drop_zero, List.drop_succ_cons, List.take_succ_cons, List.take_zero, newB, vcs, flat_int, flat_bool, flat_string, flat_slice, flat_pointer, flat_func, flat_nilFunc, List.all_cons, List.all_nil, Bool.and_true, Bool.and_self, Ty.ld3, Ty.sz3, Ty.zc3, Ty.by3, Ty.un3, Ty.ld5, Ty.sz5, Ty.zc5, Ty.by5, Ty.un5, Ty.ld9, Ty.sz9, Ty.st9, Ty.zc9, Ty.by9, Ty.un9, Ty.ld48, Ty.sz48, Ty.sl48, Ty.zc48, Ty.by48, Ty.un48, Ty.ld64, Ty.sz64, Ty.zc64, Ty.by64, Ty.un64, Ty.ld66, Ty.sz66, Ty.zc66, Ty.by66, Ty.un66, Ty.pl66, Ty.fl66_0, Ty.fl66_1, Ty.fl66_2, Ty.ld70, Ty.sz70, Ty.zc70, Ty.by70, Ty.un70, Ty.pl70, Ty.fl70_0, Ty.fl70_1, *]; rfl)
        | (with_reducible refine aw_then ?_) | (with_reducible refine aw_skip ?_) | (with_reducible refine aw_ret ?_) | (with_reducible refine aw_exit ?_) | (with_reducible refine aw_block ?_) | (with_reducible refine xr_reg (by decide +kernel) ?_)
        | (with_reducible refine xr_nil ?_) | (with_reducible refine k_norm ?_) | (with_reducible refine k_ret ?_) | (with_reducible refine k_exit ?_) | (with_reducible refine b_norm ?_) | (with_reducible refine b_ret ?_) | (with_reducible refine b_exit ?_) | (with_reducible refine b_past (by decide) ?_)
        | (with_reducible refine xd_nil ?_)
        | (refine xr_cl (f := ?_) (fs := ?_) (cs := ?_) (args := ?_) (K := ?_) ?_ ?_ ?_ ?_ ?_
           rotate_left 5
           · simp only [ev]; rfl
           first
           | (· with_reducible exact Ty.ok46
              rotate_left 2
              refine hk_tag 46 ?_
              rotate_right 2)
           | (· with_reducible exact Ty.ok54
              rotate_left 2
              refine hk_tag 54 ?_
              rotate_right 2)
           | (· with_reducible exact Ty.ok55
              rotate_left 2
              refine hk_tag 55 ?_
              rotate_right 2)
           )
        | (refine xr_gcl (f := ?_) (fs := ?_) (cs := ?_) (args := ?_) (K := ?_) (by exact rfl) ?_ ?_ ?_ ?_ ?_ ?_
           rotate_left 5
           · simp only [ev, put_some, reduceIte, Nat.reduceEqDiff, Bool.not_true, Bool.not_false, *]
           · simp only [ev]; rfl
           first
           | (· with_reducible exact Ty.ok46
              rotate_left 2
              refine hk_tag 46 ?_
              rotate_right 2)
           | (· with_reducible exact Ty.ok54
              rotate_left 2
              refine hk_tag 54 ?_
              rotate_right 2)
           | (· with_reducible exact Ty.ok55
              rotate_left 2
              refine hk_tag 55 ?_
              rotate_right 2)
           )
        | (refine xd_cl (f := ?_) (fs := ?_) (cs := ?_) (args := ?_) (v := ?_) ?_ ?_ ?_ ?_ ?_ ?_
           rotate_left 5
           · simp only [ev]; rfl
           · first | with_reducible exact Ty.ok46 | with_reducible exact Ty.ok54 | with_reducible exact Ty.ok55
           rotate_left 1
           · decide +kernel
           rotate_right 1)
        | (refine xd_gcl (f := ?_) (fs := ?_) (cs := ?_) (args := ?_) (v := ?_) (by exact rfl) ?_ ?_ ?_ ?_ ?_ ?_ ?_
           rotate_left 5
           · simp only [ev, put_some, reduceIte, Nat.reduceEqDiff, Bool.not_true, Bool.not_false, *]
           · simp only [ev]; rfl
           · first | with_reducible exact Ty.ok46 | with_reducible exact Ty.ok54 | with_reducible exact Ty.ok55
           rotate_left 1
           · decide +kernel
           rotate_right 1)
        | (refine xr_do (v := ?_) (h' := ?_) (by exact rfl) ?_ ?_; rotate_left 2)
        | (refine xr_st (v := ?_) (h' := ?_) (by exact rfl) ?_ ?_; rotate_left 2)
        | (refine xd_reg (ms := [0, 0, 2, 7, 15, 31]) Ty.mx (by decide +kernel) (by decide +kernel) ?_)
        | (refine xd_do (v := ?_) (by exact rfl) (by decide +kernel) ?_ ?_; rotate_left 1)
        | (refine xd_gdo (v := ?_) (by exact rfl) (by decide +kernel) (by exact rfl) ?_ ?_ ?_
           rotate_left 1
           · simp only [ev, put_some, reduceIte, Nat.reduceEqDiff, Bool.not_true, Bool.not_false, *])
        | (refine xd_goff (by exact rfl) ?_ ?_
           · simp only [ev, put_some, reduceIte, Nat.reduceEqDiff, Bool.not_true, Bool.not_false, *])
        | (refine xd_gund (by exact rfl) ?_ ?_
           · simp only [ev, put_some, reduceIte, Nat.reduceEqDiff, Bool.not_true, Bool.not_false, *])
        | (refine xd_gif (b := ?_) (by exact rfl) ?_ (fun hb => ?_) (fun hb => ?_)
           rotate_left 1
           · simp only [ev, put_some, reduceIte, Nat.reduceEqDiff, Bool.not_true, Bool.not_false, *]; rfl)
        | (refine xr_gdo (v := ?_) (h' := ?_) (by exact rfl) (by exact rfl) ?_ ?_ ?_
           rotate_left 2
           · simp only [ev, put_some, reduceIte, Nat.reduceEqDiff, Bool.not_true, Bool.not_false, *])
        | (refine xr_gst (v := ?_) (h' := ?_) (by exact rfl) (by exact rfl) ?_ ?_ ?_
           rotate_left 2
           · simp only [ev, put_some, reduceIte, Nat.reduceEqDiff, Bool.not_true, Bool.not_false, *])
        | (refine xr_goff (by exact rfl) ?_ ?_
           · simp only [ev, put_some, reduceIte, Nat.reduceEqDiff, Bool.not_true, Bool.not_false, *])
        | (refine xr_gsoff (by exact rfl) ?_ ?_
           · simp only [ev, put_some, reduceIte, Nat.reduceEqDiff, Bool.not_true, Bool.not_false, *])
        | (refine xr_gund (by exact rfl) ?_ ?_
           · simp only [ev, put_some, reduceIte, Nat.reduceEqDiff, Bool.not_true, Bool.not_false, *])
        | (refine xr_gsund (by exact rfl) ?_ ?_
           · simp only [ev, put_some, reduceIte, Nat.reduceEqDiff, Bool.not_true, Bool.not_false, *])
        | (refine xr_gif (b := ?_) (by exact rfl) ?_ (fun hb => ?_) (fun hb => ?_)
           rotate_left 1
           · simp only [ev, put_some, reduceIte, Nat.reduceEqDiff, Bool.not_true, Bool.not_false, *]; rfl)
        | (refine aw_ift (by decide) ?_ ?_
           · simp only [ev, put_some, reduceIte, Nat.reduceEqDiff, *])
        | (refine aw_iff (by decide) ?_ ?_
           · simp only [ev, put_some, reduceIte, Nat.reduceEqDiff, *])
        | (refine aw_if (b := ?_) (by decide) ?_ (fun hb => ?_) (fun hb => ?_)
           rotate_left 1
           · simp only [ev, put_some, reduceIte, Nat.reduceEqDiff, *]; rfl)
        | (refine r_ret (vs := ?_) ?_ ?_
           rotate_left 1
           · simp only [resV, ev, put_some, reduceIte, Nat.reduceEqDiff, Option.map_some, *]; rfl)
        | (with_reducible refine ih ?_ ?_ ?_ _ _ _ _ ?_ ?_ ?_ ?_ ?_ ?_
           rotate_left 4
           · assumption
           · first | omega | (simp only [List.length_nil]; omega)
           · first | omega | (simp only [List.length_nil]; omega)
           · assumption
           · first | omega | (rw [hok1 rfl, List.length_append]; omega)
           )
        | (with_reducible refine next_ok _ _ _ _ _ ?_ ?_ ?_
           · first | rfl | assumption | exact hap1.flat
           · first | omega | (simp only [List.length_nil]; omega)
           · first | omega | (simp only [List.length_nil]; omega)
           )
        | (with_reducible exact indexByte_ok _ _ _)
        | ((with_reducible refine HkTag.mk (n := 46) ?_); rintro _ _ ⟨v1, L1, acc1, rfl, rfl, hap1, hok1⟩)
        | ((with_reducible refine HkTag.mk (n := 54) ?_); rintro _ _ ⟨rfl, hh⟩; replace hh := hh.symm; subst hh)
        | ((with_reducible refine HkTag.mk (n := 55) ?_); rintro _ _ ⟨rfl, hh⟩; replace hh := hh.symm; subst hh)
        )
      refine ⟨v', L', acc1 ++ [⟨opOf c2, 0⟩], rfl, rfl, ?_, fun _ => ?_⟩
      · rw [brs_app, brs_one, List.length_append]; exact happ
      · rw [hacc2]; simp only [List.append_assoc]
    · rw [if_pos (by by_cases q : e2 = s.size; exact .inr (.inl q); exact .inr (.inr (by rw [nxtB, if_neg q] at h6; exact h6)))] at hr
      simp only [Prod.mk.injEq] at hr
      obtain ⟨rfl, rfl, rfl⟩ := hr
      clear h4 hnr
      refine acalls_fn Try.func46 rfl Try.ntmps46 (by simp) (by dsimp only [Try.f46]) ?_
      repeat' (first
        | ((with_reducible refine eq_go ?_); simp only [stp, ev, put_some, put_none, argT_list, List.getD_cons_zero, List.getD_cons_succ, reduceIte, Nat.reduceEqDiff, Option.map_some, Array.map_empty, List.map_toArray, List.map_cons, List.map_nil, List.append_toArray, Array.append_empty, Array.empty_append, List.nil_append, List.append_nil, and_self, if_true, decide_true, decide_false, Int.toNat_natCast, Int.natCast_nonneg, List.length_map, binV_add, binV_sub, binV_and, binV_shr, binV_shl, binV_str_eql, binV_str_neq, binV_mul, binV_eql, binV_neq, binV_lss, binV_leq, binV_gtr, binV_geq, unV_not, Bool.not_true, Bool.not_false, Bool.cond_true, Bool.cond_false, bld, fillL, vcs, splice, List.getElem?_toArray, List.getElem?_cons_zero, List.getElem?_cons_succ, true_and, Option.map_none, ldv, stv, vcs, conV, fldA, blt, lenV, List.size_toArray, List.length_cons, List.length_nil, Nat.zero_add, Array.getD_eq_getD_getElem?, List.getElem?_toArray, List.getElem?_cons_zero, List.getElem?_cons_succ, Option.getD_some, Option.isSome_some, Nat.add_assoc, List.toList_toArray, eq_self, Option.bind_some, List.append_assoc, List.cons_append, List.length_append, List.length_cons, List.length_nil, Nat.zero_add, Nat.add_zero, Nat.reduceAdd, Nat.reduceMul, Nat.reduceLeDiff, mset_some, mset_none, set_at, set_at0, killL_nil, killL_cons, getC_succ2, getC_succ3, getC_succ4, getC_succ5, getC_succ6, loadCs_succ2, loadCs_succ3, loadCs_succ4, loadCs_succ5, loadCs_succ6, setCs_succ2, setCs_succ3, setCs_succ4, setCs_succ5, setCs_succ6, getC_at, getC_at0, getC_zero, getC_succ, loadCs_at, loadCs_at0, loadCs_zero, loadCs_succ, setCs_at, setCs_at0, setCs_zero, setCs_succ, splice, List.set_cons_succ, List.set_cons_zero, List.getElem?_cons_zero, List.getElem?_cons_succ, List.drop_zero, List.drop_succ_cons, List.take_succ_cons, List.take_zero, newB, vcs, flat_int, flat_bool, flat_string, flat_slice, flat_pointer, flat_func, flat_nilFunc, List.all_cons, List.all_nil, Bool.and_true, Bool.and_self, Ty.ld3, Ty.sz3, Ty.zc3, Ty.by3, Ty.un3, Ty.ld5, Ty.sz5, Ty.zc5, Ty.by5, Ty.un5, Ty.ld9, Ty.sz9, Ty.st9, Ty.zc9, Ty.by9, Ty.un9, Ty.ld48, Ty.sz48, Ty.sl48, Ty.zc48, Ty.by48, Ty.un48, Ty.ld64, Ty.sz64, Ty.zc64, Ty.by64, Ty.un64, Ty.ld66, Ty.sz66, Ty.zc66, Ty.by66, Ty.un66, Ty.pl66, Ty.fl66_0, Ty.fl66_1, Ty.fl66_2, Ty.ld70, Ty.sz70, Ty.zc70, Ty.by70, Ty.un70, Ty.pl70, Ty.fl70_0, Ty.fl70_1, *]; rfl)
        | (with_reducible refine aw_then ?_) | (with_reducible refine aw_skip ?_) | (with_reducible refine aw_ret ?_) | (with_reducible refine aw_exit ?_) | (with_reducible refine aw_block ?_) | (with_reducible refine xr_reg (by decide +kernel) ?_)
        | (with_reducible refine xr_nil ?_) | (with_reducible refine k_norm ?_) | (with_reducible refine k_ret ?_) | (with_reducible refine k_exit ?_) | (with_reducible refine b_norm ?_) | (with_reducible refine b_ret ?_) | (with_reducible refine b_exit ?_) | (with_reducible refine b_past (by decide) ?_)
        | (with_reducible refine xd_nil ?_)
        | (refine xr_cl (f := ?_) (fs := ?_) (cs := ?_) (args := ?_) (K := ?_) ?_ ?_ ?_ ?_ ?_
           rotate_left 5
           · simp only [ev]; rfl
           first
           | (· with_reducible exact Ty.ok46
              rotate_left 2
              refine hk_tag 46 ?_
              rotate_right 2)
           | (· with_reducible exact Ty.ok54
              rotate_left 2
              refine hk_tag 54 ?_
              rotate_right 2)
           | (· with_reducible exact Ty.ok55
              rotate_left 2
              refine hk_tag 55 ?_
              rotate_right 2)
           )
        | (refine xr_gcl (f := ?_) (fs := ?_) (cs := ?_) (args := ?_) (K := ?_) (by exact rfl) ?_ ?_ ?_ ?_ ?_ ?_
           rotate_left 5
           · simp only [ev, put_some, reduceIte, Nat.reduceEqDiff, Bool.not_true, Bool.not_false, *]
           · simp only [ev]; rfl
           first
           | (· with_reducible exact Ty.ok46
              rotate_left 2
              refine hk_tag 46 ?_
              rotate_right 2)
           | (· with_reducible exact Ty.ok54
              rotate_left 2
              refine hk_tag 54 ?_
              rotate_right 2)
           | (· with_reducible exact Ty.ok55
              rotate_left 2
              refine hk_tag 55 ?_
              rotate_right 2)
           )
        | (refine xd_cl (f := ?_) (fs := ?_) (cs := ?_) (args := ?_) (v := ?_) ?_ ?_ ?_ ?_ ?_ ?_
           rotate_left 5
           · simp only [ev]; rfl
           · first | with_reducible exact Ty.ok46 | with_reducible exact Ty.ok54 | with_reducible exact Ty.ok55
           rotate_left 1
           · decide +kernel
           rotate_right 1)
        | (refine xd_gcl (f := ?_) (fs := ?_) (cs := ?_) (args := ?_) (v := ?_) (by exact rfl) ?_ ?_ ?_ ?_ ?_ ?_ ?_
           rotate_left 5
           · simp only [ev, put_some, reduceIte, Nat.reduceEqDiff, Bool.not_true, Bool.not_false, *]
           · simp only [ev]; rfl
           · first | with_reducible exact Ty.ok46 | with_reducible exact Ty.ok54 | with_reducible exact Ty.ok55
           rotate_left 1
           · decide +kernel
           rotate_right 1)
        | (refine xr_do (v := ?_) (h' := ?_) (by exact rfl) ?_ ?_; rotate_left 2)
        | (refine xr_st (v := ?_) (h' := ?_) (by exact rfl) ?_ ?_; rotate_left 2)
        | (refine xd_reg (ms := [0, 0, 2, 7, 15, 31]) Ty.mx (by decide +kernel) (by decide +kernel) ?_)
        | (refine xd_do (v := ?_) (by exact rfl) (by decide +kernel) ?_ ?_; rotate_left 1)
        | (refine xd_gdo (v := ?_) (by exact rfl) (by decide +kernel) (by exact rfl) ?_ ?_ ?_
           rotate_left 1
           · simp only [ev, put_some, reduceIte, Nat.reduceEqDiff, Bool.not_true, Bool.not_false, *])
        | (refine xd_goff (by exact rfl) ?_ ?_
           · simp only [ev, put_some, reduceIte, Nat.reduceEqDiff, Bool.not_true, Bool.not_false, *])
        | (refine xd_gund (by exact rfl) ?_ ?_
           · simp only [ev, put_some, reduceIte, Nat.reduceEqDiff, Bool.not_true, Bool.not_false, *])
        | (refine xd_gif (b := ?_) (by exact rfl) ?_ (fun hb => ?_) (fun hb => ?_)
           rotate_left 1
           · simp only [ev, put_some, reduceIte, Nat.reduceEqDiff, Bool.not_true, Bool.not_false, *]; rfl)
        | (refine xr_gdo (v := ?_) (h' := ?_) (by exact rfl) (by exact rfl) ?_ ?_ ?_
           rotate_left 2
           · simp only [ev, put_some, reduceIte, Nat.reduceEqDiff, Bool.not_true, Bool.not_false, *])
        | (refine xr_gst (v := ?_) (h' := ?_) (by exact rfl) (by exact rfl) ?_ ?_ ?_
           rotate_left 2
           · simp only [ev, put_some, reduceIte, Nat.reduceEqDiff, Bool.not_true, Bool.not_false, *])
        | (refine xr_goff (by exact rfl) ?_ ?_
           · simp only [ev, put_some, reduceIte, Nat.reduceEqDiff, Bool.not_true, Bool.not_false, *])
        | (refine xr_gsoff (by exact rfl) ?_ ?_
           · simp only [ev, put_some, reduceIte, Nat.reduceEqDiff, Bool.not_true, Bool.not_false, *])
        | (refine xr_gund (by exact rfl) ?_ ?_
           · simp only [ev, put_some, reduceIte, Nat.reduceEqDiff, Bool.not_true, Bool.not_false, *])
        | (refine xr_gsund (by exact rfl) ?_ ?_
           · simp only [ev, put_some, reduceIte, Nat.reduceEqDiff, Bool.not_true, Bool.not_false, *])
        | (refine xr_gif (b := ?_) (by exact rfl) ?_ (fun hb => ?_) (fun hb => ?_)
           rotate_left 1
           · simp only [ev, put_some, reduceIte, Nat.reduceEqDiff, Bool.not_true, Bool.not_false, *]; rfl)
        | (refine aw_ift (by decide) ?_ ?_
           · simp only [ev, put_some, reduceIte, Nat.reduceEqDiff, *])
        | (refine aw_iff (by decide) ?_ ?_
           · simp only [ev, put_some, reduceIte, Nat.reduceEqDiff, *])
        | (refine aw_if (b := ?_) (by decide) ?_ (fun hb => ?_) (fun hb => ?_)
           rotate_left 1
           · simp only [ev, put_some, reduceIte, Nat.reduceEqDiff, *]; rfl)
        | (refine r_ret (vs := ?_) ?_ ?_
           rotate_left 1
           · simp only [resV, ev, put_some, reduceIte, Nat.reduceEqDiff, Option.map_some, *]; rfl)
        | (with_reducible refine ih ?_ ?_ ?_ _ _ _ _ ?_ ?_ ?_ ?_ ?_ ?_
           rotate_left 4
           · assumption
           · first | omega | (simp only [List.length_nil]; omega)
           · first | omega | (simp only [List.length_nil]; omega)
           · assumption
           · first | omega | (rw [hok1 rfl, List.length_append]; omega)
           )
        | (with_reducible refine next_ok _ _ _ _ _ ?_ ?_ ?_
           · first | rfl | assumption | exact hap1.flat
           · first | omega | (simp only [List.length_nil]; omega)
           · first | omega | (simp only [List.length_nil]; omega)
           )
        | (with_reducible exact indexByte_ok _ _ _)
        | ((with_reducible refine HkTag.mk (n := 46) ?_); rintro _ _ ⟨v1, L1, acc1, rfl, rfl, hap1, hok1⟩)
        | ((with_reducible refine HkTag.mk (n := 54) ?_); rintro _ _ ⟨rfl, hh⟩; replace hh := hh.symm; subst hh)
        | ((with_reducible refine HkTag.mk (n := 55) ?_); rintro _ _ ⟨rfl, hh⟩; replace hh := hh.symm; subst hh)
        )
      exact ⟨v1, L1, acc1, rfl, rfl, hap1, fun q => by cases q⟩
end Go.Proofs.Ytkmenomglhddlaa.Am

