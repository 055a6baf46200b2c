/- The laws' helpers over slices of texts; the law ReadFrames. Conditions: none. -/
import Derived.Test.YtkmenomglhddlaaDoorD7
import Derived.Test.YtkmenomglhddlaaDoorD3
namespace Go.Proofs.YtkmenomglhddlaaDoor.Am
open Go Go.Proofs Go.RowKit
set_option linter.unusedVariables false
set_option linter.unusedSimpArgs false
set_option maxRecDepth 100000
set_option maxHeartbeats 8000000

/-- The text of a mark. -/
def mkT (n : Nat) : ByteArray := S (109 :: Lib.decDigits n)
theorem markText_ok (n : Nat) (h : Heap) (h1 : 1 ≤ n) (h2 : n ≤ 200000000) : ACalls Tryd.prog dE 60 #[.int .i64 (n : Nat)] h fun v h' => v = .string (mkT n) ∧ h' = h := by
  refine acalls_pure (.inl rfl) ?_
  have hn0 : ¬ (n : Int) ≤ 0 := by omega
  refine acalls_fn Tryd.func60 rfl Tryd.ntmps60 (by simp) (by dsimp only [Tryd.f60]) ?_
  repeat' (first
    | ((with_reducible refine eq_go ?_); simp only [stp, ev, put_some, put_none, argT_list, List.getD_cons_zero, List.getD_cons_succ, reduceIte, Nat.reduceEqDiff, Option.map_some, Array.map_empty, List.map_toArray, List.map_cons, List.map_nil, List.append_toArray, Array.append_empty, Array.empty_append, List.nil_append, List.append_nil, and_self, if_true, decide_true, decide_false, Int.toNat_natCast, Int.natCast_nonneg, List.length_map, binV_add, binV_sub, binV_and, binV_shr, binV_shl, binV_str_eql, binV_str_neq, binV_mul, binV_eql, binV_neq, binV_lss, binV_leq, binV_gtr, binV_geq, unV_not, Bool.not_true, Bool.not_false, Bool.cond_true, Bool.cond_false, conV, Nat.add_assoc, List.toList_toArray, eq_self, Option.bind_some, List.append_assoc, List.cons_append, List.length_append, List.length_cons, List.length_nil, Nat.zero_add, Nat.add_zero, Nat.reduceAdd, Nat.reduceMul, Nat.reduceLeDiff, mset_some, mset_none, set_at, set_at0, killL_nil, killL_cons, getC_succ2, getC_succ3, getC_succ4, getC_succ5, getC_succ6, loadCs_succ2, loadCs_succ3, loadCs_succ4, loadCs_succ5, loadCs_succ6, setCs_succ2, setCs_succ3, setCs_succ4, setCs_succ5, setCs_succ6, getC_at, getC_at0, getC_zero, getC_succ, loadCs_at, loadCs_at0, loadCs_zero, loadCs_succ, setCs_at, setCs_at0, setCs_zero, setCs_succ, splice, List.set_cons_succ, List.set_cons_zero, List.getElem?_cons_zero, List.getElem?_cons_succ, List.drop_zero, List.drop_succ_cons, List.take_succ_cons, List.take_zero, newB, vcs, flat_int, flat_bool, flat_string, flat_slice, flat_pointer, flat_func, flat_nilFunc, List.all_cons, List.all_nil, Bool.and_true, Bool.and_self, Ty.zc3, Ty.un3, Ty.zc5, Ty.un5, Ty.st9, Ty.zc9, Ty.un9, Ty.sl22, Ty.zc22, Ty.un22, *]; rfl)
    | (with_reducible refine aw_then ?_) | (with_reducible refine aw_skip ?_) | (with_reducible refine aw_ret ?_) | (with_reducible refine aw_exit ?_) | (with_reducible refine aw_block ?_) | (with_reducible refine xr_reg (by decide +kernel) ?_)
    | (with_reducible refine xr_nil ?_) | (with_reducible refine k_norm ?_) | (with_reducible refine k_ret ?_) | (with_reducible refine k_exit ?_) | (with_reducible refine b_norm ?_) | (with_reducible refine b_ret ?_) | (with_reducible refine b_exit ?_) | (with_reducible refine b_past (by decide) ?_)
    | (refine xr_do (v := ?_) (h' := ?_) (by exact rfl) ?_ ?_; rotate_left 2)
    | (refine xr_st (v := ?_) (h' := ?_) (by exact rfl) ?_ ?_; rotate_left 2)
    | (refine aw_ift (by decide) ?_ ?_
       · simp only [ev, put_some, reduceIte, Nat.reduceEqDiff, *])
    | (refine aw_iff (by decide) ?_ ?_
       · simp only [ev, put_some, reduceIte, Nat.reduceEqDiff, *])
    | (refine aw_if (b := ?_) (by decide) ?_ (fun hb => ?_) (fun hb => ?_)
       rotate_left 1
       · simp only [ev, put_some, reduceIte, Nat.reduceEqDiff, *]; rfl)
    | (refine r_ret (vs := ?_) ?_ ?_
       rotate_left 1
       · simp only [resV, ev, put_some, reduceIte, Nat.reduceEqDiff, Option.map_some, *]; rfl)
    )
  refine aw_loop (n := n) (fun k T h' => ∃ m r L, k = m ∧ m ≤ n ∧ h' = h ++ L ∧ T 0 = .int .i64 ((m : Nat) : Int) ∧ T 3 = .string (S r) ∧ (m ≠ 0 → Lib.decDigits m ++ r = Lib.decDigits n) ∧ (m = 0 → r = Lib.decDigits n))
    ⟨n, [], [], rfl, Nat.le_refl _, (List.append_nil h).symm, rfl, rfl, fun _ => List.append_nil _, fun q => by omega⟩ ?_
  rintro k T h' ⟨m, r, L, rfl, hm, rfl, h0, h3, e1, e2⟩
  have hdn := dec_len (n := n) 9 (by omega)
  have hrl : r.length ≤ 10 := by
    by_cases q : k = 0
    · rw [e2 q]; omega
    · have := congrArg List.length (e1 q)
      rw [List.length_append] at this; omega
  by_cases hp : 0 < k
  · have hgt : (0 : Int) < ((k : Nat) : Int) := by omega
    have hmo : ((k : Nat) : Int).tmod 10 = ((k % 10 : Nat) : Int) := by rw [Int.tmod_eq_emod_of_nonneg (by omega)]; omega
    have hdv : ((k : Nat) : Int).tdiv 10 = ((k / 10 : Nat) : Int) := by rw [Int.tdiv_eq_ediv_of_nonneg (by omega)]; omega
    have hw0 : IntKind.i64.wrap ((k / 10 : Nat) : Int) = ((k / 10 : Nat) : Int) := wrap_id (by omega)
    have hw1 : IntKind.i64.wrap (48 + ((k % 10 : Nat) : Int)) = ((48 + k % 10 : Nat) : Int) := by rw [wrap_id (by omega)]; omega
    have hw2 : IntKind.u8.wrap ((48 + k % 10 : Nat) : Int) = ((48 + k % 10 : Nat) : Int) := by simp [IntKind.wrap, IntKind.signed, IntKind.bits]; omega
    have hadd : ∀ xo yo, binV Tryd.prog .add 9 xo yo (.string (bstr [((48 + k % 10 : Nat) : Int)])) (.string (S r)) = some (.string (S (UInt8.ofNat (48 + k % 10) :: r))) := fun xo yo => by
      rw [bstr_one, binV_str_add _ _ _ _ _ (by rw [S_size, S_size]; simp; omega), S_app]; rfl
    have f1 := e1 (by omega)
    have f2 : (k / 10 ≠ 0 → Lib.decDigits (k / 10) ++ (UInt8.ofNat (48 + k % 10) :: r) = Lib.decDigits n) ∧ (k / 10 = 0 → UInt8.ofNat (48 + k % 10) :: r = Lib.decDigits n) := by
      constructor
      · intro q
        rw [dec_big (by omega)] at f1
        rw [← f1]; simp
      · intro q
        rw [dec_small (by omega)] at f1
        rw [← f1, show k % 10 = k by omega]; rfl
    clear e1 e2 f1
    repeat' (first
      | ((with_reducible refine eq_go ?_); simp only [stp, ev, put_some, put_none, argT_list, List.getD_cons_zero, List.getD_cons_succ, reduceIte, Nat.reduceEqDiff, Option.map_some, Array.map_empty, List.map_toArray, List.map_cons, List.map_nil, List.append_toArray, Array.append_empty, Array.empty_append, List.nil_append, List.append_nil, and_self, if_true, decide_true, decide_false, Int.toNat_natCast, Int.natCast_nonneg, List.length_map, binV_add, binV_sub, binV_and, binV_shr, binV_shl, binV_str_eql, binV_str_neq, binV_mul, binV_eql, binV_neq, binV_lss, binV_leq, binV_gtr, binV_geq, unV_not, Bool.not_true, Bool.not_false, Bool.cond_true, Bool.cond_false, conV, Nat.add_assoc, List.toList_toArray, eq_self, Option.bind_some, List.append_assoc, List.cons_append, List.length_append, List.length_cons, List.length_nil, Nat.zero_add, Nat.add_zero, Nat.reduceAdd, Nat.reduceMul, Nat.reduceLeDiff, mset_some, mset_none, set_at, set_at0, killL_nil, killL_cons, getC_succ2, getC_succ3, getC_succ4, getC_succ5, getC_succ6, loadCs_succ2, loadCs_succ3, loadCs_succ4, loadCs_succ5, loadCs_succ6, setCs_succ2, setCs_succ3, setCs_succ4, setCs_succ5, setCs_succ6, getC_at, getC_at0, getC_zero, getC_succ, loadCs_at, loadCs_at0, loadCs_zero, loadCs_succ, setCs_at, setCs_at0, setCs_zero, setCs_succ, splice, List.set_cons_succ, List.set_cons_zero, List.getElem?_cons_zero, List.getElem?_cons_succ, List.drop_zero, List.drop_succ_cons, List.take_succ_cons, List.take_zero, newB, vcs, flat_int, flat_bool, flat_string, flat_slice, flat_pointer, flat_func, flat_nilFunc, List.all_cons, List.all_nil, Bool.and_true, Bool.and_self, Ty.zc3, Ty.un3, Ty.zc5, Ty.un5, Ty.st9, Ty.zc9, Ty.un9, Ty.sl22, Ty.zc22, Ty.un22, *]; rfl)
      | (with_reducible refine aw_then ?_) | (with_reducible refine aw_skip ?_) | (with_reducible refine aw_ret ?_) | (with_reducible refine aw_exit ?_) | (with_reducible refine aw_block ?_) | (with_reducible refine xr_reg (by decide +kernel) ?_)
      | (with_reducible refine xr_nil ?_) | (with_reducible refine k_norm ?_) | (with_reducible refine k_ret ?_) | (with_reducible refine k_exit ?_) | (with_reducible refine b_norm ?_) | (with_reducible refine b_ret ?_) | (with_reducible refine b_exit ?_) | (with_reducible refine b_past (by decide) ?_)
      | (refine xr_do (v := ?_) (h' := ?_) (by exact rfl) ?_ ?_; rotate_left 2)
      | (refine xr_st (v := ?_) (h' := ?_) (by exact rfl) ?_ ?_; rotate_left 2)
      | (refine aw_ift (by decide) ?_ ?_
         · simp only [ev, put_some, reduceIte, Nat.reduceEqDiff, *])
      | (refine aw_iff (by decide) ?_ ?_
         · simp only [ev, put_some, reduceIte, Nat.reduceEqDiff, *])
      | (refine aw_if (b := ?_) (by decide) ?_ (fun hb => ?_) (fun hb => ?_)
         rotate_left 1
         · simp only [ev, put_some, reduceIte, Nat.reduceEqDiff, *]; rfl)
      | (refine r_ret (vs := ?_) ?_ ?_
         rotate_left 1
         · simp only [resV, ev, put_some, reduceIte, Nat.reduceEqDiff, Option.map_some, *]; rfl)
      )
    refine ⟨k / 10, by omega, k / 10, UInt8.ofNat (48 + k % 10) :: r, _, rfl, by omega, rfl, ?_, rfl, f2.1, f2.2⟩
    simp only [put_some, reduceIte, Nat.reduceEqDiff, hw0]
  · obtain rfl : k = 0 := by omega
    have hgt : ¬ (0 : Int) < ((0 : Nat) : Int) := by omega
    have hr := e2 rfl
    clear e1 e2
    have hadd : ∀ xo yo, binV Tryd.prog .add 9 xo yo (.string ⟨#[109]⟩) (.string (S r)) = some (.string (S (109 :: r))) := fun xo yo => by
      rw [show (⟨#[109]⟩ : ByteArray) = S [109] from rfl, binV_str_add _ _ _ _ _ (by rw [S_size, S_size]; simp; omega), S_app]; rfl
    have hmk : mkT n = S (109 :: r) := by rw [hr]; rfl
    rw [hmk]
    clear hr hmk
    repeat' (first
      | ((with_reducible refine eq_go ?_); simp only [stp, ev, put_some, put_none, argT_list, List.getD_cons_zero, List.getD_cons_succ, reduceIte, Nat.reduceEqDiff, Option.map_some, Array.map_empty, List.map_toArray, List.map_cons, List.map_nil, List.append_toArray, Array.append_empty, Array.empty_append, List.nil_append, List.append_nil, and_self, if_true, decide_true, decide_false, Int.toNat_natCast, Int.natCast_nonneg, List.length_map, binV_add, binV_sub, binV_and, binV_shr, binV_shl, binV_str_eql, binV_str_neq, binV_mul, binV_eql, binV_neq, binV_lss, binV_leq, binV_gtr, binV_geq, unV_not, Bool.not_true, Bool.not_false, Bool.cond_true, Bool.cond_false, conV, Nat.add_assoc, List.toList_toArray, eq_self, Option.bind_some, List.append_assoc, List.cons_append, List.length_append, List.length_cons, List.length_nil, Nat.zero_add, Nat.add_zero, Nat.reduceAdd, Nat.reduceMul, Nat.reduceLeDiff, mset_some, mset_none, set_at, set_at0, killL_nil, killL_cons, getC_succ2, getC_succ3, getC_succ4, getC_succ5, getC_succ6, loadCs_succ2, loadCs_succ3, loadCs_succ4, loadCs_succ5, loadCs_succ6, setCs_succ2, setCs_succ3, setCs_succ4, setCs_succ5, setCs_succ6, getC_at, getC_at0, getC_zero, getC_succ, loadCs_at, loadCs_at0, loadCs_zero, loadCs_succ, setCs_at, setCs_at0, setCs_zero, setCs_succ, splice, List.set_cons_succ, List.set_cons_zero, List.getElem?_cons_zero, List.getElem?_cons_succ, List.drop_zero, List.drop_succ_cons, List.take_succ_cons, List.take_zero, newB, vcs, flat_int, flat_bool, flat_string, flat_slice, flat_pointer, flat_func, flat_nilFunc, List.all_cons, List.all_nil, Bool.and_true, Bool.and_self, Ty.zc3, Ty.un3, Ty.zc5, Ty.un5, Ty.st9, Ty.zc9, Ty.un9, Ty.sl22, Ty.zc22, Ty.un22, *]; rfl)
      | (with_reducible refine aw_then ?_) | (with_reducible refine aw_skip ?_) | (with_reducible refine aw_ret ?_) | (with_reducible refine aw_exit ?_) | (with_reducible refine aw_block ?_) | (with_reducible refine xr_reg (by decide +kernel) ?_)
      | (with_reducible refine xr_nil ?_) | (with_reducible refine k_norm ?_) | (with_reducible refine k_ret ?_) | (with_reducible refine k_exit ?_) | (with_reducible refine b_norm ?_) | (with_reducible refine b_ret ?_) | (with_reducible refine b_exit ?_) | (with_reducible refine b_past (by decide) ?_)
      | (refine xr_do (v := ?_) (h' := ?_) (by exact rfl) ?_ ?_; rotate_left 2)
      | (refine xr_st (v := ?_) (h' := ?_) (by exact rfl) ?_ ?_; rotate_left 2)
      | (refine aw_ift (by decide) ?_ ?_
         · simp only [ev, put_some, reduceIte, Nat.reduceEqDiff, *])
      | (refine aw_iff (by decide) ?_ ?_
         · simp only [ev, put_some, reduceIte, Nat.reduceEqDiff, *])
      | (refine aw_if (b := ?_) (by decide) ?_ (fun hb => ?_) (fun hb => ?_)
         rotate_left 1
         · simp only [ev, put_some, reduceIte, Nat.reduceEqDiff, *]; rfl)
      | (refine r_ret (vs := ?_) ?_ ?_
         rotate_left 1
         · simp only [resV, ev, put_some, reduceIte, Nat.reduceEqDiff, Option.map_some, *]; rfl)
      )
    exact ⟨rfl, _, rfl⟩

def trs (l : List ByteArray) : List (List Value) := l.map fun s => [.string s]
theorem trs_flat : ∀ l : List ByteArray, (trs l).flatten = txs l
  | [] => rfl
  | t :: ts => by
      have := trs_flat ts
      simp only [trs, txs] at this
      simp [trs, txs, this]
theorem trs_len (l : List ByteArray) : ∀ r ∈ trs l, r.length = 1 := fun r hr => by
  obtain ⟨a, _, rfl⟩ := List.mem_map.1 hr
  rfl
def marksS (s n : Nat) : List Value := (List.range n).map fun (i : Nat) => .string (mkT (s + i))
theorem marksS_length (s n : Nat) : (marksS s n).length = n := by simp [marksS]
theorem marksS_get (s : Nat) {n i : Nat} (h : i < n) : (marksS s n)[i]? = some (.string (mkT (s + i))) := by
  simp [marksS, List.getElem?_range, h]
theorem Tx.slnil {h : Heap} : Sl h (.slice none 0 0) 1 (trs []) := Sl.nil h 1
theorem Tx.slk {h : Heap} {k c : Nat} {sp : Option Nat} {l : List ByteArray} {L : Heap} (hc : l.length ≤ c) (hb : L[k]? = some ⟨2, 1, txs l⟩) : Sl (h ++ L) (.slice (some ⟨h.length + k, 0, sp⟩) l.length c) 1 (trs l) := by
  have := Sl.of_block (h := h ++ L) (id := h.length + k) (k := 2) (c := c) (sp := sp) (rows := trs l) (by rw [get_at, trs_flat]; exact hb) (.inr rfl) (trs_len l) (by simpa [trs] using hc)
  simpa [trs] using this
theorem Tx.sl0 {h : Heap} {c : Nat} {sp : Option Nat} {l : List ByteArray} {L : Heap} (hc : l.length ≤ c) (hb : L[0]? = some ⟨2, 1, txs l⟩) : Sl (h ++ L) (.slice (some ⟨h.length, 0, sp⟩) l.length c) 1 (trs l) := Tx.slk (k := 0) hc hb
theorem Tx.flen (l : List ByteArray) : (txs l).length = l.length * 1 := txs_len l
theorem Tx.mlen (s n : Nat) : (marksS s n).length = n * 1 := by rw [marksS_length]; omega

theorem take_ne {α : Type} {l1 l2 : List α} {k : Nat} (h1 : k < l1.length) (h2 : k < l2.length) (h : l1[k] ≠ l2[k]) : l1 ≠ l2 := by
  rintro rfl; exact h rfl
theorem take_snoc {α : Type} {l1 l2 : List α} {k : Nat} (h1 : k < l1.length) (h2 : k < l2.length) (ht : l1.take k = l2.take k) (h : l1[k] = l2[k]) : l1.take (k + 1) = l2.take (k + 1) := by
  rw [← List.take_append_getElem h1, ← List.take_append_getElem h2, ht, h]

theorem eqStringS_ok (l1 l2 : List ByteArray) (v1 v2 : Value) (h : Heap) (hs1 : Sl h v1 1 (trs l1)) (hs2 : Sl h v2 1 (trs l2)) (hl1 : l1.length < 9223372036854775807) (hl2 : l2.length < 9223372036854775807) :
    ACalls Tryd.prog dE 25 #[v1, v2] h fun v h' => v = .bool (decide (l1 = l2)) ∧ h' = h := by
  obtain ⟨b1, c1, rfl, hc1, hrow1⟩ := hs1
  obtain ⟨b2, c2, rfl, hc2, hrow2⟩ := hs2
  simp only [trs, List.length_map] at hc1 hc2 ⊢
  refine acalls_fn Tryd.func25 rfl Tryd.ntmps25 (by simp) (by dsimp only [Tryd.f25]) ?_
  repeat' (first
    | ((with_reducible refine eq_go ?_); simp only [stp, ev, put_some, put_none, argT_list, List.getD_cons_zero, List.getD_cons_succ, reduceIte, Nat.reduceEqDiff, Option.map_some, Array.map_empty, List.map_toArray, List.map_cons, List.map_nil, List.append_toArray, Array.append_empty, Array.empty_append, List.nil_append, List.append_nil, and_self, if_true, decide_true, decide_false, Int.toNat_natCast, Int.natCast_nonneg, List.length_map, binV_add, binV_sub, binV_and, binV_shr, binV_shl, binV_str_eql, binV_str_neq, binV_mul, binV_eql, binV_neq, binV_lss, binV_leq, binV_gtr, binV_geq, unV_not, Bool.not_true, Bool.not_false, Bool.cond_true, Bool.cond_false, ldv, idxA, blt, lenV, List.size_toArray, List.length_cons, List.length_nil, Nat.zero_add, Array.getD_eq_getD_getElem?, List.getElem?_toArray, List.getElem?_cons_zero, List.getElem?_cons_succ, Option.getD_some, Option.isSome_some, Nat.add_assoc, List.toList_toArray, eq_self, Option.bind_some, List.append_assoc, List.cons_append, List.length_append, List.length_cons, List.length_nil, Nat.zero_add, Nat.add_zero, Nat.reduceAdd, Nat.reduceMul, Nat.reduceLeDiff, mset_some, mset_none, set_at, set_at0, killL_nil, killL_cons, getC_succ2, getC_succ3, getC_succ4, getC_succ5, getC_succ6, loadCs_succ2, loadCs_succ3, loadCs_succ4, loadCs_succ5, loadCs_succ6, setCs_succ2, setCs_succ3, setCs_succ4, setCs_succ5, setCs_succ6, getC_at, getC_at0, getC_zero, getC_succ, loadCs_at, loadCs_at0, loadCs_zero, loadCs_succ, setCs_at, setCs_at0, setCs_zero, setCs_succ, splice, List.set_cons_succ, List.set_cons_zero, List.getElem?_cons_zero, List.getElem?_cons_succ, List.drop_zero, List.drop_succ_cons, List.take_succ_cons, List.take_zero, newB, vcs, flat_int, flat_bool, flat_string, flat_slice, flat_pointer, flat_func, flat_nilFunc, List.all_cons, List.all_nil, Bool.and_true, Bool.and_self, Ty.ld3, Ty.sz3, Ty.zc3, Ty.by3, Ty.ld9, Ty.sz9, Ty.st9, Ty.zc9, Ty.by9, Ty.ld40, Ty.sz40, Ty.sl40, Ty.zc40, Ty.by40, *]; rfl)
    | (with_reducible refine aw_then ?_) | (with_reducible refine aw_skip ?_) | (with_reducible refine aw_ret ?_) | (with_reducible refine aw_exit ?_) | (with_reducible refine aw_block ?_) | (with_reducible refine xr_reg (by decide +kernel) ?_)
    | (with_reducible refine xr_nil ?_) | (with_reducible refine k_norm ?_) | (with_reducible refine k_ret ?_) | (with_reducible refine k_exit ?_) | (with_reducible refine b_norm ?_) | (with_reducible refine b_ret ?_) | (with_reducible refine b_exit ?_) | (with_reducible refine b_past (by decide) ?_)
    | (with_reducible refine xd_nil ?_)
    | (refine xr_do (v := ?_) (h' := ?_) (by exact rfl) ?_ ?_; rotate_left 2)
    | (refine xr_st (v := ?_) (h' := ?_) (by exact rfl) ?_ ?_; rotate_left 2)
    | (refine xd_reg (ms := [0, 0, 3, 7, 0, 0, 48, 112, 255]) Ty.mx (by decide +kernel) (by decide +kernel) ?_)
    | (refine xd_do (v := ?_) (by exact rfl) (by decide +kernel) ?_ ?_; rotate_left 1)
    | (refine aw_ift (by decide) ?_ ?_
       · simp only [ev, put_some, reduceIte, Nat.reduceEqDiff, *])
    | (refine aw_iff (by decide) ?_ ?_
       · simp only [ev, put_some, reduceIte, Nat.reduceEqDiff, *])
    | (refine aw_if (b := ?_) (by decide) ?_ (fun hb => ?_) (fun hb => ?_)
       rotate_left 1
       · simp only [ev, put_some, reduceIte, Nat.reduceEqDiff, *]; rfl)
    | (refine r_ret (vs := ?_) ?_ ?_
       rotate_left 1
       · simp only [resV, ev, put_some, reduceIte, Nat.reduceEqDiff, Option.map_some, *]; rfl)
    )
  · simp only [Bool.not_eq_true', decide_eq_false_iff_not] at hb
    refine ⟨?_, rfl⟩
    have : l1 ≠ l2 := fun q => hb (by rw [q])
    simp only [oneOf, this, decide_false]
  have hle : l1.length = l2.length := by
    simp only [Bool.not_eq_false', decide_eq_true_eq] at hb
    omega
  clear hb
  refine aw_for [0, 1] (fun k T h' => h' = h ∧ T 5 = .int .i64 k ∧ l1.take k = l2.take k) l1.length (k0 := 0) (Nat.zero_le _) ⟨rfl, rfl, rfl⟩ ?_
  rintro k T h' hk hR ⟨rfl, h11, hall⟩
  simp only [List.forall_mem_cons, List.not_mem_nil, false_implies, implies_true, and_true, stp, ev, put_some, put_none, argT_list, List.getD_cons_zero, List.getD_cons_succ, reduceIte, Nat.reduceEqDiff, Option.map_some, Array.map_empty, List.map_toArray, List.map_cons, List.map_nil, List.append_toArray, Array.append_empty, Array.empty_append, List.nil_append, List.append_nil, and_self, if_true, decide_true, decide_false, Int.toNat_natCast, Int.natCast_nonneg, List.length_map, binV_add, binV_sub, binV_and, binV_shr, binV_shl, binV_str_eql, binV_str_neq, binV_mul, binV_eql, binV_neq, binV_lss, binV_leq, binV_gtr, binV_geq, unV_not, Bool.not_true, Bool.not_false, Bool.cond_true, Bool.cond_false] at hR
  rcases Nat.lt_or_ge k l1.length with hkn | hkn
  · have h1 : (k : Int) < l1.length := by omega
    have h1' : (k : Int) < l2.length := by omega
    obtain ⟨a1, rfl, hl1⟩ := Sl.row hrow1 (k := k) (by simpa [trs] using hkn)
    obtain ⟨a2, rfl, hl2⟩ := Sl.row hrow2 (k := k) (by simpa [trs] using (by omega : k < l2.length))
    simp only [trs, List.getElem_map] at hl1 hl2
    have hg1 := getC_of_load hl1
    have hg2 := getC_of_load hl2
    repeat' (first
      | ((with_reducible refine eq_go ?_); simp only [stp, ev, put_some, put_none, argT_list, List.getD_cons_zero, List.getD_cons_succ, reduceIte, Nat.reduceEqDiff, Option.map_some, Array.map_empty, List.map_toArray, List.map_cons, List.map_nil, List.append_toArray, Array.append_empty, Array.empty_append, List.nil_append, List.append_nil, and_self, if_true, decide_true, decide_false, Int.toNat_natCast, Int.natCast_nonneg, List.length_map, binV_add, binV_sub, binV_and, binV_shr, binV_shl, binV_str_eql, binV_str_neq, binV_mul, binV_eql, binV_neq, binV_lss, binV_leq, binV_gtr, binV_geq, unV_not, Bool.not_true, Bool.not_false, Bool.cond_true, Bool.cond_false, ldv, idxA, blt, lenV, List.size_toArray, List.length_cons, List.length_nil, Nat.zero_add, Array.getD_eq_getD_getElem?, List.getElem?_toArray, List.getElem?_cons_zero, List.getElem?_cons_succ, Option.getD_some, Option.isSome_some, Nat.add_assoc, List.toList_toArray, eq_self, Option.bind_some, List.append_assoc, List.cons_append, List.length_append, List.length_cons, List.length_nil, Nat.zero_add, Nat.add_zero, Nat.reduceAdd, Nat.reduceMul, Nat.reduceLeDiff, mset_some, mset_none, set_at, set_at0, killL_nil, killL_cons, getC_succ2, getC_succ3, getC_succ4, getC_succ5, getC_succ6, loadCs_succ2, loadCs_succ3, loadCs_succ4, loadCs_succ5, loadCs_succ6, setCs_succ2, setCs_succ3, setCs_succ4, setCs_succ5, setCs_succ6, getC_at, getC_at0, getC_zero, getC_succ, loadCs_at, loadCs_at0, loadCs_zero, loadCs_succ, setCs_at, setCs_at0, setCs_zero, setCs_succ, splice, List.set_cons_succ, List.set_cons_zero, List.getElem?_cons_zero, List.getElem?_cons_succ, List.drop_zero, List.drop_succ_cons, List.take_succ_cons, List.take_zero, newB, vcs, flat_int, flat_bool, flat_string, flat_slice, flat_pointer, flat_func, flat_nilFunc, List.all_cons, List.all_nil, Bool.and_true, Bool.and_self, Ty.ld3, Ty.sz3, Ty.zc3, Ty.by3, Ty.ld9, Ty.sz9, Ty.st9, Ty.zc9, Ty.by9, Ty.ld40, Ty.sz40, Ty.sl40, Ty.zc40, Ty.by40, *]; rfl)
      | (with_reducible refine aw_then ?_) | (with_reducible refine aw_skip ?_) | (with_reducible refine aw_ret ?_) | (with_reducible refine aw_exit ?_) | (with_reducible refine aw_block ?_) | (with_reducible refine xr_reg (by decide +kernel) ?_)
      | (with_reducible refine xr_nil ?_) | (with_reducible refine k_norm ?_) | (with_reducible refine k_ret ?_) | (with_reducible refine k_exit ?_) | (with_reducible refine b_norm ?_) | (with_reducible refine b_ret ?_) | (with_reducible refine b_exit ?_) | (with_reducible refine b_past (by decide) ?_)
      | (with_reducible refine xd_nil ?_)
      | (refine xr_do (v := ?_) (h' := ?_) (by exact rfl) ?_ ?_; rotate_left 2)
      | (refine xr_st (v := ?_) (h' := ?_) (by exact rfl) ?_ ?_; rotate_left 2)
      | (refine xd_reg (ms := [0, 0, 3, 7, 0, 0, 48, 112, 255]) Ty.mx (by decide +kernel) (by decide +kernel) ?_)
      | (refine xd_do (v := ?_) (by exact rfl) (by decide +kernel) ?_ ?_; rotate_left 1)
      | (refine aw_ift (by decide) ?_ ?_
         · simp only [ev, put_some, reduceIte, Nat.reduceEqDiff, *])
      | (refine aw_iff (by decide) ?_ ?_
         · simp only [ev, put_some, reduceIte, Nat.reduceEqDiff, *])
      | (refine aw_if (b := ?_) (by decide) ?_ (fun hb => ?_) (fun hb => ?_)
         rotate_left 1
         · simp only [ev, put_some, reduceIte, Nat.reduceEqDiff, *]; rfl)
      | (refine r_ret (vs := ?_) ?_ ?_
         rotate_left 1
         · simp only [resV, ev, put_some, reduceIte, Nat.reduceEqDiff, Option.map_some, *]; rfl)
      )
    · refine ⟨?_, rfl⟩
      have hne := take_ne hkn (by omega : k < l2.length) (by simpa using hb)
      simp only [oneOf, hne, decide_false]
    refine ⟨by first | assumption | omega, ?_, ?_⟩
    · simp only [List.forall_mem_cons, List.not_mem_nil, false_implies, implies_true, and_true, and_self, stp, ev, put_some, put_none, argT_list, List.getD_cons_zero, List.getD_cons_succ, reduceIte, Nat.reduceEqDiff, Option.map_some, Array.map_empty, List.map_toArray, List.map_cons, List.map_nil, List.append_toArray, Array.append_empty, Array.empty_append, List.nil_append, List.append_nil, and_self, if_true, decide_true, decide_false, Int.toNat_natCast, Int.natCast_nonneg, List.length_map, binV_add, binV_sub, binV_and, binV_shr, binV_shl, binV_str_eql, binV_str_neq, binV_mul, binV_eql, binV_neq, binV_lss, binV_leq, binV_gtr, binV_geq, unV_not, Bool.not_true, Bool.not_false, Bool.cond_true, Bool.cond_false, *]
    refine ⟨rfl, ?_, take_snoc hkn (by omega : k < l2.length) hall (by simpa using hb)⟩
    simp only [put_some, reduceIte, Nat.reduceEqDiff]
    rw [wrap_id (by omega)]; rfl
  · have h1 : ¬ (k : Int) < l1.length := by omega
    have h1' : ¬ (k : Int) < l2.length := by omega
    repeat' (first
      | ((with_reducible refine eq_go ?_); simp only [stp, ev, put_some, put_none, argT_list, List.getD_cons_zero, List.getD_cons_succ, reduceIte, Nat.reduceEqDiff, Option.map_some, Array.map_empty, List.map_toArray, List.map_cons, List.map_nil, List.append_toArray, Array.append_empty, Array.empty_append, List.nil_append, List.append_nil, and_self, if_true, decide_true, decide_false, Int.toNat_natCast, Int.natCast_nonneg, List.length_map, binV_add, binV_sub, binV_and, binV_shr, binV_shl, binV_str_eql, binV_str_neq, binV_mul, binV_eql, binV_neq, binV_lss, binV_leq, binV_gtr, binV_geq, unV_not, Bool.not_true, Bool.not_false, Bool.cond_true, Bool.cond_false, ldv, idxA, blt, lenV, List.size_toArray, List.length_cons, List.length_nil, Nat.zero_add, Array.getD_eq_getD_getElem?, List.getElem?_toArray, List.getElem?_cons_zero, List.getElem?_cons_succ, Option.getD_some, Option.isSome_some, Nat.add_assoc, List.toList_toArray, eq_self, Option.bind_some, List.append_assoc, List.cons_append, List.length_append, List.length_cons, List.length_nil, Nat.zero_add, Nat.add_zero, Nat.reduceAdd, Nat.reduceMul, Nat.reduceLeDiff, mset_some, mset_none, set_at, set_at0, killL_nil, killL_cons, getC_succ2, getC_succ3, getC_succ4, getC_succ5, getC_succ6, loadCs_succ2, loadCs_succ3, loadCs_succ4, loadCs_succ5, loadCs_succ6, setCs_succ2, setCs_succ3, setCs_succ4, setCs_succ5, setCs_succ6, getC_at, getC_at0, getC_zero, getC_succ, loadCs_at, loadCs_at0, loadCs_zero, loadCs_succ, setCs_at, setCs_at0, setCs_zero, setCs_succ, splice, List.set_cons_succ, List.set_cons_zero, List.getElem?_cons_zero, List.getElem?_cons_succ, List.drop_zero, List.drop_succ_cons, List.take_succ_cons, List.take_zero, newB, vcs, flat_int, flat_bool, flat_string, flat_slice, flat_pointer, flat_func, flat_nilFunc, List.all_cons, List.all_nil, Bool.and_true, Bool.and_self, Ty.ld3, Ty.sz3, Ty.zc3, Ty.by3, Ty.ld9, Ty.sz9, Ty.st9, Ty.zc9, Ty.by9, Ty.ld40, Ty.sz40, Ty.sl40, Ty.zc40, Ty.by40, *]; rfl)
      | (with_reducible refine aw_then ?_) | (with_reducible refine aw_skip ?_) | (with_reducible refine aw_ret ?_) | (with_reducible refine aw_exit ?_) | (with_reducible refine aw_block ?_) | (with_reducible refine xr_reg (by decide +kernel) ?_)
      | (with_reducible refine xr_nil ?_) | (with_reducible refine k_norm ?_) | (with_reducible refine k_ret ?_) | (with_reducible refine k_exit ?_) | (with_reducible refine b_norm ?_) | (with_reducible refine b_ret ?_) | (with_reducible refine b_exit ?_) | (with_reducible refine b_past (by decide) ?_)
      | (with_reducible refine xd_nil ?_)
      | (refine xr_do (v := ?_) (h' := ?_) (by exact rfl) ?_ ?_; rotate_left 2)
      | (refine xr_st (v := ?_) (h' := ?_) (by exact rfl) ?_ ?_; rotate_left 2)
      | (refine xd_reg (ms := [0, 0, 3, 7, 0, 0, 48, 112, 255]) Ty.mx (by decide +kernel) (by decide +kernel) ?_)
      | (refine xd_do (v := ?_) (by exact rfl) (by decide +kernel) ?_ ?_; rotate_left 1)
      | (refine aw_ift (by decide) ?_ ?_
         · simp only [ev, put_some, reduceIte, Nat.reduceEqDiff, *])
      | (refine aw_iff (by decide) ?_ ?_
         · simp only [ev, put_some, reduceIte, Nat.reduceEqDiff, *])
      | (refine aw_if (b := ?_) (by decide) ?_ (fun hb => ?_) (fun hb => ?_)
         rotate_left 1
         · simp only [ev, put_some, reduceIte, Nat.reduceEqDiff, *]; rfl)
      | (refine r_ret (vs := ?_) ?_ ?_
         rotate_left 1
         · simp only [resV, ev, put_some, reduceIte, Nat.reduceEqDiff, Option.map_some, *]; rfl)
      )
    refine ⟨?_, rfl⟩
    rw [List.take_of_length_le hkn, List.take_of_length_le (by omega)] at hall
    simp only [oneOf, hall, decide_true]


theorem markStringS_ok (n : Nat) (cs : List Value) (s : Nat) (v : Value) (h : Heap) (ho : Own h v 1 cs n) (hn : n ≤ 1048576) (hs : 1 ≤ s ∧ s ≤ 100000000) :
    ACalls Tryd.prog dE 26 #[v, .int .i64 (s : Nat)] h fun v' h' => v' = .int .i64 ((s + n : Nat) : Int) ∧ h' = mset h v ⟨2, 1, marksS s n⟩ := by
  rcases ho with ⟨rfl, rfl, rfl⟩ | ⟨id, sp, c, rfl, hc, hl, hb⟩
  · simp only [mset_none]
    refine acalls_fn Tryd.func26 rfl Tryd.ntmps26 (by simp) (by dsimp only [Tryd.f26]) ?_
    repeat' (first
      | ((with_reducible refine eq_go ?_); simp only [stp, ev, put_some, put_none, argT_list, List.getD_cons_zero, List.getD_cons_succ, reduceIte, Nat.reduceEqDiff, Option.map_some, Array.map_empty, List.map_toArray, List.map_cons, List.map_nil, List.append_toArray, Array.append_empty, Array.empty_append, List.nil_append, List.append_nil, and_self, if_true, decide_true, decide_false, Int.toNat_natCast, Int.natCast_nonneg, List.length_map, binV_add, binV_sub, binV_and, binV_shr, binV_shl, binV_str_eql, binV_str_neq, binV_mul, binV_eql, binV_neq, binV_lss, binV_leq, binV_gtr, binV_geq, unV_not, Bool.not_true, Bool.not_false, Bool.cond_true, Bool.cond_false, stv, vcs, idxA, blt, lenV, List.size_toArray, List.length_cons, List.length_nil, Nat.zero_add, Array.getD_eq_getD_getElem?, List.getElem?_toArray, List.getElem?_cons_zero, List.getElem?_cons_succ, Option.getD_some, Option.isSome_some, Nat.add_assoc, List.toList_toArray, eq_self, Option.bind_some, List.append_assoc, List.cons_append, List.length_append, List.length_cons, List.length_nil, Nat.zero_add, Nat.add_zero, Nat.reduceAdd, Nat.reduceMul, Nat.reduceLeDiff, mset_some, mset_none, set_at, set_at0, killL_nil, killL_cons, getC_succ2, getC_succ3, getC_succ4, getC_succ5, getC_succ6, loadCs_succ2, loadCs_succ3, loadCs_succ4, loadCs_succ5, loadCs_succ6, setCs_succ2, setCs_succ3, setCs_succ4, setCs_succ5, setCs_succ6, getC_at, getC_at0, getC_zero, getC_succ, loadCs_at, loadCs_at0, loadCs_zero, loadCs_succ, setCs_at, setCs_at0, setCs_zero, setCs_succ, splice, List.set_cons_succ, List.set_cons_zero, List.getElem?_cons_zero, List.getElem?_cons_succ, List.drop_zero, List.drop_succ_cons, List.take_succ_cons, List.take_zero, newB, vcs, flat_int, flat_bool, flat_string, flat_slice, flat_pointer, flat_func, flat_nilFunc, List.all_cons, List.all_nil, Bool.and_true, Bool.and_self, Ty.sz3, Ty.zc3, Ty.by3, Ty.sz9, Ty.st9, Ty.zc9, Ty.by9, Ty.sz40, Ty.sl40, Ty.zc40, Ty.by40, *]; rfl)
      | (with_reducible refine aw_then ?_) | (with_reducible refine aw_skip ?_) | (with_reducible refine aw_ret ?_) | (with_reducible refine aw_exit ?_) | (with_reducible refine aw_block ?_) | (with_reducible refine xr_reg (by decide +kernel) ?_)
      | (with_reducible refine xr_nil ?_) | (with_reducible refine k_norm ?_) | (with_reducible refine k_ret ?_) | (with_reducible refine k_exit ?_) | (with_reducible refine b_norm ?_) | (with_reducible refine b_ret ?_) | (with_reducible refine b_exit ?_) | (with_reducible refine b_past (by decide) ?_)
      | (refine xr_cl (f := ?_) (fs := ?_) (cs := ?_) (args := ?_) (K := ?_) ?_ ?_ ?_ ?_ ?_
         rotate_left 5
         · simp only [ev]; rfl
         first
         | (· with_reducible exact Ty.ok60
            rotate_left 2
            refine hk_tag 60 ?_
            rotate_right 2)
         )
      | (refine xr_do (v := ?_) (h' := ?_) (by exact rfl) ?_ ?_; rotate_left 2)
      | (refine xr_st (v := ?_) (h' := ?_) (by exact rfl) ?_ ?_; rotate_left 2)
      | (refine aw_ift (by decide) ?_ ?_
         · simp only [ev, put_some, reduceIte, Nat.reduceEqDiff, *])
      | (refine aw_iff (by decide) ?_ ?_
         · simp only [ev, put_some, reduceIte, Nat.reduceEqDiff, *])
      | (refine aw_if (b := ?_) (by decide) ?_ (fun hb => ?_) (fun hb => ?_)
         rotate_left 1
         · simp only [ev, put_some, reduceIte, Nat.reduceEqDiff, *]; rfl)
      | (refine r_ret (vs := ?_) ?_ ?_
         rotate_left 1
         · simp only [resV, ev, put_some, reduceIte, Nat.reduceEqDiff, Option.map_some, *]; rfl)
      | (with_reducible refine markText_ok _ _ ?_ ?_
         · first | omega | (simp only [List.length_nil]; omega)
         · first | omega | (simp only [List.length_nil]; omega)
         )
      | ((with_reducible refine HkTag.mk (n := 60) ?_); rintro _ _ ⟨rfl, hh⟩; replace hh := hh.symm; subst hh)
      )
    refine aw_for [0, 1] (fun k T h' => h' = h ∧ T 5 = .int .i64 0) 0 (k0 := 0) (Nat.zero_le _) ⟨rfl, rfl⟩ ?_
    rintro k T h' hk hR ⟨rfl, h11⟩
    have h1 : decide ((0 : Int) < ((0 : Nat) : Int)) = false := rfl
    simp only [List.forall_mem_cons, List.not_mem_nil, false_implies, implies_true, and_true, stp, ev, put_some, put_none, argT_list, List.getD_cons_zero, List.getD_cons_succ, reduceIte, Nat.reduceEqDiff, Option.map_some, Array.map_empty, List.map_toArray, List.map_cons, List.map_nil, List.append_toArray, Array.append_empty, Array.empty_append, List.nil_append, List.append_nil, and_self, if_true, decide_true, decide_false, Int.toNat_natCast, Int.natCast_nonneg, List.length_map, binV_add, binV_sub, binV_and, binV_shr, binV_shl, binV_str_eql, binV_str_neq, binV_mul, binV_eql, binV_neq, binV_lss, binV_leq, binV_gtr, binV_geq, unV_not, Bool.not_true, Bool.not_false, Bool.cond_true, Bool.cond_false] at hR
    repeat' (first
      | ((with_reducible refine eq_go ?_); simp only [stp, ev, put_some, put_none, argT_list, List.getD_cons_zero, List.getD_cons_succ, reduceIte, Nat.reduceEqDiff, Option.map_some, Array.map_empty, List.map_toArray, List.map_cons, List.map_nil, List.append_toArray, Array.append_empty, Array.empty_append, List.nil_append, List.append_nil, and_self, if_true, decide_true, decide_false, Int.toNat_natCast, Int.natCast_nonneg, List.length_map, binV_add, binV_sub, binV_and, binV_shr, binV_shl, binV_str_eql, binV_str_neq, binV_mul, binV_eql, binV_neq, binV_lss, binV_leq, binV_gtr, binV_geq, unV_not, Bool.not_true, Bool.not_false, Bool.cond_true, Bool.cond_false, stv, vcs, idxA, blt, lenV, List.size_toArray, List.length_cons, List.length_nil, Nat.zero_add, Array.getD_eq_getD_getElem?, List.getElem?_toArray, List.getElem?_cons_zero, List.getElem?_cons_succ, Option.getD_some, Option.isSome_some, Nat.add_assoc, List.toList_toArray, eq_self, Option.bind_some, List.append_assoc, List.cons_append, List.length_append, List.length_cons, List.length_nil, Nat.zero_add, Nat.add_zero, Nat.reduceAdd, Nat.reduceMul, Nat.reduceLeDiff, mset_some, mset_none, set_at, set_at0, killL_nil, killL_cons, getC_succ2, getC_succ3, getC_succ4, getC_succ5, getC_succ6, loadCs_succ2, loadCs_succ3, loadCs_succ4, loadCs_succ5, loadCs_succ6, setCs_succ2, setCs_succ3, setCs_succ4, setCs_succ5, setCs_succ6, getC_at, getC_at0, getC_zero, getC_succ, loadCs_at, loadCs_at0, loadCs_zero, loadCs_succ, setCs_at, setCs_at0, setCs_zero, setCs_succ, splice, List.set_cons_succ, List.set_cons_zero, List.getElem?_cons_zero, List.getElem?_cons_succ, List.drop_zero, List.drop_succ_cons, List.take_succ_cons, List.take_zero, newB, vcs, flat_int, flat_bool, flat_string, flat_slice, flat_pointer, flat_func, flat_nilFunc, List.all_cons, List.all_nil, Bool.and_true, Bool.and_self, Ty.sz3, Ty.zc3, Ty.by3, Ty.sz9, Ty.st9, Ty.zc9, Ty.by9, Ty.sz40, Ty.sl40, Ty.zc40, Ty.by40, *]; rfl)
      | (with_reducible refine aw_then ?_) | (with_reducible refine aw_skip ?_) | (with_reducible refine aw_ret ?_) | (with_reducible refine aw_exit ?_) | (with_reducible refine aw_block ?_) | (with_reducible refine xr_reg (by decide +kernel) ?_)
      | (with_reducible refine xr_nil ?_) | (with_reducible refine k_norm ?_) | (with_reducible refine k_ret ?_) | (with_reducible refine k_exit ?_) | (with_reducible refine b_norm ?_) | (with_reducible refine b_ret ?_) | (with_reducible refine b_exit ?_) | (with_reducible refine b_past (by decide) ?_)
      | (refine xr_cl (f := ?_) (fs := ?_) (cs := ?_) (args := ?_) (K := ?_) ?_ ?_ ?_ ?_ ?_
         rotate_left 5
         · simp only [ev]; rfl
         first
         | (· with_reducible exact Ty.ok60
            rotate_left 2
            refine hk_tag 60 ?_
            rotate_right 2)
         )
      | (refine xr_do (v := ?_) (h' := ?_) (by exact rfl) ?_ ?_; rotate_left 2)
      | (refine xr_st (v := ?_) (h' := ?_) (by exact rfl) ?_ ?_; rotate_left 2)
      | (refine aw_ift (by decide) ?_ ?_
         · simp only [ev, put_some, reduceIte, Nat.reduceEqDiff, *])
      | (refine aw_iff (by decide) ?_ ?_
         · simp only [ev, put_some, reduceIte, Nat.reduceEqDiff, *])
      | (refine aw_if (b := ?_) (by decide) ?_ (fun hb => ?_) (fun hb => ?_)
         rotate_left 1
         · simp only [ev, put_some, reduceIte, Nat.reduceEqDiff, *]; rfl)
      | (refine r_ret (vs := ?_) ?_ ?_
         rotate_left 1
         · simp only [resV, ev, put_some, reduceIte, Nat.reduceEqDiff, Option.map_some, *]; rfl)
      | (with_reducible refine markText_ok _ _ ?_ ?_
         · first | omega | (simp only [List.length_nil]; omega)
         · first | omega | (simp only [List.length_nil]; omega)
         )
      | ((with_reducible refine HkTag.mk (n := 60) ?_); rintro _ _ ⟨rfl, hh⟩; replace hh := hh.symm; subst hh)
      )
    exact ⟨by simp [oneOf], rfl⟩
  simp only [mset_some]
  have hlm : cs.length = (marksS s n).length := by rw [marksS_length, hl]; omega
  refine acalls_fn Tryd.func26 rfl Tryd.ntmps26 (by simp) (by dsimp only [Tryd.f26]) ?_
  repeat' (first
    | ((with_reducible refine eq_go ?_); simp only [stp, ev, put_some, put_none, argT_list, List.getD_cons_zero, List.getD_cons_succ, reduceIte, Nat.reduceEqDiff, Option.map_some, Array.map_empty, List.map_toArray, List.map_cons, List.map_nil, List.append_toArray, Array.append_empty, Array.empty_append, List.nil_append, List.append_nil, and_self, if_true, decide_true, decide_false, Int.toNat_natCast, Int.natCast_nonneg, List.length_map, binV_add, binV_sub, binV_and, binV_shr, binV_shl, binV_str_eql, binV_str_neq, binV_mul, binV_eql, binV_neq, binV_lss, binV_leq, binV_gtr, binV_geq, unV_not, Bool.not_true, Bool.not_false, Bool.cond_true, Bool.cond_false, stv, vcs, idxA, blt, lenV, List.size_toArray, List.length_cons, List.length_nil, Nat.zero_add, Array.getD_eq_getD_getElem?, List.getElem?_toArray, List.getElem?_cons_zero, List.getElem?_cons_succ, Option.getD_some, Option.isSome_some, Nat.add_assoc, List.toList_toArray, eq_self, Option.bind_some, List.append_assoc, List.cons_append, List.length_append, List.length_cons, List.length_nil, Nat.zero_add, Nat.add_zero, Nat.reduceAdd, Nat.reduceMul, Nat.reduceLeDiff, mset_some, mset_none, set_at, set_at0, killL_nil, killL_cons, getC_succ2, getC_succ3, getC_succ4, getC_succ5, getC_succ6, loadCs_succ2, loadCs_succ3, loadCs_succ4, loadCs_succ5, loadCs_succ6, setCs_succ2, setCs_succ3, setCs_succ4, setCs_succ5, setCs_succ6, getC_at, getC_at0, getC_zero, getC_succ, loadCs_at, loadCs_at0, loadCs_zero, loadCs_succ, setCs_at, setCs_at0, setCs_zero, setCs_succ, splice, List.set_cons_succ, List.set_cons_zero, List.getElem?_cons_zero, List.getElem?_cons_succ, List.drop_zero, List.drop_succ_cons, List.take_succ_cons, List.take_zero, newB, vcs, flat_int, flat_bool, flat_string, flat_slice, flat_pointer, flat_func, flat_nilFunc, List.all_cons, List.all_nil, Bool.and_true, Bool.and_self, Ty.sz3, Ty.zc3, Ty.by3, Ty.sz9, Ty.st9, Ty.zc9, Ty.by9, Ty.sz40, Ty.sl40, Ty.zc40, Ty.by40, *]; rfl)
    | (with_reducible refine aw_then ?_) | (with_reducible refine aw_skip ?_) | (with_reducible refine aw_ret ?_) | (with_reducible refine aw_exit ?_) | (with_reducible refine aw_block ?_) | (with_reducible refine xr_reg (by decide +kernel) ?_)
    | (with_reducible refine xr_nil ?_) | (with_reducible refine k_norm ?_) | (with_reducible refine k_ret ?_) | (with_reducible refine k_exit ?_) | (with_reducible refine b_norm ?_) | (with_reducible refine b_ret ?_) | (with_reducible refine b_exit ?_) | (with_reducible refine b_past (by decide) ?_)
    | (refine xr_cl (f := ?_) (fs := ?_) (cs := ?_) (args := ?_) (K := ?_) ?_ ?_ ?_ ?_ ?_
       rotate_left 5
       · simp only [ev]; rfl
       first
       | (· with_reducible exact Ty.ok60
          rotate_left 2
          refine hk_tag 60 ?_
          rotate_right 2)
       )
    | (refine xr_do (v := ?_) (h' := ?_) (by exact rfl) ?_ ?_; rotate_left 2)
    | (refine xr_st (v := ?_) (h' := ?_) (by exact rfl) ?_ ?_; rotate_left 2)
    | (refine aw_ift (by decide) ?_ ?_
       · simp only [ev, put_some, reduceIte, Nat.reduceEqDiff, *])
    | (refine aw_iff (by decide) ?_ ?_
       · simp only [ev, put_some, reduceIte, Nat.reduceEqDiff, *])
    | (refine aw_if (b := ?_) (by decide) ?_ (fun hb => ?_) (fun hb => ?_)
       rotate_left 1
       · simp only [ev, put_some, reduceIte, Nat.reduceEqDiff, *]; rfl)
    | (refine r_ret (vs := ?_) ?_ ?_
       rotate_left 1
       · simp only [resV, ev, put_some, reduceIte, Nat.reduceEqDiff, Option.map_some, *]; rfl)
    | (with_reducible refine markText_ok _ _ ?_ ?_
       · first | omega | (simp only [List.length_nil]; omega)
       · first | omega | (simp only [List.length_nil]; omega)
       )
    | ((with_reducible refine HkTag.mk (n := 60) ?_); rintro _ _ ⟨rfl, hh⟩; replace hh := hh.symm; subst hh)
    )
  refine aw_for [0] (fun k T h' => h' = h.set id ⟨2, 1, mixC cs (marksS s n) k⟩ ∧ T 5 = .int .i64 k ∧ T 1 = .int .i64 ((s + k : Nat) : Int)) n (k0 := 0) (Nat.zero_le _) ⟨?_, rfl, rfl⟩ ?_
  · rw [mixC_zero, set_self hb]
  rintro k T h' hk hR ⟨rfl, h11, h12⟩
  simp only [List.forall_mem_cons, List.not_mem_nil, false_implies, implies_true, and_true, stp, ev, put_some, put_none, argT_list, List.getD_cons_zero, List.getD_cons_succ, reduceIte, Nat.reduceEqDiff, Option.map_some, Array.map_empty, List.map_toArray, List.map_cons, List.map_nil, List.append_toArray, Array.append_empty, Array.empty_append, List.nil_append, List.append_nil, and_self, if_true, decide_true, decide_false, Int.toNat_natCast, Int.natCast_nonneg, List.length_map, binV_add, binV_sub, binV_and, binV_shr, binV_shl, binV_str_eql, binV_str_neq, binV_mul, binV_eql, binV_neq, binV_lss, binV_leq, binV_gtr, binV_geq, unV_not, Bool.not_true, Bool.not_false, Bool.cond_true, Bool.cond_false] at hR
  rcases Nat.lt_or_ge k n with hkn | hkn
  · have h1 : (k : Int) < n := by omega
    have hset0 : setCs (h.set id ⟨2, 1, mixC cs (marksS s n) k⟩) id k [.string (mkT (s + k))] = some (h.set id ⟨2, 1, mixC cs (marksS s n) (k + 1)⟩) := set_mix hb hlm (marksS_get s (by omega))
    have hw0 : IntKind.i64.wrap (((s + k : Nat) : Int) + 1) = ((s + (k + 1) : Nat) : Int) := by rw [wrap_id (by omega)]; omega
    have hwk : IntKind.i64.wrap ((k : Int) + 1) = ((k + 1 : Nat) : Int) := by rw [wrap_id (by omega)]; omega
    repeat' (first
      | ((with_reducible refine eq_go ?_); simp only [stp, ev, put_some, put_none, argT_list, List.getD_cons_zero, List.getD_cons_succ, reduceIte, Nat.reduceEqDiff, Option.map_some, Array.map_empty, List.map_toArray, List.map_cons, List.map_nil, List.append_toArray, Array.append_empty, Array.empty_append, List.nil_append, List.append_nil, and_self, if_true, decide_true, decide_false, Int.toNat_natCast, Int.natCast_nonneg, List.length_map, binV_add, binV_sub, binV_and, binV_shr, binV_shl, binV_str_eql, binV_str_neq, binV_mul, binV_eql, binV_neq, binV_lss, binV_leq, binV_gtr, binV_geq, unV_not, Bool.not_true, Bool.not_false, Bool.cond_true, Bool.cond_false, stv, vcs, idxA, blt, lenV, List.size_toArray, List.length_cons, List.length_nil, Nat.zero_add, Array.getD_eq_getD_getElem?, List.getElem?_toArray, List.getElem?_cons_zero, List.getElem?_cons_succ, Option.getD_some, Option.isSome_some, Nat.add_assoc, List.toList_toArray, eq_self, Option.bind_some, List.append_assoc, List.cons_append, List.length_append, List.length_cons, List.length_nil, Nat.zero_add, Nat.add_zero, Nat.reduceAdd, Nat.reduceMul, Nat.reduceLeDiff, mset_some, mset_none, set_at, set_at0, killL_nil, killL_cons, getC_succ2, getC_succ3, getC_succ4, getC_succ5, getC_succ6, loadCs_succ2, loadCs_succ3, loadCs_succ4, loadCs_succ5, loadCs_succ6, setCs_succ2, setCs_succ3, setCs_succ4, setCs_succ5, setCs_succ6, getC_at, getC_at0, getC_zero, getC_succ, loadCs_at, loadCs_at0, loadCs_zero, loadCs_succ, setCs_at, setCs_at0, setCs_zero, setCs_succ, splice, List.set_cons_succ, List.set_cons_zero, List.getElem?_cons_zero, List.getElem?_cons_succ, List.drop_zero, List.drop_succ_cons, List.take_succ_cons, List.take_zero, newB, vcs, flat_int, flat_bool, flat_string, flat_slice, flat_pointer, flat_func, flat_nilFunc, List.all_cons, List.all_nil, Bool.and_true, Bool.and_self, Ty.sz3, Ty.zc3, Ty.by3, Ty.sz9, Ty.st9, Ty.zc9, Ty.by9, Ty.sz40, Ty.sl40, Ty.zc40, Ty.by40, Nat.mul_one, *]; rfl)
      | (with_reducible refine aw_then ?_) | (with_reducible refine aw_skip ?_) | (with_reducible refine aw_ret ?_) | (with_reducible refine aw_exit ?_) | (with_reducible refine aw_block ?_) | (with_reducible refine xr_reg (by decide +kernel) ?_)
      | (with_reducible refine xr_nil ?_) | (with_reducible refine k_norm ?_) | (with_reducible refine k_ret ?_) | (with_reducible refine k_exit ?_) | (with_reducible refine b_norm ?_) | (with_reducible refine b_ret ?_) | (with_reducible refine b_exit ?_) | (with_reducible refine b_past (by decide) ?_)
      | (refine xr_cl (f := ?_) (fs := ?_) (cs := ?_) (args := ?_) (K := ?_) ?_ ?_ ?_ ?_ ?_
         rotate_left 5
         · simp only [ev]; rfl
         first
         | (· with_reducible exact Ty.ok60
            rotate_left 2
            refine hk_tag 60 ?_
            rotate_right 2)
         )
      | (refine xr_do (v := ?_) (h' := ?_) (by exact rfl) ?_ ?_; rotate_left 2)
      | (refine xr_st (v := ?_) (h' := ?_) (by exact rfl) ?_ ?_; rotate_left 2)
      | (refine aw_ift (by decide) ?_ ?_
         · simp only [ev, put_some, reduceIte, Nat.reduceEqDiff, *])
      | (refine aw_iff (by decide) ?_ ?_
         · simp only [ev, put_some, reduceIte, Nat.reduceEqDiff, *])
      | (refine aw_if (b := ?_) (by decide) ?_ (fun hb => ?_) (fun hb => ?_)
         rotate_left 1
         · simp only [ev, put_some, reduceIte, Nat.reduceEqDiff, *]; rfl)
      | (refine r_ret (vs := ?_) ?_ ?_
         rotate_left 1
         · simp only [resV, ev, put_some, reduceIte, Nat.reduceEqDiff, Option.map_some, *]; rfl)
      | (with_reducible refine markText_ok _ _ ?_ ?_
         · first | omega | (simp only [List.length_nil]; omega)
         · first | omega | (simp only [List.length_nil]; omega)
         )
      | ((with_reducible refine HkTag.mk (n := 60) ?_); rintro _ _ ⟨rfl, hh⟩; replace hh := hh.symm; subst hh)
      )
    refine ⟨by first | assumption | omega, ?_, ?_⟩
    · simp only [List.forall_mem_cons, List.not_mem_nil, false_implies, implies_true, and_true, and_self, stp, ev, put_some, put_none, argT_list, List.getD_cons_zero, List.getD_cons_succ, reduceIte, Nat.reduceEqDiff, Option.map_some, Array.map_empty, List.map_toArray, List.map_cons, List.map_nil, List.append_toArray, Array.append_empty, Array.empty_append, List.nil_append, List.append_nil, and_self, if_true, decide_true, decide_false, Int.toNat_natCast, Int.natCast_nonneg, List.length_map, binV_add, binV_sub, binV_and, binV_shr, binV_shl, binV_str_eql, binV_str_neq, binV_mul, binV_eql, binV_neq, binV_lss, binV_leq, binV_gtr, binV_geq, unV_not, Bool.not_true, Bool.not_false, Bool.cond_true, Bool.cond_false, *]
    exact ⟨rfl, by simp only [put_some, reduceIte, Nat.reduceEqDiff], by simp only [put_some, reduceIte, Nat.reduceEqDiff]⟩
  · have h1 : ¬ (k : Int) < n := by omega
    obtain rfl : k = n := by omega
    repeat' (first
      | ((with_reducible refine eq_go ?_); simp only [stp, ev, put_some, put_none, argT_list, List.getD_cons_zero, List.getD_cons_succ, reduceIte, Nat.reduceEqDiff, Option.map_some, Array.map_empty, List.map_toArray, List.map_cons, List.map_nil, List.append_toArray, Array.append_empty, Array.empty_append, List.nil_append, List.append_nil, and_self, if_true, decide_true, decide_false, Int.toNat_natCast, Int.natCast_nonneg, List.length_map, binV_add, binV_sub, binV_and, binV_shr, binV_shl, binV_str_eql, binV_str_neq, binV_mul, binV_eql, binV_neq, binV_lss, binV_leq, binV_gtr, binV_geq, unV_not, Bool.not_true, Bool.not_false, Bool.cond_true, Bool.cond_false, stv, vcs, idxA, blt, lenV, List.size_toArray, List.length_cons, List.length_nil, Nat.zero_add, Array.getD_eq_getD_getElem?, List.getElem?_toArray, List.getElem?_cons_zero, List.getElem?_cons_succ, Option.getD_some, Option.isSome_some, Nat.add_assoc, List.toList_toArray, eq_self, Option.bind_some, List.append_assoc, List.cons_append, List.length_append, List.length_cons, List.length_nil, Nat.zero_add, Nat.add_zero, Nat.reduceAdd, Nat.reduceMul, Nat.reduceLeDiff, mset_some, mset_none, set_at, set_at0, killL_nil, killL_cons, getC_succ2, getC_succ3, getC_succ4, getC_succ5, getC_succ6, loadCs_succ2, loadCs_succ3, loadCs_succ4, loadCs_succ5, loadCs_succ6, setCs_succ2, setCs_succ3, setCs_succ4, setCs_succ5, setCs_succ6, getC_at, getC_at0, getC_zero, getC_succ, loadCs_at, loadCs_at0, loadCs_zero, loadCs_succ, setCs_at, setCs_at0, setCs_zero, setCs_succ, splice, List.set_cons_succ, List.set_cons_zero, List.getElem?_cons_zero, List.getElem?_cons_succ, List.drop_zero, List.drop_succ_cons, List.take_succ_cons, List.take_zero, newB, vcs, flat_int, flat_bool, flat_string, flat_slice, flat_pointer, flat_func, flat_nilFunc, List.all_cons, List.all_nil, Bool.and_true, Bool.and_self, Ty.sz3, Ty.zc3, Ty.by3, Ty.sz9, Ty.st9, Ty.zc9, Ty.by9, Ty.sz40, Ty.sl40, Ty.zc40, Ty.by40, *]; rfl)
      | (with_reducible refine aw_then ?_) | (with_reducible refine aw_skip ?_) | (with_reducible refine aw_ret ?_) | (with_reducible refine aw_exit ?_) | (with_reducible refine aw_block ?_) | (with_reducible refine xr_reg (by decide +kernel) ?_)
      | (with_reducible refine xr_nil ?_) | (with_reducible refine k_norm ?_) | (with_reducible refine k_ret ?_) | (with_reducible refine k_exit ?_) | (with_reducible refine b_norm ?_) | (with_reducible refine b_ret ?_) | (with_reducible refine b_exit ?_) | (with_reducible refine b_past (by decide) ?_)
      | (refine xr_cl (f := ?_) (fs := ?_) (cs := ?_) (args := ?_) (K := ?_) ?_ ?_ ?_ ?_ ?_
         rotate_left 5
         · simp only [ev]; rfl
         first
         | (· with_reducible exact Ty.ok60
            rotate_left 2
            refine hk_tag 60 ?_
            rotate_right 2)
         )
      | (refine xr_do (v := ?_) (h' := ?_) (by exact rfl) ?_ ?_; rotate_left 2)
      | (refine xr_st (v := ?_) (h' := ?_) (by exact rfl) ?_ ?_; rotate_left 2)
      | (refine aw_ift (by decide) ?_ ?_
         · simp only [ev, put_some, reduceIte, Nat.reduceEqDiff, *])
      | (refine aw_iff (by decide) ?_ ?_
         · simp only [ev, put_some, reduceIte, Nat.reduceEqDiff, *])
      | (refine aw_if (b := ?_) (by decide) ?_ (fun hb => ?_) (fun hb => ?_)
         rotate_left 1
         · simp only [ev, put_some, reduceIte, Nat.reduceEqDiff, *]; rfl)
      | (refine r_ret (vs := ?_) ?_ ?_
         rotate_left 1
         · simp only [resV, ev, put_some, reduceIte, Nat.reduceEqDiff, Option.map_some, *]; rfl)
      | (with_reducible refine markText_ok _ _ ?_ ?_
         · first | omega | (simp only [List.length_nil]; omega)
         · first | omega | (simp only [List.length_nil]; omega)
         )
      | ((with_reducible refine HkTag.mk (n := 60) ?_); rintro _ _ ⟨rfl, hh⟩; replace hh := hh.symm; subst hh)
      )
    exact ⟨rfl, by rw [mixC_all hlm (by rw [marksS_length]; omega)]⟩
theorem markString1 (n : Nat) (cs : List Value) (v : Value) (h : Heap) (ho : Own h v 1 cs n) (hn : n ≤ 1048576) :
    ACalls Tryd.prog dE 26 #[v, .int .i64 1] h fun v' h' => v' = .int .i64 ((1 + n : Nat) : Int) ∧ h' = mset h v ⟨2, 1, marksS 1 n⟩ := markStringS_ok n cs 1 v h ho hn (by omega)

theorem heldStringS_ok (n : Nat) (s : Nat) (v : Value) (h : Heap) (ho : Own h v 1 (marksS s n) n) (hn : n ≤ 1048576) (hs : 1 ≤ s ∧ s ≤ 100000000) :
    ACalls Tryd.prog dE 27 #[v, .int .i64 (s : Nat)] h fun v' h' => v' = .int .i64 ((s + n : Nat) : Int) ∧ h' = h := by
  rcases ho with ⟨rfl, rfl, _⟩ | ⟨id, sp, c, rfl, hc, hl, hb⟩
  · skip
    refine acalls_fn Tryd.func27 rfl Tryd.ntmps27 (by simp) (by dsimp only [Tryd.f27]) ?_
    repeat' (first
      | ((with_reducible refine eq_go ?_); simp only [stp, ev, put_some, put_none, argT_list, List.getD_cons_zero, List.getD_cons_succ, reduceIte, Nat.reduceEqDiff, Option.map_some, Array.map_empty, List.map_toArray, List.map_cons, List.map_nil, List.append_toArray, Array.append_empty, Array.empty_append, List.nil_append, List.append_nil, and_self, if_true, decide_true, decide_false, Int.toNat_natCast, Int.natCast_nonneg, List.length_map, binV_add, binV_sub, binV_and, binV_shr, binV_shl, binV_str_eql, binV_str_neq, binV_mul, binV_eql, binV_neq, binV_lss, binV_leq, binV_gtr, binV_geq, unV_not, Bool.not_true, Bool.not_false, Bool.cond_true, Bool.cond_false, ldv, idxA, blt, lenV, List.size_toArray, List.length_cons, List.length_nil, Nat.zero_add, Array.getD_eq_getD_getElem?, List.getElem?_toArray, List.getElem?_cons_zero, List.getElem?_cons_succ, Option.getD_some, Option.isSome_some, Nat.add_assoc, List.toList_toArray, eq_self, Option.bind_some, List.append_assoc, List.cons_append, List.length_append, List.length_cons, List.length_nil, Nat.zero_add, Nat.add_zero, Nat.reduceAdd, Nat.reduceMul, Nat.reduceLeDiff, mset_some, mset_none, set_at, set_at0, killL_nil, killL_cons, getC_succ2, getC_succ3, getC_succ4, getC_succ5, getC_succ6, loadCs_succ2, loadCs_succ3, loadCs_succ4, loadCs_succ5, loadCs_succ6, setCs_succ2, setCs_succ3, setCs_succ4, setCs_succ5, setCs_succ6, getC_at, getC_at0, getC_zero, getC_succ, loadCs_at, loadCs_at0, loadCs_zero, loadCs_succ, setCs_at, setCs_at0, setCs_zero, setCs_succ, splice, List.set_cons_succ, List.set_cons_zero, List.getElem?_cons_zero, List.getElem?_cons_succ, List.drop_zero, List.drop_succ_cons, List.take_succ_cons, List.take_zero, newB, vcs, flat_int, flat_bool, flat_string, flat_slice, flat_pointer, flat_func, flat_nilFunc, List.all_cons, List.all_nil, Bool.and_true, Bool.and_self, Ty.ld3, Ty.sz3, Ty.zc3, Ty.by3, Ty.ld9, Ty.sz9, Ty.st9, Ty.zc9, Ty.by9, Ty.ld40, Ty.sz40, Ty.sl40, Ty.zc40, Ty.by40, *]; rfl)
      | (with_reducible refine aw_then ?_) | (with_reducible refine aw_skip ?_) | (with_reducible refine aw_ret ?_) | (with_reducible refine aw_exit ?_) | (with_reducible refine aw_block ?_) | (with_reducible refine xr_reg (by decide +kernel) ?_)
      | (with_reducible refine xr_nil ?_) | (with_reducible refine k_norm ?_) | (with_reducible refine k_ret ?_) | (with_reducible refine k_exit ?_) | (with_reducible refine b_norm ?_) | (with_reducible refine b_ret ?_) | (with_reducible refine b_exit ?_) | (with_reducible refine b_past (by decide) ?_)
      | (with_reducible refine xd_nil ?_)
      | (refine xr_cl (f := ?_) (fs := ?_) (cs := ?_) (args := ?_) (K := ?_) ?_ ?_ ?_ ?_ ?_
         rotate_left 5
         · simp only [ev]; rfl
         first
         | (· with_reducible exact Ty.ok60
            rotate_left 2
            refine hk_tag 60 ?_
            rotate_right 2)
         )
      | (refine xd_cl (f := ?_) (fs := ?_) (cs := ?_) (args := ?_) (v := ?_) ?_ ?_ ?_ ?_ ?_ ?_
         rotate_left 5
         · simp only [ev]; rfl
         · first | with_reducible exact Ty.ok60
         rotate_left 1
         · decide +kernel
         rotate_right 1)
      | (refine xr_do (v := ?_) (h' := ?_) (by exact rfl) ?_ ?_; rotate_left 2)
      | (refine xr_st (v := ?_) (h' := ?_) (by exact rfl) ?_ ?_; rotate_left 2)
      | (refine xd_reg (ms := [0, 0, 3, 7, 0, 16, 63]) Ty.mx (by decide +kernel) (by decide +kernel) ?_)
      | (refine xd_do (v := ?_) (by exact rfl) (by decide +kernel) ?_ ?_; rotate_left 1)
      | (refine aw_ift (by decide) ?_ ?_
         · simp only [ev, put_some, reduceIte, Nat.reduceEqDiff, *])
      | (refine aw_iff (by decide) ?_ ?_
         · simp only [ev, put_some, reduceIte, Nat.reduceEqDiff, *])
      | (refine aw_if (b := ?_) (by decide) ?_ (fun hb => ?_) (fun hb => ?_)
         rotate_left 1
         · simp only [ev, put_some, reduceIte, Nat.reduceEqDiff, *]; rfl)
      | (refine r_ret (vs := ?_) ?_ ?_
         rotate_left 1
         · simp only [resV, ev, put_some, reduceIte, Nat.reduceEqDiff, Option.map_some, *]; rfl)
      | (with_reducible refine markText_ok _ _ ?_ ?_
         · first | omega | (simp only [List.length_nil]; omega)
         · first | omega | (simp only [List.length_nil]; omega)
         )
      | ((with_reducible refine HkTag.mk (n := 60) ?_); rintro _ _ ⟨rfl, hh⟩; replace hh := hh.symm; subst hh)
      )
    refine aw_for [0, 1] (fun k T h' => h' = h ∧ T 5 = .int .i64 0) 0 (k0 := 0) (Nat.zero_le _) ⟨rfl, rfl⟩ ?_
    rintro k T h' hk hR ⟨rfl, h11⟩
    have h1 : decide ((0 : Int) < ((0 : Nat) : Int)) = false := rfl
    simp only [List.forall_mem_cons, List.not_mem_nil, false_implies, implies_true, and_true, stp, ev, put_some, put_none, argT_list, List.getD_cons_zero, List.getD_cons_succ, reduceIte, Nat.reduceEqDiff, Option.map_some, Array.map_empty, List.map_toArray, List.map_cons, List.map_nil, List.append_toArray, Array.append_empty, Array.empty_append, List.nil_append, List.append_nil, and_self, if_true, decide_true, decide_false, Int.toNat_natCast, Int.natCast_nonneg, List.length_map, binV_add, binV_sub, binV_and, binV_shr, binV_shl, binV_str_eql, binV_str_neq, binV_mul, binV_eql, binV_neq, binV_lss, binV_leq, binV_gtr, binV_geq, unV_not, Bool.not_true, Bool.not_false, Bool.cond_true, Bool.cond_false] at hR
    repeat' (first
      | ((with_reducible refine eq_go ?_); simp only [stp, ev, put_some, put_none, argT_list, List.getD_cons_zero, List.getD_cons_succ, reduceIte, Nat.reduceEqDiff, Option.map_some, Array.map_empty, List.map_toArray, List.map_cons, List.map_nil, List.append_toArray, Array.append_empty, Array.empty_append, List.nil_append, List.append_nil, and_self, if_true, decide_true, decide_false, Int.toNat_natCast, Int.natCast_nonneg, List.length_map, binV_add, binV_sub, binV_and, binV_shr, binV_shl, binV_str_eql, binV_str_neq, binV_mul, binV_eql, binV_neq, binV_lss, binV_leq, binV_gtr, binV_geq, unV_not, Bool.not_true, Bool.not_false, Bool.cond_true, Bool.cond_false, ldv, idxA, blt, lenV, List.size_toArray, List.length_cons, List.length_nil, Nat.zero_add, Array.getD_eq_getD_getElem?, List.getElem?_toArray, List.getElem?_cons_zero, List.getElem?_cons_succ, Option.getD_some, Option.isSome_some, Nat.add_assoc, List.toList_toArray, eq_self, Option.bind_some, List.append_assoc, List.cons_append, List.length_append, List.length_cons, List.length_nil, Nat.zero_add, Nat.add_zero, Nat.reduceAdd, Nat.reduceMul, Nat.reduceLeDiff, mset_some, mset_none, set_at, set_at0, killL_nil, killL_cons, getC_succ2, getC_succ3, getC_succ4, getC_succ5, getC_succ6, loadCs_succ2, loadCs_succ3, loadCs_succ4, loadCs_succ5, loadCs_succ6, setCs_succ2, setCs_succ3, setCs_succ4, setCs_succ5, setCs_succ6, getC_at, getC_at0, getC_zero, getC_succ, loadCs_at, loadCs_at0, loadCs_zero, loadCs_succ, setCs_at, setCs_at0, setCs_zero, setCs_succ, splice, List.set_cons_succ, List.set_cons_zero, List.getElem?_cons_zero, List.getElem?_cons_succ, List.drop_zero, List.drop_succ_cons, List.take_succ_cons, List.take_zero, newB, vcs, flat_int, flat_bool, flat_string, flat_slice, flat_pointer, flat_func, flat_nilFunc, List.all_cons, List.all_nil, Bool.and_true, Bool.and_self, Ty.ld3, Ty.sz3, Ty.zc3, Ty.by3, Ty.ld9, Ty.sz9, Ty.st9, Ty.zc9, Ty.by9, Ty.ld40, Ty.sz40, Ty.sl40, Ty.zc40, Ty.by40, *]; rfl)
      | (with_reducible refine aw_then ?_) | (with_reducible refine aw_skip ?_) | (with_reducible refine aw_ret ?_) | (with_reducible refine aw_exit ?_) | (with_reducible refine aw_block ?_) | (with_reducible refine xr_reg (by decide +kernel) ?_)
      | (with_reducible refine xr_nil ?_) | (with_reducible refine k_norm ?_) | (with_reducible refine k_ret ?_) | (with_reducible refine k_exit ?_) | (with_reducible refine b_norm ?_) | (with_reducible refine b_ret ?_) | (with_reducible refine b_exit ?_) | (with_reducible refine b_past (by decide) ?_)
      | (with_reducible refine xd_nil ?_)
      | (refine xr_cl (f := ?_) (fs := ?_) (cs := ?_) (args := ?_) (K := ?_) ?_ ?_ ?_ ?_ ?_
         rotate_left 5
         · simp only [ev]; rfl
         first
         | (· with_reducible exact Ty.ok60
            rotate_left 2
            refine hk_tag 60 ?_
            rotate_right 2)
         )
      | (refine xd_cl (f := ?_) (fs := ?_) (cs := ?_) (args := ?_) (v := ?_) ?_ ?_ ?_ ?_ ?_ ?_
         rotate_left 5
         · simp only [ev]; rfl
         · first | with_reducible exact Ty.ok60
         rotate_left 1
         · decide +kernel
         rotate_right 1)
      | (refine xr_do (v := ?_) (h' := ?_) (by exact rfl) ?_ ?_; rotate_left 2)
      | (refine xr_st (v := ?_) (h' := ?_) (by exact rfl) ?_ ?_; rotate_left 2)
      | (refine xd_reg (ms := [0, 0, 3, 7, 0, 16, 63]) Ty.mx (by decide +kernel) (by decide +kernel) ?_)
      | (refine xd_do (v := ?_) (by exact rfl) (by decide +kernel) ?_ ?_; rotate_left 1)
      | (refine aw_ift (by decide) ?_ ?_
         · simp only [ev, put_some, reduceIte, Nat.reduceEqDiff, *])
      | (refine aw_iff (by decide) ?_ ?_
         · simp only [ev, put_some, reduceIte, Nat.reduceEqDiff, *])
      | (refine aw_if (b := ?_) (by decide) ?_ (fun hb => ?_) (fun hb => ?_)
         rotate_left 1
         · simp only [ev, put_some, reduceIte, Nat.reduceEqDiff, *]; rfl)
      | (refine r_ret (vs := ?_) ?_ ?_
         rotate_left 1
         · simp only [resV, ev, put_some, reduceIte, Nat.reduceEqDiff, Option.map_some, *]; rfl)
      | (with_reducible refine markText_ok _ _ ?_ ?_
         · first | omega | (simp only [List.length_nil]; omega)
         · first | omega | (simp only [List.length_nil]; omega)
         )
      | ((with_reducible refine HkTag.mk (n := 60) ?_); rintro _ _ ⟨rfl, hh⟩; replace hh := hh.symm; subst hh)
      )
    exact ⟨by simp [oneOf], rfl⟩
  refine acalls_fn Tryd.func27 rfl Tryd.ntmps27 (by simp) (by dsimp only [Tryd.f27]) ?_
  repeat' (first
    | ((with_reducible refine eq_go ?_); simp only [stp, ev, put_some, put_none, argT_list, List.getD_cons_zero, List.getD_cons_succ, reduceIte, Nat.reduceEqDiff, Option.map_some, Array.map_empty, List.map_toArray, List.map_cons, List.map_nil, List.append_toArray, Array.append_empty, Array.empty_append, List.nil_append, List.append_nil, and_self, if_true, decide_true, decide_false, Int.toNat_natCast, Int.natCast_nonneg, List.length_map, binV_add, binV_sub, binV_and, binV_shr, binV_shl, binV_str_eql, binV_str_neq, binV_mul, binV_eql, binV_neq, binV_lss, binV_leq, binV_gtr, binV_geq, unV_not, Bool.not_true, Bool.not_false, Bool.cond_true, Bool.cond_false, ldv, idxA, blt, lenV, List.size_toArray, List.length_cons, List.length_nil, Nat.zero_add, Array.getD_eq_getD_getElem?, List.getElem?_toArray, List.getElem?_cons_zero, List.getElem?_cons_succ, Option.getD_some, Option.isSome_some, Nat.add_assoc, List.toList_toArray, eq_self, Option.bind_some, List.append_assoc, List.cons_append, List.length_append, List.length_cons, List.length_nil, Nat.zero_add, Nat.add_zero, Nat.reduceAdd, Nat.reduceMul, Nat.reduceLeDiff, mset_some, mset_none, set_at, set_at0, killL_nil, killL_cons, getC_succ2, getC_succ3, getC_succ4, getC_succ5, getC_succ6, loadCs_succ2, loadCs_succ3, loadCs_succ4, loadCs_succ5, loadCs_succ6, setCs_succ2, setCs_succ3, setCs_succ4, setCs_succ5, setCs_succ6, getC_at, getC_at0, getC_zero, getC_succ, loadCs_at, loadCs_at0, loadCs_zero, loadCs_succ, setCs_at, setCs_at0, setCs_zero, setCs_succ, splice, List.set_cons_succ, List.set_cons_zero, List.getElem?_cons_zero, List.getElem?_cons_succ, List.drop_zero, List.drop_succ_cons, List.take_succ_cons, List.take_zero, newB, vcs, flat_int, flat_bool, flat_string, flat_slice, flat_pointer, flat_func, flat_nilFunc, List.all_cons, List.all_nil, Bool.and_true, Bool.and_self, Ty.ld3, Ty.sz3, Ty.zc3, Ty.by3, Ty.ld9, Ty.sz9, Ty.st9, Ty.zc9, Ty.by9, Ty.ld40, Ty.sz40, Ty.sl40, Ty.zc40, Ty.by40, *]; rfl)
    | (with_reducible refine aw_then ?_) | (with_reducible refine aw_skip ?_) | (with_reducible refine aw_ret ?_) | (with_reducible refine aw_exit ?_) | (with_reducible refine aw_block ?_) | (with_reducible refine xr_reg (by decide +kernel) ?_)
    | (with_reducible refine xr_nil ?_) | (with_reducible refine k_norm ?_) | (with_reducible refine k_ret ?_) | (with_reducible refine k_exit ?_) | (with_reducible refine b_norm ?_) | (with_reducible refine b_ret ?_) | (with_reducible refine b_exit ?_) | (with_reducible refine b_past (by decide) ?_)
    | (with_reducible refine xd_nil ?_)
    | (refine xr_cl (f := ?_) (fs := ?_) (cs := ?_) (args := ?_) (K := ?_) ?_ ?_ ?_ ?_ ?_
       rotate_left 5
       · simp only [ev]; rfl
       first
       | (· with_reducible exact Ty.ok60
          rotate_left 2
          refine hk_tag 60 ?_
          rotate_right 2)
       )
    | (refine xd_cl (f := ?_) (fs := ?_) (cs := ?_) (args := ?_) (v := ?_) ?_ ?_ ?_ ?_ ?_ ?_
       rotate_left 5
       · simp only [ev]; rfl
       · first | with_reducible exact Ty.ok60
       rotate_left 1
       · decide +kernel
       rotate_right 1)
    | (refine xr_do (v := ?_) (h' := ?_) (by exact rfl) ?_ ?_; rotate_left 2)
    | (refine xr_st (v := ?_) (h' := ?_) (by exact rfl) ?_ ?_; rotate_left 2)
    | (refine xd_reg (ms := [0, 0, 3, 7, 0, 16, 63]) Ty.mx (by decide +kernel) (by decide +kernel) ?_)
    | (refine xd_do (v := ?_) (by exact rfl) (by decide +kernel) ?_ ?_; rotate_left 1)
    | (refine aw_ift (by decide) ?_ ?_
       · simp only [ev, put_some, reduceIte, Nat.reduceEqDiff, *])
    | (refine aw_iff (by decide) ?_ ?_
       · simp only [ev, put_some, reduceIte, Nat.reduceEqDiff, *])
    | (refine aw_if (b := ?_) (by decide) ?_ (fun hb => ?_) (fun hb => ?_)
       rotate_left 1
       · simp only [ev, put_some, reduceIte, Nat.reduceEqDiff, *]; rfl)
    | (refine r_ret (vs := ?_) ?_ ?_
       rotate_left 1
       · simp only [resV, ev, put_some, reduceIte, Nat.reduceEqDiff, Option.map_some, *]; rfl)
    | (with_reducible refine markText_ok _ _ ?_ ?_
       · first | omega | (simp only [List.length_nil]; omega)
       · first | omega | (simp only [List.length_nil]; omega)
       )
    | ((with_reducible refine HkTag.mk (n := 60) ?_); rintro _ _ ⟨rfl, hh⟩; replace hh := hh.symm; subst hh)
    )
  refine aw_for [0] (fun k T h' => h' = h ∧ T 5 = .int .i64 k ∧ T 1 = .int .i64 ((s + k : Nat) : Int)) n (k0 := 0) (Nat.zero_le _) ⟨rfl, rfl, rfl⟩ ?_
  rintro k T h' hk hR ⟨rfl, h11, h12⟩
  simp only [List.forall_mem_cons, List.not_mem_nil, false_implies, implies_true, and_true, stp, ev, put_some, put_none, argT_list, List.getD_cons_zero, List.getD_cons_succ, reduceIte, Nat.reduceEqDiff, Option.map_some, Array.map_empty, List.map_toArray, List.map_cons, List.map_nil, List.append_toArray, Array.append_empty, Array.empty_append, List.nil_append, List.append_nil, and_self, if_true, decide_true, decide_false, Int.toNat_natCast, Int.natCast_nonneg, List.length_map, binV_add, binV_sub, binV_and, binV_shr, binV_shl, binV_str_eql, binV_str_neq, binV_mul, binV_eql, binV_neq, binV_lss, binV_leq, binV_gtr, binV_geq, unV_not, Bool.not_true, Bool.not_false, Bool.cond_true, Bool.cond_false] at hR
  rcases Nat.lt_or_ge k n with hkn | hkn
  · have h1 : (k : Int) < n := by omega
    have hld0 : getC h' id k = some (.string (mkT (s + k))) := load_cell hb (marksS_get s (by omega))
    have hw0 : IntKind.i64.wrap (((s + k : Nat) : Int) + 1) = ((s + (k + 1) : Nat) : Int) := by rw [wrap_id (by omega)]; omega
    have hwk : IntKind.i64.wrap ((k : Int) + 1) = ((k + 1 : Nat) : Int) := by rw [wrap_id (by omega)]; omega
    repeat' (first
      | ((with_reducible refine eq_go ?_); simp only [stp, ev, put_some, put_none, argT_list, List.getD_cons_zero, List.getD_cons_succ, reduceIte, Nat.reduceEqDiff, Option.map_some, Array.map_empty, List.map_toArray, List.map_cons, List.map_nil, List.append_toArray, Array.append_empty, Array.empty_append, List.nil_append, List.append_nil, and_self, if_true, decide_true, decide_false, Int.toNat_natCast, Int.natCast_nonneg, List.length_map, binV_add, binV_sub, binV_and, binV_shr, binV_shl, binV_str_eql, binV_str_neq, binV_mul, binV_eql, binV_neq, binV_lss, binV_leq, binV_gtr, binV_geq, unV_not, Bool.not_true, Bool.not_false, Bool.cond_true, Bool.cond_false, ldv, idxA, blt, lenV, List.size_toArray, List.length_cons, List.length_nil, Nat.zero_add, Array.getD_eq_getD_getElem?, List.getElem?_toArray, List.getElem?_cons_zero, List.getElem?_cons_succ, Option.getD_some, Option.isSome_some, Nat.add_assoc, List.toList_toArray, eq_self, Option.bind_some, List.append_assoc, List.cons_append, List.length_append, List.length_cons, List.length_nil, Nat.zero_add, Nat.add_zero, Nat.reduceAdd, Nat.reduceMul, Nat.reduceLeDiff, mset_some, mset_none, set_at, set_at0, killL_nil, killL_cons, getC_succ2, getC_succ3, getC_succ4, getC_succ5, getC_succ6, loadCs_succ2, loadCs_succ3, loadCs_succ4, loadCs_succ5, loadCs_succ6, setCs_succ2, setCs_succ3, setCs_succ4, setCs_succ5, setCs_succ6, getC_at, getC_at0, getC_zero, getC_succ, loadCs_at, loadCs_at0, loadCs_zero, loadCs_succ, setCs_at, setCs_at0, setCs_zero, setCs_succ, splice, List.set_cons_succ, List.set_cons_zero, List.getElem?_cons_zero, List.getElem?_cons_succ, List.drop_zero, List.drop_succ_cons, List.take_succ_cons, List.take_zero, newB, vcs, flat_int, flat_bool, flat_string, flat_slice, flat_pointer, flat_func, flat_nilFunc, List.all_cons, List.all_nil, Bool.and_true, Bool.and_self, Ty.ld3, Ty.sz3, Ty.zc3, Ty.by3, Ty.ld9, Ty.sz9, Ty.st9, Ty.zc9, Ty.by9, Ty.ld40, Ty.sz40, Ty.sl40, Ty.zc40, Ty.by40, Nat.mul_one, *]; rfl)
      | (with_reducible refine aw_then ?_) | (with_reducible refine aw_skip ?_) | (with_reducible refine aw_ret ?_) | (with_reducible refine aw_exit ?_) | (with_reducible refine aw_block ?_) | (with_reducible refine xr_reg (by decide +kernel) ?_)
      | (with_reducible refine xr_nil ?_) | (with_reducible refine k_norm ?_) | (with_reducible refine k_ret ?_) | (with_reducible refine k_exit ?_) | (with_reducible refine b_norm ?_) | (with_reducible refine b_ret ?_) | (with_reducible refine b_exit ?_) | (with_reducible refine b_past (by decide) ?_)
      | (with_reducible refine xd_nil ?_)
      | (refine xr_cl (f := ?_) (fs := ?_) (cs := ?_) (args := ?_) (K := ?_) ?_ ?_ ?_ ?_ ?_
         rotate_left 5
         · simp only [ev]; rfl
         first
         | (· with_reducible exact Ty.ok60
            rotate_left 2
            refine hk_tag 60 ?_
            rotate_right 2)
         )
      | (refine xd_cl (f := ?_) (fs := ?_) (cs := ?_) (args := ?_) (v := ?_) ?_ ?_ ?_ ?_ ?_ ?_
         rotate_left 5
         · simp only [ev]; rfl
         · first | with_reducible exact Ty.ok60
         rotate_left 1
         · decide +kernel
         rotate_right 1)
      | (refine xr_do (v := ?_) (h' := ?_) (by exact rfl) ?_ ?_; rotate_left 2)
      | (refine xr_st (v := ?_) (h' := ?_) (by exact rfl) ?_ ?_; rotate_left 2)
      | (refine xd_reg (ms := [0, 0, 3, 7, 0, 16, 63]) Ty.mx (by decide +kernel) (by decide +kernel) ?_)
      | (refine xd_do (v := ?_) (by exact rfl) (by decide +kernel) ?_ ?_; rotate_left 1)
      | (refine aw_ift (by decide) ?_ ?_
         · simp only [ev, put_some, reduceIte, Nat.reduceEqDiff, *])
      | (refine aw_iff (by decide) ?_ ?_
         · simp only [ev, put_some, reduceIte, Nat.reduceEqDiff, *])
      | (refine aw_if (b := ?_) (by decide) ?_ (fun hb => ?_) (fun hb => ?_)
         rotate_left 1
         · simp only [ev, put_some, reduceIte, Nat.reduceEqDiff, *]; rfl)
      | (refine r_ret (vs := ?_) ?_ ?_
         rotate_left 1
         · simp only [resV, ev, put_some, reduceIte, Nat.reduceEqDiff, Option.map_some, *]; rfl)
      | (with_reducible refine markText_ok _ _ ?_ ?_
         · first | omega | (simp only [List.length_nil]; omega)
         · first | omega | (simp only [List.length_nil]; omega)
         )
      | ((with_reducible refine HkTag.mk (n := 60) ?_); rintro _ _ ⟨rfl, hh⟩; replace hh := hh.symm; subst hh)
      )
    refine ⟨by first | assumption | omega, ?_, ?_⟩
    · simp only [List.forall_mem_cons, List.not_mem_nil, false_implies, implies_true, and_true, and_self, stp, ev, put_some, put_none, argT_list, List.getD_cons_zero, List.getD_cons_succ, reduceIte, Nat.reduceEqDiff, Option.map_some, Array.map_empty, List.map_toArray, List.map_cons, List.map_nil, List.append_toArray, Array.append_empty, Array.empty_append, List.nil_append, List.append_nil, and_self, if_true, decide_true, decide_false, Int.toNat_natCast, Int.natCast_nonneg, List.length_map, binV_add, binV_sub, binV_and, binV_shr, binV_shl, binV_str_eql, binV_str_neq, binV_mul, binV_eql, binV_neq, binV_lss, binV_leq, binV_gtr, binV_geq, unV_not, Bool.not_true, Bool.not_false, Bool.cond_true, Bool.cond_false, *]
    exact ⟨rfl, by simp only [put_some, reduceIte, Nat.reduceEqDiff], by simp only [put_some, reduceIte, Nat.reduceEqDiff]⟩
  · have h1 : ¬ (k : Int) < n := by omega
    obtain rfl : k = n := by omega
    repeat' (first
      | ((with_reducible refine eq_go ?_); simp only [stp, ev, put_some, put_none, argT_list, List.getD_cons_zero, List.getD_cons_succ, reduceIte, Nat.reduceEqDiff, Option.map_some, Array.map_empty, List.map_toArray, List.map_cons, List.map_nil, List.append_toArray, Array.append_empty, Array.empty_append, List.nil_append, List.append_nil, and_self, if_true, decide_true, decide_false, Int.toNat_natCast, Int.natCast_nonneg, List.length_map, binV_add, binV_sub, binV_and, binV_shr, binV_shl, binV_str_eql, binV_str_neq, binV_mul, binV_eql, binV_neq, binV_lss, binV_leq, binV_gtr, binV_geq, unV_not, Bool.not_true, Bool.not_false, Bool.cond_true, Bool.cond_false, ldv, idxA, blt, lenV, List.size_toArray, List.length_cons, List.length_nil, Nat.zero_add, Array.getD_eq_getD_getElem?, List.getElem?_toArray, List.getElem?_cons_zero, List.getElem?_cons_succ, Option.getD_some, Option.isSome_some, Nat.add_assoc, List.toList_toArray, eq_self, Option.bind_some, List.append_assoc, List.cons_append, List.length_append, List.length_cons, List.length_nil, Nat.zero_add, Nat.add_zero, Nat.reduceAdd, Nat.reduceMul, Nat.reduceLeDiff, mset_some, mset_none, set_at, set_at0, killL_nil, killL_cons, getC_succ2, getC_succ3, getC_succ4, getC_succ5, getC_succ6, loadCs_succ2, loadCs_succ3, loadCs_succ4, loadCs_succ5, loadCs_succ6, setCs_succ2, setCs_succ3, setCs_succ4, setCs_succ5, setCs_succ6, getC_at, getC_at0, getC_zero, getC_succ, loadCs_at, loadCs_at0, loadCs_zero, loadCs_succ, setCs_at, setCs_at0, setCs_zero, setCs_succ, splice, List.set_cons_succ, List.set_cons_zero, List.getElem?_cons_zero, List.getElem?_cons_succ, List.drop_zero, List.drop_succ_cons, List.take_succ_cons, List.take_zero, newB, vcs, flat_int, flat_bool, flat_string, flat_slice, flat_pointer, flat_func, flat_nilFunc, List.all_cons, List.all_nil, Bool.and_true, Bool.and_self, Ty.ld3, Ty.sz3, Ty.zc3, Ty.by3, Ty.ld9, Ty.sz9, Ty.st9, Ty.zc9, Ty.by9, Ty.ld40, Ty.sz40, Ty.sl40, Ty.zc40, Ty.by40, *]; rfl)
      | (with_reducible refine aw_then ?_) | (with_reducible refine aw_skip ?_) | (with_reducible refine aw_ret ?_) | (with_reducible refine aw_exit ?_) | (with_reducible refine aw_block ?_) | (with_reducible refine xr_reg (by decide +kernel) ?_)
      | (with_reducible refine xr_nil ?_) | (with_reducible refine k_norm ?_) | (with_reducible refine k_ret ?_) | (with_reducible refine k_exit ?_) | (with_reducible refine b_norm ?_) | (with_reducible refine b_ret ?_) | (with_reducible refine b_exit ?_) | (with_reducible refine b_past (by decide) ?_)
      | (with_reducible refine xd_nil ?_)
      | (refine xr_cl (f := ?_) (fs := ?_) (cs := ?_) (args := ?_) (K := ?_) ?_ ?_ ?_ ?_ ?_
         rotate_left 5
         · simp only [ev]; rfl
         first
         | (· with_reducible exact Ty.ok60
            rotate_left 2
            refine hk_tag 60 ?_
            rotate_right 2)
         )
      | (refine xd_cl (f := ?_) (fs := ?_) (cs := ?_) (args := ?_) (v := ?_) ?_ ?_ ?_ ?_ ?_ ?_
         rotate_left 5
         · simp only [ev]; rfl
         · first | with_reducible exact Ty.ok60
         rotate_left 1
         · decide +kernel
         rotate_right 1)
      | (refine xr_do (v := ?_) (h' := ?_) (by exact rfl) ?_ ?_; rotate_left 2)
      | (refine xr_st (v := ?_) (h' := ?_) (by exact rfl) ?_ ?_; rotate_left 2)
      | (refine xd_reg (ms := [0, 0, 3, 7, 0, 16, 63]) Ty.mx (by decide +kernel) (by decide +kernel) ?_)
      | (refine xd_do (v := ?_) (by exact rfl) (by decide +kernel) ?_ ?_; rotate_left 1)
      | (refine aw_ift (by decide) ?_ ?_
         · simp only [ev, put_some, reduceIte, Nat.reduceEqDiff, *])
      | (refine aw_iff (by decide) ?_ ?_
         · simp only [ev, put_some, reduceIte, Nat.reduceEqDiff, *])
      | (refine aw_if (b := ?_) (by decide) ?_ (fun hb => ?_) (fun hb => ?_)
         rotate_left 1
         · simp only [ev, put_some, reduceIte, Nat.reduceEqDiff, *]; rfl)
      | (refine r_ret (vs := ?_) ?_ ?_
         rotate_left 1
         · simp only [resV, ev, put_some, reduceIte, Nat.reduceEqDiff, Option.map_some, *]; rfl)
      | (with_reducible refine markText_ok _ _ ?_ ?_
         · first | omega | (simp only [List.length_nil]; omega)
         · first | omega | (simp only [List.length_nil]; omega)
         )
      | ((with_reducible refine HkTag.mk (n := 60) ?_); rintro _ _ ⟨rfl, hh⟩; replace hh := hh.symm; subst hh)
      )
    exact ⟨rfl, rfl⟩
theorem heldString1 (n : Nat) (v : Value) (h : Heap) (ho : Own h v 1 (marksS 1 n) n) (hn : n ≤ 1048576) :
    ACalls Tryd.prog dE 27 #[v, .int .i64 1] h fun v' h' => v' = .int .i64 ((1 + n : Nat) : Int) ∧ h' = h := heldStringS_ok n 1 v h ho hn (by omega)

theorem lawReadFrames_ok (s : ByteArray) (h : Heap) (hs : s.size ≤ 9223372036854775807) : ACalls Tryd.prog dE 6 #[.string s] h fun v _ => v = .bool true := by
  by_cases h1 : 1048576 < s.size
  · have h1' : (1048576 : Int) < s.size := by omega
    refine acalls_fn Tryd.func6 rfl Tryd.ntmps6 (by simp) (by dsimp only [Tryd.f6]) ?_
    repeat' (first
      | ((with_reducible refine eq_go ?_); simp only [stp, ev, put_some, put_none, argT_list, List.getD_cons_zero, List.getD_cons_succ, reduceIte, Nat.reduceEqDiff, Option.map_some, Array.map_empty, List.map_toArray, List.map_cons, List.map_nil, List.append_toArray, Array.append_empty, Array.empty_append, List.nil_append, List.append_nil, and_self, if_true, decide_true, decide_false, Int.toNat_natCast, Int.natCast_nonneg, List.length_map, binV_add, binV_sub, binV_and, binV_shr, binV_shl, binV_str_eql, binV_str_neq, binV_mul, binV_eql, binV_neq, binV_lss, binV_leq, binV_gtr, binV_geq, unV_not, Bool.not_true, Bool.not_false, Bool.cond_true, Bool.cond_false, binV_bool_neq, binV_bool_eql, Ty.un4, List.getElem?_toArray, List.getElem?_cons_zero, List.getElem?_cons_succ, blt, lenV, List.size_toArray, List.length_cons, List.length_nil, Nat.zero_add, Array.getD_eq_getD_getElem?, List.getElem?_toArray, List.getElem?_cons_zero, List.getElem?_cons_succ, Option.getD_some, Option.isSome_some, Ty.ld3, Ty.sz3, Ty.zc3, Ty.by3, Ty.ld4, Ty.sz4, Ty.zc4, Ty.by4, Ty.ld9, Ty.sz9, Ty.st9, Ty.zc9, Ty.by9, Ty.ld40, Ty.sz40, Ty.sl40, Ty.zc40, Ty.by40, *]; rfl)
      | (with_reducible refine aw_then ?_) | (with_reducible refine aw_skip ?_) | (with_reducible refine aw_ret ?_) | (with_reducible refine aw_exit ?_) | (with_reducible refine aw_block ?_) | (with_reducible refine xr_reg (by decide +kernel) ?_)
      | (with_reducible refine xr_nil ?_) | (with_reducible refine k_norm ?_) | (with_reducible refine k_ret ?_) | (with_reducible refine k_exit ?_) | (with_reducible refine b_norm ?_) | (with_reducible refine b_ret ?_) | (with_reducible refine b_exit ?_) | (with_reducible refine b_past (by decide) ?_)
      | (refine xr_cl (f := ?_) (fs := ?_) (cs := ?_) (args := ?_) (K := ?_) ?_ ?_ ?_ ?_ ?_
         rotate_left 5
         · simp only [ev]; rfl
         first
         | (· with_reducible exact Ty.ok23
            rotate_left 2
            refine hk_tag 23 ?_
            rotate_right 2)
         | (· with_reducible exact Ty.ok24
            rotate_left 2
            refine hk_tag 24 ?_
            rotate_right 2)
         | (· with_reducible exact Ty.ok25
            rotate_left 2
            refine hk_tag 25 ?_
            rotate_right 2)
         | (· with_reducible exact Ty.ok26
            rotate_left 2
            refine hk_tag 26 ?_
            rotate_right 2)
         | (· with_reducible exact Ty.ok27
            rotate_left 2
            refine hk_tag 27 ?_
            rotate_right 2)
         )
      | (refine xr_gcl (f := ?_) (fs := ?_) (cs := ?_) (args := ?_) (K := ?_) (by exact rfl) ?_ ?_ ?_ ?_ ?_ ?_
         rotate_left 5
         · simp only [ev, put_some, reduceIte, Nat.reduceEqDiff, Bool.not_true, Bool.not_false, *]
         · simp only [ev]; rfl
         first
         | (· with_reducible exact Ty.ok23
            rotate_left 2
            refine hk_tag 23 ?_
            rotate_right 2)
         | (· with_reducible exact Ty.ok24
            rotate_left 2
            refine hk_tag 24 ?_
            rotate_right 2)
         | (· with_reducible exact Ty.ok25
            rotate_left 2
            refine hk_tag 25 ?_
            rotate_right 2)
         | (· with_reducible exact Ty.ok26
            rotate_left 2
            refine hk_tag 26 ?_
            rotate_right 2)
         | (· with_reducible exact Ty.ok27
            rotate_left 2
            refine hk_tag 27 ?_
            rotate_right 2)
         )
      | (refine xr_do (v := ?_) (h' := ?_) (by exact rfl) ?_ ?_; rotate_left 2)
      | (refine xr_st (v := ?_) (h' := ?_) (by exact rfl) ?_ ?_; rotate_left 2)
      | (refine xr_gdo (v := ?_) (h' := ?_) (by exact rfl) (by exact rfl) ?_ ?_ ?_
         rotate_left 2
         · simp only [ev, put_some, reduceIte, Nat.reduceEqDiff, Bool.not_true, Bool.not_false, *])
      | (refine xr_gst (v := ?_) (h' := ?_) (by exact rfl) (by exact rfl) ?_ ?_ ?_
         rotate_left 2
         · simp only [ev, put_some, reduceIte, Nat.reduceEqDiff, Bool.not_true, Bool.not_false, *])
      | (refine xr_goff (by exact rfl) ?_ ?_
         · simp only [ev, put_some, reduceIte, Nat.reduceEqDiff, Bool.not_true, Bool.not_false, *])
      | (refine xr_gsoff (by exact rfl) ?_ ?_
         · simp only [ev, put_some, reduceIte, Nat.reduceEqDiff, Bool.not_true, Bool.not_false, *])
      | (refine xr_gund (by exact rfl) ?_ ?_
         · simp only [ev, put_some, reduceIte, Nat.reduceEqDiff, Bool.not_true, Bool.not_false, *])
      | (refine xr_gsund (by exact rfl) ?_ ?_
         · simp only [ev, put_some, reduceIte, Nat.reduceEqDiff, Bool.not_true, Bool.not_false, *])
      | (refine xr_gif (b := ?_) (by exact rfl) ?_ (fun hb => ?_) (fun hb => ?_)
         rotate_left 1
         · simp only [ev, put_some, reduceIte, Nat.reduceEqDiff, Bool.not_true, Bool.not_false, *]; rfl)
      | (refine aw_ift (by decide) ?_ ?_
         · simp only [ev, put_some, reduceIte, Nat.reduceEqDiff, *])
      | (refine aw_iff (by decide) ?_ ?_
         · simp only [ev, put_some, reduceIte, Nat.reduceEqDiff, *])
      | (refine aw_if (b := ?_) (by decide) ?_ (fun hb => ?_) (fun hb => ?_)
         rotate_left 1
         · simp only [ev, put_some, reduceIte, Nat.reduceEqDiff, *]; rfl)
      | (refine r_ret (vs := ?_) ?_ ?_
         rotate_left 1
         · simp only [resV, ev, put_some, reduceIte, Nat.reduceEqDiff, Option.map_some, *]; rfl)
      | (with_reducible refine specReadFrames_ok _ _ ?_
         · first | omega | (simp only [List.length_nil]; omega)
         )
      | (with_reducible refine implReadFrames_ok _ _ ?_
         · first | omega | (simp only [List.length_nil]; omega)
         )
      | (with_reducible refine eqStringS_ok ?_ ?_ _ _ _ ?_ ?_ ?_ ?_
         rotate_left 2
         · first | assumption | exact Sl.old (by assumption) _ | ((try (simp only [mset_some, mset_none, set_at, set_at0, List.set_cons_succ, List.set_cons_zero, List.append_assoc, List.cons_append, List.nil_append, List.length_append, List.length_cons, List.length_nil, Nat.zero_add, Nat.add_zero, Nat.reduceAdd, Nat.add_assoc])); first | assumption | exact Sl.old (by assumption) _ | exact Tx.slnil | (refine Tx.slk (Nat.le_refl _) ?_; exact rfl) | (refine Tx.sl0 (Nat.le_refl _) ?_; exact rfl))
         · first | assumption | exact Sl.old (by assumption) _ | ((try (simp only [mset_some, mset_none, set_at, set_at0, List.set_cons_succ, List.set_cons_zero, List.append_assoc, List.cons_append, List.nil_append, List.length_append, List.length_cons, List.length_nil, Nat.zero_add, Nat.add_zero, Nat.reduceAdd, Nat.add_assoc])); first | assumption | exact Sl.old (by assumption) _ | exact Tx.slnil | (refine Tx.slk (Nat.le_refl _) ?_; exact rfl) | (refine Tx.sl0 (Nat.le_refl _) ?_; exact rfl))
         · grind
         · grind
         )
      | (with_reducible refine markString1 ?_ ?_ _ _ ?_ ?_
         rotate_left 2
         · first | assumption | exact Own.old (by assumption) _ | ((try (simp only [mset_some, mset_none, set_at, set_at0, List.set_cons_succ, List.set_cons_zero, List.append_assoc, List.cons_append, List.nil_append, List.length_append, List.length_cons, List.length_nil, Nat.zero_add, Nat.add_zero, Nat.reduceAdd, Nat.add_assoc])); first | assumption | exact Own.old (by assumption) _ | exact Own.nil _ | (refine Own.at ?_ ?_ (Nat.le_refl _); (exact rfl); first | exact Tx.flen _ | exact Tx.mlen _ _ | (simp only [marksC_length]; done) | (simp only [marksC_length]; omega)) | (refine Own.at0 ?_ ?_ (Nat.le_refl _); (exact rfl); first | exact Tx.flen _ | exact Tx.mlen _ _ | (simp only [marksC_length]; done) | (simp only [marksC_length]; omega)))
         · first | omega | (simp only [List.length_nil]; omega)
         )
      | (with_reducible refine heldString1 ?_ _ _ ?_ ?_
         rotate_left 1
         · first | assumption | exact Own.old (by assumption) _ | ((try (simp only [mset_some, mset_none, set_at, set_at0, List.set_cons_succ, List.set_cons_zero, List.append_assoc, List.cons_append, List.nil_append, List.length_append, List.length_cons, List.length_nil, Nat.zero_add, Nat.add_zero, Nat.reduceAdd, Nat.add_assoc])); first | assumption | exact Own.old (by assumption) _ | exact Own.nil _ | (refine Own.at ?_ ?_ (Nat.le_refl _); (exact rfl); first | exact Tx.flen _ | exact Tx.mlen _ _ | (simp only [marksC_length]; done) | (simp only [marksC_length]; omega)) | (refine Own.at0 ?_ ?_ (Nat.le_refl _); (exact rfl); first | exact Tx.flen _ | exact Tx.mlen _ _ | (simp only [marksC_length]; done) | (simp only [marksC_length]; omega)))
         · first | omega | (simp only [List.length_nil]; omega)
         )
      | ((with_reducible refine HkTag.mk (n := 23) ?_); rintro _ _ ⟨rfl, hh⟩; replace hh := hh.symm; subst hh)
      | ((with_reducible refine HkTag.mk (n := 24) ?_); rintro _ _ ⟨rfl, hh⟩; replace hh := hh.symm; subst hh)
      | ((with_reducible refine HkTag.mk (n := 25) ?_); rintro _ _ ⟨rfl, hh⟩; replace hh := hh.symm; subst hh)
      | ((with_reducible refine HkTag.mk (n := 26) ?_); rintro _ _ ⟨rfl, hh⟩; replace hh := hh.symm; subst hh)
      | ((with_reducible refine HkTag.mk (n := 27) ?_); rintro _ _ ⟨rfl, hh⟩; replace hh := hh.symm; subst hh)
      )
    rfl
  have h1' : ¬ (1048576 : Int) < s.size := by omega
  have hlen : (rfR s).1.length ≤ 99 := by
    unfold rfR
    split
    · simp
    · have := (rdF_len s 99 0 [] (Nat.zero_le _)).1
      simpa using this
  generalize hrr : rfR s = r at hlen
  obtain ⟨a, e⟩ := r
  simp only at hlen
  by_cases h0 : a.length = 0
  · obtain rfl := List.length_eq_zero_iff.1 h0
    refine acalls_fn Tryd.func6 rfl Tryd.ntmps6 (by simp) (by dsimp only [Tryd.f6]) ?_
    repeat' (first
      | ((with_reducible refine eq_go ?_); simp only [stp, ev, put_some, put_none, argT_list, List.getD_cons_zero, List.getD_cons_succ, reduceIte, Nat.reduceEqDiff, Option.map_some, Array.map_empty, List.map_toArray, List.map_cons, List.map_nil, List.append_toArray, Array.append_empty, Array.empty_append, List.nil_append, List.append_nil, and_self, if_true, decide_true, decide_false, Int.toNat_natCast, Int.natCast_nonneg, List.length_map, binV_add, binV_sub, binV_and, binV_shr, binV_shl, binV_str_eql, binV_str_neq, binV_mul, binV_eql, binV_neq, binV_lss, binV_leq, binV_gtr, binV_geq, unV_not, Bool.not_true, Bool.not_false, Bool.cond_true, Bool.cond_false, binV_bool_neq, binV_bool_eql, Ty.un4, List.getElem?_toArray, List.getElem?_cons_zero, List.getElem?_cons_succ, blt, lenV, List.size_toArray, List.length_cons, List.length_nil, Nat.zero_add, Array.getD_eq_getD_getElem?, List.getElem?_toArray, List.getElem?_cons_zero, List.getElem?_cons_succ, Option.getD_some, Option.isSome_some, Ty.ld3, Ty.sz3, Ty.zc3, Ty.by3, Ty.ld4, Ty.sz4, Ty.zc4, Ty.by4, Ty.ld9, Ty.sz9, Ty.st9, Ty.zc9, Ty.by9, Ty.ld40, Ty.sz40, Ty.sl40, Ty.zc40, Ty.by40, rfV, rfL, cV, cL, *]; rfl)
      | (with_reducible refine aw_then ?_) | (with_reducible refine aw_skip ?_) | (with_reducible refine aw_ret ?_) | (with_reducible refine aw_exit ?_) | (with_reducible refine aw_block ?_) | (with_reducible refine xr_reg (by decide +kernel) ?_)
      | (with_reducible refine xr_nil ?_) | (with_reducible refine k_norm ?_) | (with_reducible refine k_ret ?_) | (with_reducible refine k_exit ?_) | (with_reducible refine b_norm ?_) | (with_reducible refine b_ret ?_) | (with_reducible refine b_exit ?_) | (with_reducible refine b_past (by decide) ?_)
      | (refine xr_cl (f := ?_) (fs := ?_) (cs := ?_) (args := ?_) (K := ?_) ?_ ?_ ?_ ?_ ?_
         rotate_left 5
         · simp only [ev]; rfl
         first
         | (· with_reducible exact Ty.ok23
            rotate_left 2
            refine hk_tag 23 ?_
            rotate_right 2)
         | (· with_reducible exact Ty.ok24
            rotate_left 2
            refine hk_tag 24 ?_
            rotate_right 2)
         | (· with_reducible exact Ty.ok25
            rotate_left 2
            refine hk_tag 25 ?_
            rotate_right 2)
         | (· with_reducible exact Ty.ok26
            rotate_left 2
            refine hk_tag 26 ?_
            rotate_right 2)
         | (· with_reducible exact Ty.ok27
            rotate_left 2
            refine hk_tag 27 ?_
            rotate_right 2)
         )
      | (refine xr_gcl (f := ?_) (fs := ?_) (cs := ?_) (args := ?_) (K := ?_) (by exact rfl) ?_ ?_ ?_ ?_ ?_ ?_
         rotate_left 5
         · simp only [ev, put_some, reduceIte, Nat.reduceEqDiff, Bool.not_true, Bool.not_false, *]
         · simp only [ev]; rfl
         first
         | (· with_reducible exact Ty.ok23
            rotate_left 2
            refine hk_tag 23 ?_
            rotate_right 2)
         | (· with_reducible exact Ty.ok24
            rotate_left 2
            refine hk_tag 24 ?_
            rotate_right 2)
         | (· with_reducible exact Ty.ok25
            rotate_left 2
            refine hk_tag 25 ?_
            rotate_right 2)
         | (· with_reducible exact Ty.ok26
            rotate_left 2
            refine hk_tag 26 ?_
            rotate_right 2)
         | (· with_reducible exact Ty.ok27
            rotate_left 2
            refine hk_tag 27 ?_
            rotate_right 2)
         )
      | (refine xr_do (v := ?_) (h' := ?_) (by exact rfl) ?_ ?_; rotate_left 2)
      | (refine xr_st (v := ?_) (h' := ?_) (by exact rfl) ?_ ?_; rotate_left 2)
      | (refine xr_gdo (v := ?_) (h' := ?_) (by exact rfl) (by exact rfl) ?_ ?_ ?_
         rotate_left 2
         · simp only [ev, put_some, reduceIte, Nat.reduceEqDiff, Bool.not_true, Bool.not_false, *])
      | (refine xr_gst (v := ?_) (h' := ?_) (by exact rfl) (by exact rfl) ?_ ?_ ?_
         rotate_left 2
         · simp only [ev, put_some, reduceIte, Nat.reduceEqDiff, Bool.not_true, Bool.not_false, *])
      | (refine xr_goff (by exact rfl) ?_ ?_
         · simp only [ev, put_some, reduceIte, Nat.reduceEqDiff, Bool.not_true, Bool.not_false, *])
      | (refine xr_gsoff (by exact rfl) ?_ ?_
         · simp only [ev, put_some, reduceIte, Nat.reduceEqDiff, Bool.not_true, Bool.not_false, *])
      | (refine xr_gund (by exact rfl) ?_ ?_
         · simp only [ev, put_some, reduceIte, Nat.reduceEqDiff, Bool.not_true, Bool.not_false, *])
      | (refine xr_gsund (by exact rfl) ?_ ?_
         · simp only [ev, put_some, reduceIte, Nat.reduceEqDiff, Bool.not_true, Bool.not_false, *])
      | (refine xr_gif (b := ?_) (by exact rfl) ?_ (fun hb => ?_) (fun hb => ?_)
         rotate_left 1
         · simp only [ev, put_some, reduceIte, Nat.reduceEqDiff, Bool.not_true, Bool.not_false, *]; rfl)
      | (refine aw_ift (by decide) ?_ ?_
         · simp only [ev, put_some, reduceIte, Nat.reduceEqDiff, *])
      | (refine aw_iff (by decide) ?_ ?_
         · simp only [ev, put_some, reduceIte, Nat.reduceEqDiff, *])
      | (refine aw_if (b := ?_) (by decide) ?_ (fun hb => ?_) (fun hb => ?_)
         rotate_left 1
         · simp only [ev, put_some, reduceIte, Nat.reduceEqDiff, *]; rfl)
      | (refine r_ret (vs := ?_) ?_ ?_
         rotate_left 1
         · simp only [resV, ev, put_some, reduceIte, Nat.reduceEqDiff, Option.map_some, *]; rfl)
      | (with_reducible refine specReadFrames_ok _ _ ?_
         · first | omega | (simp only [List.length_nil]; omega)
         )
      | (with_reducible refine implReadFrames_ok _ _ ?_
         · first | omega | (simp only [List.length_nil]; omega)
         )
      | (with_reducible refine eqStringS_ok ?_ ?_ _ _ _ ?_ ?_ ?_ ?_
         rotate_left 2
         · first | assumption | exact Sl.old (by assumption) _ | ((try (simp only [mset_some, mset_none, set_at, set_at0, List.set_cons_succ, List.set_cons_zero, List.append_assoc, List.cons_append, List.nil_append, List.length_append, List.length_cons, List.length_nil, Nat.zero_add, Nat.add_zero, Nat.reduceAdd, Nat.add_assoc])); first | assumption | exact Sl.old (by assumption) _ | exact Tx.slnil | (refine Tx.slk (Nat.le_refl _) ?_; exact rfl) | (refine Tx.sl0 (Nat.le_refl _) ?_; exact rfl))
         · first | assumption | exact Sl.old (by assumption) _ | ((try (simp only [mset_some, mset_none, set_at, set_at0, List.set_cons_succ, List.set_cons_zero, List.append_assoc, List.cons_append, List.nil_append, List.length_append, List.length_cons, List.length_nil, Nat.zero_add, Nat.add_zero, Nat.reduceAdd, Nat.add_assoc])); first | assumption | exact Sl.old (by assumption) _ | exact Tx.slnil | (refine Tx.slk (Nat.le_refl _) ?_; exact rfl) | (refine Tx.sl0 (Nat.le_refl _) ?_; exact rfl))
         · grind
         · grind
         )
      | (with_reducible refine markString1 ?_ ?_ _ _ ?_ ?_
         rotate_left 2
         · first | assumption | exact Own.old (by assumption) _ | ((try (simp only [mset_some, mset_none, set_at, set_at0, List.set_cons_succ, List.set_cons_zero, List.append_assoc, List.cons_append, List.nil_append, List.length_append, List.length_cons, List.length_nil, Nat.zero_add, Nat.add_zero, Nat.reduceAdd, Nat.add_assoc])); first | assumption | exact Own.old (by assumption) _ | exact Own.nil _ | (refine Own.at ?_ ?_ (Nat.le_refl _); (exact rfl); first | exact Tx.flen _ | exact Tx.mlen _ _ | (simp only [marksC_length]; done) | (simp only [marksC_length]; omega)) | (refine Own.at0 ?_ ?_ (Nat.le_refl _); (exact rfl); first | exact Tx.flen _ | exact Tx.mlen _ _ | (simp only [marksC_length]; done) | (simp only [marksC_length]; omega)))
         · first | omega | (simp only [List.length_nil]; omega)
         )
      | (with_reducible refine heldString1 ?_ _ _ ?_ ?_
         rotate_left 1
         · first | assumption | exact Own.old (by assumption) _ | ((try (simp only [mset_some, mset_none, set_at, set_at0, List.set_cons_succ, List.set_cons_zero, List.append_assoc, List.cons_append, List.nil_append, List.length_append, List.length_cons, List.length_nil, Nat.zero_add, Nat.add_zero, Nat.reduceAdd, Nat.add_assoc])); first | assumption | exact Own.old (by assumption) _ | exact Own.nil _ | (refine Own.at ?_ ?_ (Nat.le_refl _); (exact rfl); first | exact Tx.flen _ | exact Tx.mlen _ _ | (simp only [marksC_length]; done) | (simp only [marksC_length]; omega)) | (refine Own.at0 ?_ ?_ (Nat.le_refl _); (exact rfl); first | exact Tx.flen _ | exact Tx.mlen _ _ | (simp only [marksC_length]; done) | (simp only [marksC_length]; omega)))
         · first | omega | (simp only [List.length_nil]; omega)
         )
      | ((with_reducible refine HkTag.mk (n := 23) ?_); rintro _ _ ⟨rfl, hh⟩; replace hh := hh.symm; subst hh)
      | ((with_reducible refine HkTag.mk (n := 24) ?_); rintro _ _ ⟨rfl, hh⟩; replace hh := hh.symm; subst hh)
      | ((with_reducible refine HkTag.mk (n := 25) ?_); rintro _ _ ⟨rfl, hh⟩; replace hh := hh.symm; subst hh)
      | ((with_reducible refine HkTag.mk (n := 26) ?_); rintro _ _ ⟨rfl, hh⟩; replace hh := hh.symm; subst hh)
      | ((with_reducible refine HkTag.mk (n := 27) ?_); rintro _ _ ⟨rfl, hh⟩; replace hh := hh.symm; subst hh)
      )
    all_goals first | rfl | (exfalso; simp at hb; done) | (exfalso; simp at hb; omega) | (exfalso; rename_i hb1; simp at hb1; done) | (exfalso; simp_all; done)
  · refine acalls_fn Tryd.func6 rfl Tryd.ntmps6 (by simp) (by dsimp only [Tryd.f6]) ?_
    repeat' (first
      | ((with_reducible refine eq_go ?_); simp only [stp, ev, put_some, put_none, argT_list, List.getD_cons_zero, List.getD_cons_succ, reduceIte, Nat.reduceEqDiff, Option.map_some, Array.map_empty, List.map_toArray, List.map_cons, List.map_nil, List.append_toArray, Array.append_empty, Array.empty_append, List.nil_append, List.append_nil, and_self, if_true, decide_true, decide_false, Int.toNat_natCast, Int.natCast_nonneg, List.length_map, binV_add, binV_sub, binV_and, binV_shr, binV_shl, binV_str_eql, binV_str_neq, binV_mul, binV_eql, binV_neq, binV_lss, binV_leq, binV_gtr, binV_geq, unV_not, Bool.not_true, Bool.not_false, Bool.cond_true, Bool.cond_false, binV_bool_neq, binV_bool_eql, Ty.un4, List.getElem?_toArray, List.getElem?_cons_zero, List.getElem?_cons_succ, blt, lenV, List.size_toArray, List.length_cons, List.length_nil, Nat.zero_add, Array.getD_eq_getD_getElem?, List.getElem?_toArray, List.getElem?_cons_zero, List.getElem?_cons_succ, Option.getD_some, Option.isSome_some, Ty.ld3, Ty.sz3, Ty.zc3, Ty.by3, Ty.ld4, Ty.sz4, Ty.zc4, Ty.by4, Ty.ld9, Ty.sz9, Ty.st9, Ty.zc9, Ty.by9, Ty.ld40, Ty.sz40, Ty.sl40, Ty.zc40, Ty.by40, rfV, rfL, cV, cL, *]; rfl)
      | (with_reducible refine aw_then ?_) | (with_reducible refine aw_skip ?_) | (with_reducible refine aw_ret ?_) | (with_reducible refine aw_exit ?_) | (with_reducible refine aw_block ?_) | (with_reducible refine xr_reg (by decide +kernel) ?_)
      | (with_reducible refine xr_nil ?_) | (with_reducible refine k_norm ?_) | (with_reducible refine k_ret ?_) | (with_reducible refine k_exit ?_) | (with_reducible refine b_norm ?_) | (with_reducible refine b_ret ?_) | (with_reducible refine b_exit ?_) | (with_reducible refine b_past (by decide) ?_)
      | (refine xr_cl (f := ?_) (fs := ?_) (cs := ?_) (args := ?_) (K := ?_) ?_ ?_ ?_ ?_ ?_
         rotate_left 5
         · simp only [ev]; rfl
         first
         | (· with_reducible exact Ty.ok23
            rotate_left 2
            refine hk_tag 23 ?_
            rotate_right 2)
         | (· with_reducible exact Ty.ok24
            rotate_left 2
            refine hk_tag 24 ?_
            rotate_right 2)
         | (· with_reducible exact Ty.ok25
            rotate_left 2
            refine hk_tag 25 ?_
            rotate_right 2)
         | (· with_reducible exact Ty.ok26
            rotate_left 2
            refine hk_tag 26 ?_
            rotate_right 2)
         | (· with_reducible exact Ty.ok27
            rotate_left 2
            refine hk_tag 27 ?_
            rotate_right 2)
         )
      | (refine xr_gcl (f := ?_) (fs := ?_) (cs := ?_) (args := ?_) (K := ?_) (by exact rfl) ?_ ?_ ?_ ?_ ?_ ?_
         rotate_left 5
         · simp only [ev, put_some, reduceIte, Nat.reduceEqDiff, Bool.not_true, Bool.not_false, *]
         · simp only [ev]; rfl
         first
         | (· with_reducible exact Ty.ok23
            rotate_left 2
            refine hk_tag 23 ?_
            rotate_right 2)
         | (· with_reducible exact Ty.ok24
            rotate_left 2
            refine hk_tag 24 ?_
            rotate_right 2)
         | (· with_reducible exact Ty.ok25
            rotate_left 2
            refine hk_tag 25 ?_
            rotate_right 2)
         | (· with_reducible exact Ty.ok26
            rotate_left 2
            refine hk_tag 26 ?_
            rotate_right 2)
         | (· with_reducible exact Ty.ok27
            rotate_left 2
            refine hk_tag 27 ?_
            rotate_right 2)
         )
      | (refine xr_do (v := ?_) (h' := ?_) (by exact rfl) ?_ ?_; rotate_left 2)
      | (refine xr_st (v := ?_) (h' := ?_) (by exact rfl) ?_ ?_; rotate_left 2)
      | (refine xr_gdo (v := ?_) (h' := ?_) (by exact rfl) (by exact rfl) ?_ ?_ ?_
         rotate_left 2
         · simp only [ev, put_some, reduceIte, Nat.reduceEqDiff, Bool.not_true, Bool.not_false, *])
      | (refine xr_gst (v := ?_) (h' := ?_) (by exact rfl) (by exact rfl) ?_ ?_ ?_
         rotate_left 2
         · simp only [ev, put_some, reduceIte, Nat.reduceEqDiff, Bool.not_true, Bool.not_false, *])
      | (refine xr_goff (by exact rfl) ?_ ?_
         · simp only [ev, put_some, reduceIte, Nat.reduceEqDiff, Bool.not_true, Bool.not_false, *])
      | (refine xr_gsoff (by exact rfl) ?_ ?_
         · simp only [ev, put_some, reduceIte, Nat.reduceEqDiff, Bool.not_true, Bool.not_false, *])
      | (refine xr_gund (by exact rfl) ?_ ?_
         · simp only [ev, put_some, reduceIte, Nat.reduceEqDiff, Bool.not_true, Bool.not_false, *])
      | (refine xr_gsund (by exact rfl) ?_ ?_
         · simp only [ev, put_some, reduceIte, Nat.reduceEqDiff, Bool.not_true, Bool.not_false, *])
      | (refine xr_gif (b := ?_) (by exact rfl) ?_ (fun hb => ?_) (fun hb => ?_)
         rotate_left 1
         · simp only [ev, put_some, reduceIte, Nat.reduceEqDiff, Bool.not_true, Bool.not_false, *]; rfl)
      | (refine aw_ift (by decide) ?_ ?_
         · simp only [ev, put_some, reduceIte, Nat.reduceEqDiff, *])
      | (refine aw_iff (by decide) ?_ ?_
         · simp only [ev, put_some, reduceIte, Nat.reduceEqDiff, *])
      | (refine aw_if (b := ?_) (by decide) ?_ (fun hb => ?_) (fun hb => ?_)
         rotate_left 1
         · simp only [ev, put_some, reduceIte, Nat.reduceEqDiff, *]; rfl)
      | (refine r_ret (vs := ?_) ?_ ?_
         rotate_left 1
         · simp only [resV, ev, put_some, reduceIte, Nat.reduceEqDiff, Option.map_some, *]; rfl)
      | (with_reducible refine specReadFrames_ok _ _ ?_
         · first | omega | (simp only [List.length_nil]; omega)
         )
      | (with_reducible refine implReadFrames_ok _ _ ?_
         · first | omega | (simp only [List.length_nil]; omega)
         )
      | (with_reducible refine eqStringS_ok ?_ ?_ _ _ _ ?_ ?_ ?_ ?_
         rotate_left 2
         · first | assumption | exact Sl.old (by assumption) _ | ((try (simp only [mset_some, mset_none, set_at, set_at0, List.set_cons_succ, List.set_cons_zero, List.append_assoc, List.cons_append, List.nil_append, List.length_append, List.length_cons, List.length_nil, Nat.zero_add, Nat.add_zero, Nat.reduceAdd, Nat.add_assoc])); first | assumption | exact Sl.old (by assumption) _ | exact Tx.slnil | (refine Tx.slk (Nat.le_refl _) ?_; exact rfl) | (refine Tx.sl0 (Nat.le_refl _) ?_; exact rfl))
         · first | assumption | exact Sl.old (by assumption) _ | ((try (simp only [mset_some, mset_none, set_at, set_at0, List.set_cons_succ, List.set_cons_zero, List.append_assoc, List.cons_append, List.nil_append, List.length_append, List.length_cons, List.length_nil, Nat.zero_add, Nat.add_zero, Nat.reduceAdd, Nat.add_assoc])); first | assumption | exact Sl.old (by assumption) _ | exact Tx.slnil | (refine Tx.slk (Nat.le_refl _) ?_; exact rfl) | (refine Tx.sl0 (Nat.le_refl _) ?_; exact rfl))
         · grind
         · grind
         )
      | (with_reducible refine markString1 ?_ ?_ _ _ ?_ ?_
         rotate_left 2
         · first | assumption | exact Own.old (by assumption) _ | ((try (simp only [mset_some, mset_none, set_at, set_at0, List.set_cons_succ, List.set_cons_zero, List.append_assoc, List.cons_append, List.nil_append, List.length_append, List.length_cons, List.length_nil, Nat.zero_add, Nat.add_zero, Nat.reduceAdd, Nat.add_assoc])); first | assumption | exact Own.old (by assumption) _ | exact Own.nil _ | (refine Own.at ?_ ?_ (Nat.le_refl _); (exact rfl); first | exact Tx.flen _ | exact Tx.mlen _ _ | (simp only [marksC_length]; done) | (simp only [marksC_length]; omega)) | (refine Own.at0 ?_ ?_ (Nat.le_refl _); (exact rfl); first | exact Tx.flen _ | exact Tx.mlen _ _ | (simp only [marksC_length]; done) | (simp only [marksC_length]; omega)))
         · first | omega | (simp only [List.length_nil]; omega)
         )
      | (with_reducible refine heldString1 ?_ _ _ ?_ ?_
         rotate_left 1
         · first | assumption | exact Own.old (by assumption) _ | ((try (simp only [mset_some, mset_none, set_at, set_at0, List.set_cons_succ, List.set_cons_zero, List.append_assoc, List.cons_append, List.nil_append, List.length_append, List.length_cons, List.length_nil, Nat.zero_add, Nat.add_zero, Nat.reduceAdd, Nat.add_assoc])); first | assumption | exact Own.old (by assumption) _ | exact Own.nil _ | (refine Own.at ?_ ?_ (Nat.le_refl _); (exact rfl); first | exact Tx.flen _ | exact Tx.mlen _ _ | (simp only [marksC_length]; done) | (simp only [marksC_length]; omega)) | (refine Own.at0 ?_ ?_ (Nat.le_refl _); (exact rfl); first | exact Tx.flen _ | exact Tx.mlen _ _ | (simp only [marksC_length]; done) | (simp only [marksC_length]; omega)))
         · first | omega | (simp only [List.length_nil]; omega)
         )
      | ((with_reducible refine HkTag.mk (n := 23) ?_); rintro _ _ ⟨rfl, hh⟩; replace hh := hh.symm; subst hh)
      | ((with_reducible refine HkTag.mk (n := 24) ?_); rintro _ _ ⟨rfl, hh⟩; replace hh := hh.symm; subst hh)
      | ((with_reducible refine HkTag.mk (n := 25) ?_); rintro _ _ ⟨rfl, hh⟩; replace hh := hh.symm; subst hh)
      | ((with_reducible refine HkTag.mk (n := 26) ?_); rintro _ _ ⟨rfl, hh⟩; replace hh := hh.symm; subst hh)
      | ((with_reducible refine HkTag.mk (n := 27) ?_); rintro _ _ ⟨rfl, hh⟩; replace hh := hh.symm; subst hh)
      )
    all_goals first | rfl | (exfalso; simp at hb; done) | (exfalso; simp at hb; omega) | (exfalso; rename_i hb1; simp at hb1; done) | (exfalso; simp_all; done)
end Go.Proofs.YtkmenomglhddlaaDoor.Am

