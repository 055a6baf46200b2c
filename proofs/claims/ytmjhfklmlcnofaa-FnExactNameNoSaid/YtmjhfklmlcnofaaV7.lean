/- Walks of the laws' helpers: sizes, copies and comparison of lists of numbers and texts. Conditions: none. -/
import Derived.Test.YtmjhfklmlcnofaaK3
import Derived.Test.YtmjhfklmlcnofaaV6
namespace Go.Proofs.Ytmjhfklmlcnofaa.Am
open Go Go.Proofs
set_option linter.unusedVariables false
set_option linter.unusedSimpArgs false
set_option maxRecDepth 100000
set_option maxHeartbeats 8000000
theorem SlA.flat {h : Heap} {v : Value} {e : Nat} {rows : List (List Value)} (hs : SlA h v e rows) : Am.flat v = true := by
  rcases hs with q | ⟨rfl, _⟩
  · exact q.flat
  · rfl
def szM (n : Nat) (left : Int) : Int := if left - n < 0 then -1 else left - n
theorem szM_range {n : Nat} {left : Int} (h0 : 0 ≤ left ∧ left ≤ 1048576) (h : ¬ szM n left < 0) : 0 ≤ szM n left ∧ szM n left ≤ 1048576 ∧ n ≤ 1048576 := by
  unfold szM at h ⊢
  split at h <;> rename_i q
  · omega
  · rw [if_neg q]; omega
theorem szM_neg {n : Nat} {left : Int} (h : szM n left < 0) : szM n left = -1 := by
  unfold szM at h ⊢
  split at h <;> rename_i q
  · rw [if_pos q]
  · exact absurd h q
theorem szIntS_ok (l : List Int) (left : Int) (v : Value) (h : Heap) (hs : SlA h v 1 (ints l)) (hl : l.length ≤ 9223372036854775807) (h0 : 0 ≤ left ∧ left ≤ 1048576) :
    ACalls Try.prog 0 76 #[v, .int .i64 left] h fun v h' => v = .int .i64 (szM l.length left) ∧ h' = h := by
  rcases hs with ⟨b, c, rfl, hc, hrow⟩ | ⟨rfl, hnil⟩
  · rw [ints_length] at *
    clear hrow
    have hw : IntKind.i64.wrap (left - l.length) = left - l.length := wrap_id (by omega)
    refine Z36 Try.func76 rfl Try.ntmps76 (by simp) (by dsimp only [Try.f76]) ?_
    repeat' (first | ((with_reducible refine eq_go ?_); simp only [stp, ev, ZB, reduceIte, Nat.reduceEqDiff, Z2x, Z13, Zy, blt, lenV, Z10, Z3, Z2, Zf, Zg, Ze, Z1, Z0, Z14, Zw, Ty.t3, Ty.t86, *]; rfl) | (with_reducible first | refine aw_then ?_ | refine aw_skip ?_ | refine aw_ret ?_ | refine aw_exit ?_ | refine aw_block ?_ | refine xr_reg (by decide +kernel) ?_ | refine xr_nil ?_ | refine k_norm ?_ | refine k_ret ?_ | refine k_exit ?_ | refine b_norm ?_ | refine b_ret ?_ | refine b_exit ?_ | refine b_past (by decide) ?_) | (refine xr_do (v := ?_) (h' := ?_) (by exact rfl) ?_ ?_; rotate_left 2) | (refine xr_st (v := ?_) (h' := ?_) (by exact rfl) ?_ ?_; rotate_left 2) | (refine aw_c (b := ?_) (by decide) ?_ ?_; rotate_left 1; (· simp only [ev, Zb, reduceIte, Nat.reduceEqDiff, *]; rfl)) | (with_reducible first | refine cw_t ?_ | refine cw_f ?_) | refine cw_if (fun hb => ?_) (fun hb => ?_) | (refine r_ret (vs := ?_) ?_ ?_; rotate_left 1; (· simp only [resV, ev, Zb, reduceIte, Nat.reduceEqDiff, Zj, *]; rfl)))
    all_goals refine ⟨?_, rfl⟩
    all_goals simp only [decide_eq_true_eq, decide_eq_false_iff_not] at hb
    all_goals simp only [oneOf, szM, hb, Z2x, if_false]
  · obtain rfl : l = [] := List.map_eq_nil_iff.1 hnil
    have hw : IntKind.i64.wrap (left - 0) = left := by rw [wrap_id (by omega)]; omega
    have hlt : ¬ left < 0 := by omega
    refine Z36 Try.func76 rfl Try.ntmps76 (by simp) (by dsimp only [Try.f76]) ?_
    repeat' (first | ((with_reducible refine eq_go ?_); simp only [stp, ev, ZB, reduceIte, Nat.reduceEqDiff, Z2x, Z13, Zy, blt, lenV, Z10, Z3, Z2, Zf, Zg, Ze, Z1, Z0, Z14, Zw, Ty.t3, Ty.t86, *]; rfl) | (with_reducible first | refine aw_then ?_ | refine aw_skip ?_ | refine aw_ret ?_ | refine aw_exit ?_ | refine aw_block ?_ | refine xr_reg (by decide +kernel) ?_ | refine xr_nil ?_ | refine k_norm ?_ | refine k_ret ?_ | refine k_exit ?_ | refine b_norm ?_ | refine b_ret ?_ | refine b_exit ?_ | refine b_past (by decide) ?_) | (refine xr_do (v := ?_) (h' := ?_) (by exact rfl) ?_ ?_; rotate_left 2) | (refine xr_st (v := ?_) (h' := ?_) (by exact rfl) ?_ ?_; rotate_left 2) | (refine aw_c (b := ?_) (by decide) ?_ ?_; rotate_left 1; (· simp only [ev, Zb, reduceIte, Nat.reduceEqDiff, *]; rfl)) | (with_reducible first | refine cw_t ?_ | refine cw_f ?_) | refine cw_if (fun hb => ?_) (fun hb => ?_) | (refine r_ret (vs := ?_) ?_ ?_; rotate_left 1; (· simp only [resV, ev, Zb, reduceIte, Nat.reduceEqDiff, Zj, *]; rfl)))
    refine ⟨?_, rfl⟩
    simp only [oneOf, szM, Z2]
    rw [if_neg (by simp; omega)]; simp
theorem toIntS_ok (l : List Int) (v : Value) (h : Heap) (hs : SlA h v 1 (ints l)) (hl : l.length ≤ 1048576) :
    ACalls Try.prog 0 82 #[v] h fun v h' => v = .slice (some ⟨h.length, 0, none⟩) l.length l.length ∧ h' = h ++ [⟨2, 1, (ints l).flatten⟩] := by
  rcases hs with ⟨b, c, rfl, hc, hrow⟩ | ⟨rfl, hnil⟩
  · rw [ints_length] at *
    have hmk : mkS Try.prog 86 h (.int .i64 l.length) (.int .i64 l.length) = _ := mkS_eq Ty.sl86 Ty.zc3 Ty.by3 (n := l.length) (by omega) (by omega)
    refine Z36 Try.func82 rfl Try.ntmps82 (by simp) (by dsimp only [Try.f82]) ?_
    repeat' (first | ((with_reducible refine eq_go ?_); simp only [stp, ev, ZB, reduceIte, Nat.reduceEqDiff, Z2x, Z13, Zy, ldv, stv, vcs, idxA, blt, lenV, Z10, ZH, Zg, Ze, Z14, Zw, Z33, Nat.reduceAdd, Nat.reduceMul, Nat.reduceLeDiff, splice, newB, Ty.t3, Ty.t86, *]; rfl) | (with_reducible first | refine aw_then ?_ | refine aw_skip ?_ | refine aw_ret ?_ | refine aw_exit ?_ | refine aw_block ?_ | refine xr_reg (by decide +kernel) ?_ | refine xr_nil ?_ | refine k_norm ?_ | refine k_ret ?_ | refine k_exit ?_ | refine b_norm ?_ | refine b_ret ?_ | refine b_exit ?_ | refine b_past (by decide) ?_) | (refine xr_do (v := ?_) (h' := ?_) (by exact rfl) ?_ ?_; rotate_left 2) | (refine xr_st (v := ?_) (h' := ?_) (by exact rfl) ?_ ?_; rotate_left 2) | (refine aw_c (b := ?_) (by decide) ?_ ?_; rotate_left 1; (· simp only [ev, Zb, reduceIte, Nat.reduceEqDiff, *]; rfl)) | (with_reducible first | refine cw_t ?_ | refine cw_f ?_) | refine cw_if (fun hb => ?_) (fun hb => ?_) | (refine r_ret (vs := ?_) ?_ ?_; rotate_left 1; (· simp only [resV, ev, Zb, reduceIte, Nat.reduceEqDiff, Zj, *]; rfl)))
    refine aw_for [0, 3] (fun k T h' => h' = h ++ [⟨2, 1, fill [.int .i64 0] (ints l) k⟩] ∧ T 4 = .int .i64 k) l.length (k0 := 0) (Nat.zero_le _) ⟨?_, rfl⟩ ?_
    · rw [fill_zero, ints_length]; try rfl
    rintro k T h' hk hR ⟨rfl, h11⟩
    simp only [Z37, Z38, Z39, implies_true, and_true, stp, ev, ZB, reduceIte, Nat.reduceEqDiff, Z2x, Z13, Zy] at hR
    rcases Nat.lt_or_ge k l.length with hkn | hkn
    · have h1 : (k : Int) < l.length := by omega
      obtain ⟨a, rfl, hld0⟩ := Sl.row hrow (k := k) (by rw [ints_length]; exact hkn)
      have hset := fill_set (z := [.int .i64 0]) (h := []) (ints_len l) rfl (k := k) (by rw [ints_length]; exact hkn)
      simp only [ints, List.getElem_map] at hld0 hset
      have hg := getC_old (getC_of_load hld0)
      clear hrow
      repeat' (first | ((with_reducible refine eq_go ?_); simp only [stp, ev, ZB, reduceIte, Nat.reduceEqDiff, Z2x, Z13, Zy, ldv, stv, vcs, idxA, blt, lenV, Z10, ZH, Zg, Ze, Z14, Zw, Z33, Nat.reduceAdd, Nat.reduceMul, Nat.reduceLeDiff, splice, newB, Ty.t3, Ty.t86, ints, *]; rfl) | (with_reducible first | refine aw_then ?_ | refine aw_skip ?_ | refine aw_ret ?_ | refine aw_exit ?_ | refine aw_block ?_ | refine xr_reg (by decide +kernel) ?_ | refine xr_nil ?_ | refine k_norm ?_ | refine k_ret ?_ | refine k_exit ?_ | refine b_norm ?_ | refine b_ret ?_ | refine b_exit ?_ | refine b_past (by decide) ?_) | (refine xr_do (v := ?_) (h' := ?_) (by exact rfl) ?_ ?_; rotate_left 2) | (refine xr_st (v := ?_) (h' := ?_) (by exact rfl) ?_ ?_; rotate_left 2) | (refine aw_c (b := ?_) (by decide) ?_ ?_; rotate_left 1; (· simp only [ev, Zb, reduceIte, Nat.reduceEqDiff, *]; rfl)) | (with_reducible first | refine cw_t ?_ | refine cw_f ?_) | refine cw_if (fun hb => ?_) (fun hb => ?_) | (refine r_ret (vs := ?_) ?_ ?_; rotate_left 1; (· simp only [resV, ev, Zb, reduceIte, Nat.reduceEqDiff, Zj, *]; rfl)))
      refine ⟨by first | assumption | omega, ?_, ?_⟩
      · simp only [Z37, Z38, Z39, implies_true, and_true, ZB, stp, ev, reduceIte, Nat.reduceEqDiff, Z2x, Z13, Zy, *]
      refine ⟨rfl, ?_⟩
      simp only [Zb, reduceIte, Nat.reduceEqDiff]
      rw [wrap_id (by omega)]; rfl
    · have h1 : ¬ (k : Int) < l.length := by omega
      clear hrow
      repeat' (first | ((with_reducible refine eq_go ?_); simp only [stp, ev, ZB, reduceIte, Nat.reduceEqDiff, Z2x, Z13, Zy, ldv, stv, vcs, idxA, blt, lenV, Z10, ZH, Zg, Ze, Z14, Zw, Z33, Nat.reduceAdd, Nat.reduceMul, Nat.reduceLeDiff, splice, newB, Ty.t3, Ty.t86, *]; rfl) | (with_reducible first | refine aw_then ?_ | refine aw_skip ?_ | refine aw_ret ?_ | refine aw_exit ?_ | refine aw_block ?_ | refine xr_reg (by decide +kernel) ?_ | refine xr_nil ?_ | refine k_norm ?_ | refine k_ret ?_ | refine k_exit ?_ | refine b_norm ?_ | refine b_ret ?_ | refine b_exit ?_ | refine b_past (by decide) ?_) | (refine xr_do (v := ?_) (h' := ?_) (by exact rfl) ?_ ?_; rotate_left 2) | (refine xr_st (v := ?_) (h' := ?_) (by exact rfl) ?_ ?_; rotate_left 2) | (refine aw_c (b := ?_) (by decide) ?_ ?_; rotate_left 1; (· simp only [ev, Zb, reduceIte, Nat.reduceEqDiff, *]; rfl)) | (with_reducible first | refine cw_t ?_ | refine cw_f ?_) | refine cw_if (fun hb => ?_) (fun hb => ?_) | (refine r_ret (vs := ?_) ?_ ?_; rotate_left 1; (· simp only [resV, ev, Zb, reduceIte, Nat.reduceEqDiff, Zj, *]; rfl)))
      rw [fill_all _ _ (by rw [ints_length]; exact hkn)]
      exact ⟨rfl, rfl⟩
  · obtain rfl : l = [] := List.map_eq_nil_iff.1 hnil
    have hmk : mkS Try.prog 86 h (.int .i64 0) (.int .i64 0) = _ := mkS_eq Ty.sl86 Ty.zc3 Ty.by3 (n := 0) (by omega) (by omega)
    have hze : zeros [Value.int .i64 0] 0 = [] := rfl
    refine Z36 Try.func82 rfl Try.ntmps82 (by simp) (by dsimp only [Try.f82]) ?_
    repeat' (first | ((with_reducible refine eq_go ?_); simp only [stp, ev, ZB, reduceIte, Nat.reduceEqDiff, Z2x, Z13, Zy, ldv, stv, vcs, idxA, blt, lenV, Z10, ZH, Zg, Ze, Z14, Zw, Z33, Nat.reduceAdd, Nat.reduceMul, Nat.reduceLeDiff, splice, newB, Ty.t3, Ty.t86, *]; rfl) | (with_reducible first | refine aw_then ?_ | refine aw_skip ?_ | refine aw_ret ?_ | refine aw_exit ?_ | refine aw_block ?_ | refine xr_reg (by decide +kernel) ?_ | refine xr_nil ?_ | refine k_norm ?_ | refine k_ret ?_ | refine k_exit ?_ | refine b_norm ?_ | refine b_ret ?_ | refine b_exit ?_ | refine b_past (by decide) ?_) | (refine xr_do (v := ?_) (h' := ?_) (by exact rfl) ?_ ?_; rotate_left 2) | (refine xr_st (v := ?_) (h' := ?_) (by exact rfl) ?_ ?_; rotate_left 2) | (refine aw_c (b := ?_) (by decide) ?_ ?_; rotate_left 1; (· simp only [ev, Zb, reduceIte, Nat.reduceEqDiff, *]; rfl)) | (with_reducible first | refine cw_t ?_ | refine cw_f ?_) | refine cw_if (fun hb => ?_) (fun hb => ?_) | (refine r_ret (vs := ?_) ?_ ?_; rotate_left 1; (· simp only [resV, ev, Zb, reduceIte, Nat.reduceEqDiff, Zj, *]; rfl)))
    refine aw_for [0, 3] (fun k T h' => h' = h ++ [⟨2, 1, []⟩] ∧ T 4 = .int .i64 0) 0 (k0 := 0) (Nat.zero_le _) ⟨rfl, rfl⟩ ?_
    rintro k T h' hk hR ⟨rfl, h11⟩
    simp only [Z37, Z38, Z39, implies_true, and_true, stp, ev, ZB, reduceIte, Nat.reduceEqDiff, Z2x, Z13, Zy] at hR
    have h1 : decide ((0 : Int) < 0) = false := rfl
    repeat' (first | ((with_reducible refine eq_go ?_); simp only [stp, ev, ZB, reduceIte, Nat.reduceEqDiff, Z2x, Z13, Zy, ldv, stv, vcs, idxA, blt, lenV, Z10, ZH, Zg, Ze, Z14, Zw, Z33, Nat.reduceAdd, Nat.reduceMul, Nat.reduceLeDiff, splice, newB, Ty.t3, Ty.t86, *]; rfl) | (with_reducible first | refine aw_then ?_ | refine aw_skip ?_ | refine aw_ret ?_ | refine aw_exit ?_ | refine aw_block ?_ | refine xr_reg (by decide +kernel) ?_ | refine xr_nil ?_ | refine k_norm ?_ | refine k_ret ?_ | refine k_exit ?_ | refine b_norm ?_ | refine b_ret ?_ | refine b_exit ?_ | refine b_past (by decide) ?_) | (refine xr_do (v := ?_) (h' := ?_) (by exact rfl) ?_ ?_; rotate_left 2) | (refine xr_st (v := ?_) (h' := ?_) (by exact rfl) ?_ ?_; rotate_left 2) | (refine aw_c (b := ?_) (by decide) ?_ ?_; rotate_left 1; (· simp only [ev, Zb, reduceIte, Nat.reduceEqDiff, *]; rfl)) | (with_reducible first | refine cw_t ?_ | refine cw_f ?_) | refine cw_if (fun hb => ?_) (fun hb => ?_) | (refine r_ret (vs := ?_) ?_ ?_; rotate_left 1; (· simp only [resV, ev, Zb, reduceIte, Nat.reduceEqDiff, Zj, *]; rfl)))
    exact ⟨rfl, rfl⟩
theorem take_ne {α : Type} {l1 l2 : List α} {k : Nat} (h1 : k < l1.length) (h2 : k < l2.length) (h : l1[k] ≠ l2[k]) : l1 ≠ l2 := by
  rintro rfl; exact h rfl
theorem take_snoc {α : Type} {l1 l2 : List α} {k : Nat} (h1 : k < l1.length) (h2 : k < l2.length) (ht : l1.take k = l2.take k) (h : l1[k] = l2[k]) : l1.take (k + 1) = l2.take (k + 1) := by
  rw [← List.take_append_getElem h1, ← List.take_append_getElem h2, ht, h]
theorem eqIntS_ok (l1 l2 : List Int) (v1 v2 : Value) (h : Heap) (hs1 : Sl h v1 1 (ints l1)) (hs2 : Sl h v2 1 (ints l2)) (hl1 : l1.length ≤ 1048576) (hl2 : l2.length ≤ 1048576) :
    ACalls Try.prog 0 91 #[v1, v2] h fun v h' => v = .bool (decide (l1 = l2)) ∧ h' = h := by
  obtain ⟨b1, c1, rfl, hc1, hrow1⟩ := hs1
  obtain ⟨b2, c2, rfl, hc2, hrow2⟩ := hs2
  simp only [ints_length] at *
  by_cases hle : l1.length = l2.length
  · have hd : decide ((l1.length : Int) = l2.length) = true := decide_eq_true (by omega)
    refine Z36 Try.func91 rfl Try.ntmps91 (by simp) (by dsimp only [Try.f91]) ?_
    repeat' (first | ((with_reducible refine eq_go ?_); simp only [stp, ev, ZB, reduceIte, Nat.reduceEqDiff, Z2x, Z13, Zy, ldv, idxA, blt, lenV, Z10, ZH, Zg, Ze, Z14, Zw, Z33, Nat.reduceAdd, Nat.reduceMul, Nat.reduceLeDiff, splice, newB, vcs, Ty.t3, Ty.t86, *]; rfl) | (with_reducible first | refine aw_then ?_ | refine aw_skip ?_ | refine aw_ret ?_ | refine aw_exit ?_ | refine aw_block ?_ | refine xr_reg (by decide +kernel) ?_ | refine xr_nil ?_ | refine k_norm ?_ | refine k_ret ?_ | refine k_exit ?_ | refine b_norm ?_ | refine b_ret ?_ | refine b_exit ?_ | refine b_past (by decide) ?_ | refine xd_nil ?_) | (refine xr_do (v := ?_) (h' := ?_) (by exact rfl) ?_ ?_; rotate_left 2) | (refine xr_st (v := ?_) (h' := ?_) (by exact rfl) ?_ ?_; rotate_left 2) | refine xd_reg (ms := [0, 0, 3, 7, 0, 0, 48, 112, 255]) Ty.mx (by decide +kernel) (by decide +kernel) ?_ | (refine xd_do (v := ?_) (by exact rfl) (by decide +kernel) ?_ ?_; rotate_left 1) | (refine aw_c (b := ?_) (by decide) ?_ ?_; rotate_left 1; (· simp only [ev, Zb, reduceIte, Nat.reduceEqDiff, *]; rfl)) | (with_reducible first | refine cw_t ?_ | refine cw_f ?_) | refine cw_if (fun hb => ?_) (fun hb => ?_) | (refine r_ret (vs := ?_) ?_ ?_; rotate_left 1; (· simp only [resV, ev, Zb, reduceIte, Nat.reduceEqDiff, Zj, *]; rfl)))
    refine aw_for [0, 1] (fun k T h' => h' = h ∧ T 5 = .int .i64 k ∧ l1.take k = l2.take k) l1.length (k0 := 0) (Nat.zero_le _) ⟨rfl, rfl, rfl⟩ ?_
    rintro k T h' hk hR ⟨rfl, h11, hall⟩
    simp only [Z37, Z38, Z39, implies_true, and_true, stp, ev, ZB, reduceIte, Nat.reduceEqDiff, Z2x, Z13, Zy] at hR
    clear hd
    rcases Nat.lt_or_ge k l1.length with hkn | hkn
    · have h1 : (k : Int) < l1.length := by omega
      have hkn2 : k < l2.length := by omega
      have h1' : (k : Int) < l2.length := by omega
      obtain ⟨a1, rfl, hl1⟩ := Sl.row hrow1 (k := k) (by rw [ints_length]; exact hkn)
      obtain ⟨a2, rfl, hl2⟩ := Sl.row hrow2 (k := k) (by rw [ints_length]; exact hkn2)
      simp only [ints, List.getElem_map] at hl1 hl2
      have hg1 := getC_of_load hl1
      have hg2 := getC_of_load hl2
      clear hrow1 hrow2 hle
      repeat' (first | ((with_reducible refine eq_go ?_); simp only [stp, ev, ZB, reduceIte, Nat.reduceEqDiff, Z2x, Z13, Zy, ldv, idxA, blt, lenV, Z10, ZH, Zg, Ze, Z14, Zw, Z33, Nat.reduceAdd, Nat.reduceMul, Nat.reduceLeDiff, splice, newB, vcs, Ty.t3, Ty.t86, *]; rfl) | (with_reducible first | refine aw_then ?_ | refine aw_skip ?_ | refine aw_ret ?_ | refine aw_exit ?_ | refine aw_block ?_ | refine xr_reg (by decide +kernel) ?_ | refine xr_nil ?_ | refine k_norm ?_ | refine k_ret ?_ | refine k_exit ?_ | refine b_norm ?_ | refine b_ret ?_ | refine b_exit ?_ | refine b_past (by decide) ?_ | refine xd_nil ?_) | (refine xr_do (v := ?_) (h' := ?_) (by exact rfl) ?_ ?_; rotate_left 2) | (refine xr_st (v := ?_) (h' := ?_) (by exact rfl) ?_ ?_; rotate_left 2) | refine xd_reg (ms := [0, 0, 3, 7, 0, 0, 48, 112, 255]) Ty.mx (by decide +kernel) (by decide +kernel) ?_ | (refine xd_do (v := ?_) (by exact rfl) (by decide +kernel) ?_ ?_; rotate_left 1) | (refine aw_c (b := ?_) (by decide) ?_ ?_; rotate_left 1; (· simp only [ev, Zb, reduceIte, Nat.reduceEqDiff, *]; rfl)) | (with_reducible first | refine cw_t ?_ | refine cw_f ?_) | refine cw_if (fun hb => ?_) (fun hb => ?_) | (refine r_ret (vs := ?_) ?_ ?_; rotate_left 1; (· simp only [resV, ev, Zb, reduceIte, Nat.reduceEqDiff, Zj, *]; rfl)))
      · refine ⟨?_, rfl⟩
        have hne := take_ne hkn hkn2 (by simpa using hb)
        simp only [oneOf, hne, Z17]
      refine ⟨by first | assumption | omega, ?_, ?_⟩
      · simp only [Z37, Z38, Z39, implies_true, and_true, ZB, stp, ev, reduceIte, Nat.reduceEqDiff, Z2x, Z13, Zy, *]
      refine ⟨rfl, ?_, take_snoc hkn hkn2 hall (by simpa using hb)⟩
      simp only [Zb, reduceIte, Nat.reduceEqDiff]
      rw [wrap_id (by omega)]; rfl
    · have h1 : ¬ (k : Int) < l1.length := by omega
      have h1' : ¬ (k : Int) < l2.length := by omega
      rw [List.take_of_length_le hkn, List.take_of_length_le (by omega)] at hall
      clear hrow1 hrow2 hle
      repeat' (first | ((with_reducible refine eq_go ?_); simp only [stp, ev, ZB, reduceIte, Nat.reduceEqDiff, Z2x, Z13, Zy, ldv, idxA, blt, lenV, Z10, ZH, Zg, Ze, Z14, Zw, Z33, Nat.reduceAdd, Nat.reduceMul, Nat.reduceLeDiff, splice, newB, vcs, Ty.t3, Ty.t86, *]; rfl) | (with_reducible first | refine aw_then ?_ | refine aw_skip ?_ | refine aw_ret ?_ | refine aw_exit ?_ | refine aw_block ?_ | refine xr_reg (by decide +kernel) ?_ | refine xr_nil ?_ | refine k_norm ?_ | refine k_ret ?_ | refine k_exit ?_ | refine b_norm ?_ | refine b_ret ?_ | refine b_exit ?_ | refine b_past (by decide) ?_ | refine xd_nil ?_) | (refine xr_do (v := ?_) (h' := ?_) (by exact rfl) ?_ ?_; rotate_left 2) | (refine xr_st (v := ?_) (h' := ?_) (by exact rfl) ?_ ?_; rotate_left 2) | refine xd_reg (ms := [0, 0, 3, 7, 0, 0, 48, 112, 255]) Ty.mx (by decide +kernel) (by decide +kernel) ?_ | (refine xd_do (v := ?_) (by exact rfl) (by decide +kernel) ?_ ?_; rotate_left 1) | (refine aw_c (b := ?_) (by decide) ?_ ?_; rotate_left 1; (· simp only [ev, Zb, reduceIte, Nat.reduceEqDiff, *]; rfl)) | (with_reducible first | refine cw_t ?_ | refine cw_f ?_) | refine cw_if (fun hb => ?_) (fun hb => ?_) | (refine r_ret (vs := ?_) ?_ ?_; rotate_left 1; (· simp only [resV, ev, Zb, reduceIte, Nat.reduceEqDiff, Zj, *]; rfl)))
      refine ⟨?_, rfl⟩
      simp only [oneOf, hall, Z1g]
  · have hd : decide ((l1.length : Int) = l2.length) = false := decide_eq_false (by omega)
    have hne : ¬ l1 = l2 := fun q => hle (by rw [q])
    clear hle hrow1 hrow2
    refine Z36 Try.func91 rfl Try.ntmps91 (by simp) (by dsimp only [Try.f91]) ?_
    repeat' (first | ((with_reducible refine eq_go ?_); simp only [stp, ev, ZB, reduceIte, Nat.reduceEqDiff, Z2x, Z13, Zy, ldv, idxA, blt, lenV, Z10, ZH, Zg, Ze, Z14, Zw, Z33, Nat.reduceAdd, Nat.reduceMul, Nat.reduceLeDiff, splice, newB, vcs, Ty.t3, Ty.t86, *]; rfl) | (with_reducible first | refine aw_then ?_ | refine aw_skip ?_ | refine aw_ret ?_ | refine aw_exit ?_ | refine aw_block ?_ | refine xr_reg (by decide +kernel) ?_ | refine xr_nil ?_ | refine k_norm ?_ | refine k_ret ?_ | refine k_exit ?_ | refine b_norm ?_ | refine b_ret ?_ | refine b_exit ?_ | refine b_past (by decide) ?_ | refine xd_nil ?_) | (refine xr_do (v := ?_) (h' := ?_) (by exact rfl) ?_ ?_; rotate_left 2) | (refine xr_st (v := ?_) (h' := ?_) (by exact rfl) ?_ ?_; rotate_left 2) | refine xd_reg (ms := [0, 0, 3, 7, 0, 0, 48, 112, 255]) Ty.mx (by decide +kernel) (by decide +kernel) ?_ | (refine xd_do (v := ?_) (by exact rfl) (by decide +kernel) ?_ ?_; rotate_left 1) | (refine aw_c (b := ?_) (by decide) ?_ ?_; rotate_left 1; (· simp only [ev, Zb, reduceIte, Nat.reduceEqDiff, *]; rfl)) | (with_reducible first | refine cw_t ?_ | refine cw_f ?_) | refine cw_if (fun hb => ?_) (fun hb => ?_) | (refine r_ret (vs := ?_) ?_ ?_; rotate_left 1; (· simp only [resV, ev, Zb, reduceIte, Nat.reduceEqDiff, Zj, *]; rfl)))
    refine ⟨?_, rfl⟩
    simp only [oneOf, hne, Z17]
/-! ### lists of texts -/
def szSK : List ByteArray → Int → Int
  | [], left => left
  | s :: l, left => if left - s.size < 0 then -1 else szSK l (left - s.size)
def szS (l : List ByteArray) (left : Int) : Int := if left - l.length < 0 then -1 else szSK l (left - l.length)
theorem szSK_neg : ∀ (l : List ByteArray) (left : Int), 0 ≤ left → szSK l left < 0 → szSK l left = -1
  | [], left, h0, h => by simp only [szSK] at h; omega
  | s :: l, left, h0, h => by
      simp only [szSK] at h ⊢
      split at h <;> rename_i q
      · rw [if_pos q]
      · rw [if_neg q]; exact szSK_neg l _ (by omega) h
theorem szSK_range : ∀ (l : List ByteArray) (left : Int), 0 ≤ left ∧ left ≤ 1048576 → ¬ szSK l left < 0 → 0 ≤ szSK l left ∧ szSK l left ≤ 1048576 ∧ ∀ s ∈ l, s.size ≤ 1048576
  | [], left, h0, h => by simp only [szSK] at h ⊢; exact ⟨h0.1, h0.2, fun s hs => by simp at hs⟩
  | s :: l, left, h0, h => by
      simp only [szSK] at h ⊢
      split at h <;> rename_i q
      · omega
      · rw [if_neg q]
        have := szSK_range l _ (by omega) h
        refine ⟨this.1, this.2.1, fun x hx => ?_⟩
        rcases List.mem_cons.1 hx with rfl | hx
        · omega
        · exact this.2.2 x hx
theorem szS_range {l : List ByteArray} {left : Int} (h0 : 0 ≤ left ∧ left ≤ 1048576) (h : ¬ szS l left < 0) : 0 ≤ szS l left ∧ szS l left ≤ 1048576 ∧ l.length ≤ 1048576 ∧ ∀ s ∈ l, s.size ≤ 1048576 := by
  unfold szS at h ⊢
  split at h <;> rename_i q
  · omega
  · rw [if_neg q]
    have := szSK_range l _ (by omega) h
    exact ⟨this.1, this.2.1, by omega, this.2.2⟩
theorem szSK_step {l : List ByteArray} {k : Nat} (hk : k < l.length) (left : Int) : szSK (l.drop k) left = if left - (l[k].size : Int) < 0 then -1 else szSK (l.drop (k + 1)) (left - l[k].size) := by
  rw [List.drop_eq_getElem_cons hk]; rfl
theorem szStringS_ok (l : List ByteArray) (left : Int) (v : Value) (h : Heap) (hs : SlA h v 1 (strs l)) (hl : l.length ≤ 9223372036854775807) (hz : ∀ s ∈ l, s.size ≤ 9223372036854775807) (h0 : 0 ≤ left ∧ left ≤ 1048576) :
    ACalls Try.prog 0 22 #[v, .int .i64 left] h fun v h' => v = .int .i64 (szS l left) ∧ h' = h := by
  rcases hs with ⟨b, c, rfl, hc, hrow⟩ | ⟨rfl, hnil⟩
  · rw [strs_length] at *
    have hw : IntKind.i64.wrap (left - l.length) = left - l.length := wrap_id (by omega)
    by_cases hn : left - l.length < 0
    · have hd : decide (left - (l.length : Int) < 0) = true := decide_eq_true hn
      have hr : szS l left = -1 := if_pos hn
      clear hn hrow
      refine Z36 Try.func22 rfl Try.ntmps22 (by simp) (by dsimp only [Try.f22]) ?_
      repeat' (first | ((with_reducible refine eq_go ?_); simp only [stp, ev, ZB, reduceIte, Nat.reduceEqDiff, Z2x, Z13, Zy, ldv, idxA, blt, lenV, Z10, ZH, Zg, Ze, Z14, Zw, Z33, Nat.reduceAdd, Nat.reduceMul, Nat.reduceLeDiff, splice, newB, vcs, Ty.t3, Ty.t9, Ty.t25, *]; rfl) | (with_reducible first | refine aw_then ?_ | refine aw_skip ?_ | refine aw_ret ?_ | refine aw_exit ?_ | refine aw_block ?_ | refine xr_reg (by decide +kernel) ?_ | refine xr_nil ?_ | refine k_norm ?_ | refine k_ret ?_ | refine k_exit ?_ | refine b_norm ?_ | refine b_ret ?_ | refine b_exit ?_ | refine b_past (by decide) ?_) | (refine xr_do (v := ?_) (h' := ?_) (by exact rfl) ?_ ?_; rotate_left 2) | (refine xr_st (v := ?_) (h' := ?_) (by exact rfl) ?_ ?_; rotate_left 2) | (refine aw_c (b := ?_) (by decide) ?_ ?_; rotate_left 1; (· simp only [ev, Zb, reduceIte, Nat.reduceEqDiff, *]; rfl)) | (with_reducible first | refine cw_t ?_ | refine cw_f ?_) | refine cw_if (fun hb => ?_) (fun hb => ?_) | (refine r_ret (vs := ?_) ?_ ?_; rotate_left 1; (· simp only [resV, ev, Zb, reduceIte, Nat.reduceEqDiff, Zj, *]; rfl)))
      exact ⟨by rw [hr]; rfl, rfl⟩
    · have hd : decide (left - (l.length : Int) < 0) = false := decide_eq_false hn
      have hr : szS l left = szSK l (left - l.length) := if_neg hn
      have h01 : 0 ≤ left - (l.length : Int) ∧ left - (l.length : Int) ≤ 1048576 := by omega
      clear hn
      rw [hr]
      clear hr
      refine Z36 Try.func22 rfl Try.ntmps22 (by simp) (by dsimp only [Try.f22]) ?_
      repeat' (first | ((with_reducible refine eq_go ?_); simp only [stp, ev, ZB, reduceIte, Nat.reduceEqDiff, Z2x, Z13, Zy, ldv, idxA, blt, lenV, Z10, ZH, Zg, Ze, Z14, Zw, Z33, Nat.reduceAdd, Nat.reduceMul, Nat.reduceLeDiff, splice, newB, vcs, Ty.t3, Ty.t9, Ty.t25, *]; rfl) | (with_reducible first | refine aw_then ?_ | refine aw_skip ?_ | refine aw_ret ?_ | refine aw_exit ?_ | refine aw_block ?_ | refine xr_reg (by decide +kernel) ?_ | refine xr_nil ?_ | refine k_norm ?_ | refine k_ret ?_ | refine k_exit ?_ | refine b_norm ?_ | refine b_ret ?_ | refine b_exit ?_ | refine b_past (by decide) ?_) | (refine xr_do (v := ?_) (h' := ?_) (by exact rfl) ?_ ?_; rotate_left 2) | (refine xr_st (v := ?_) (h' := ?_) (by exact rfl) ?_ ?_; rotate_left 2) | (refine aw_c (b := ?_) (by decide) ?_ ?_; rotate_left 1; (· simp only [ev, Zb, reduceIte, Nat.reduceEqDiff, *]; rfl)) | (with_reducible first | refine cw_t ?_ | refine cw_f ?_) | refine cw_if (fun hb => ?_) (fun hb => ?_) | (refine r_ret (vs := ?_) ?_ ?_; rotate_left 1; (· simp only [resV, ev, Zb, reduceIte, Nat.reduceEqDiff, Zj, *]; rfl)))
      refine aw_for [0] (fun k T h' => ∃ r, h' = h ∧ T 5 = .int .i64 k ∧ T 1 = .int .i64 r ∧ (0 ≤ r ∧ r ≤ 1048576) ∧ szSK (l.drop k) r = szSK l (left - l.length)) l.length (k0 := 0) (Nat.zero_le _) ⟨_, rfl, rfl, rfl, h01, by rw [Z19]⟩ ?_
      rintro k T h' hk hR ⟨r, rfl, h11, h12, hr0, hall⟩
      simp only [Z37, Z38, Z39, implies_true, and_true, stp, ev, ZB, reduceIte, Nat.reduceEqDiff, Z2x, Z13, Zy] at hR
      clear hd hw
      rcases Nat.lt_or_ge k l.length with hkn | hkn
      · have h1 : (k : Int) < l.length := by omega
        obtain ⟨a1, rfl, hl1⟩ := Sl.row hrow (k := k) (by rw [strs_length]; exact hkn)
        simp only [strs, List.getElem_map] at hl1
        have hg1 := getC_of_load hl1
        have hsz := hz l[k] (List.getElem_mem hkn)
        rw [szSK_step hkn] at hall
        generalize l[k] = x at *
        have hwx : IntKind.i64.wrap (r - x.size) = r - x.size := wrap_id (by omega)
        clear hrow hl1 hz
        by_cases hn : r - x.size < 0
        · have hd : decide (r - (x.size : Int) < 0) = true := decide_eq_true hn
          rw [if_pos hn] at hall
          clear hn
          repeat' (first | ((with_reducible refine eq_go ?_); simp only [stp, ev, ZB, reduceIte, Nat.reduceEqDiff, Z2x, Z13, Zy, ldv, idxA, blt, lenV, Z10, ZH, Zg, Ze, Z14, Zw, Z33, Nat.reduceAdd, Nat.reduceMul, Nat.reduceLeDiff, splice, newB, vcs, Ty.t3, Ty.t9, Ty.t25, *]; rfl) | (with_reducible first | refine aw_then ?_ | refine aw_skip ?_ | refine aw_ret ?_ | refine aw_exit ?_ | refine aw_block ?_ | refine xr_reg (by decide +kernel) ?_ | refine xr_nil ?_ | refine k_norm ?_ | refine k_ret ?_ | refine k_exit ?_ | refine b_norm ?_ | refine b_ret ?_ | refine b_exit ?_ | refine b_past (by decide) ?_) | (refine xr_do (v := ?_) (h' := ?_) (by exact rfl) ?_ ?_; rotate_left 2) | (refine xr_st (v := ?_) (h' := ?_) (by exact rfl) ?_ ?_; rotate_left 2) | (refine aw_c (b := ?_) (by decide) ?_ ?_; rotate_left 1; (· simp only [ev, Zb, reduceIte, Nat.reduceEqDiff, *]; rfl)) | (with_reducible first | refine cw_t ?_ | refine cw_f ?_) | refine cw_if (fun hb => ?_) (fun hb => ?_) | (refine r_ret (vs := ?_) ?_ ?_; rotate_left 1; (· simp only [resV, ev, Zb, reduceIte, Nat.reduceEqDiff, Zj, *]; rfl)))
          exact ⟨by rw [← hall]; rfl, rfl⟩
        · have hd : decide (r - (x.size : Int) < 0) = false := decide_eq_false hn
          rw [if_neg hn] at hall
          have hr1 : 0 ≤ r - (x.size : Int) ∧ r - (x.size : Int) ≤ 1048576 := by omega
          clear hn
          repeat' (first | ((with_reducible refine eq_go ?_); simp only [stp, ev, ZB, reduceIte, Nat.reduceEqDiff, Z2x, Z13, Zy, ldv, idxA, blt, lenV, Z10, ZH, Zg, Ze, Z14, Zw, Z33, Nat.reduceAdd, Nat.reduceMul, Nat.reduceLeDiff, splice, newB, vcs, Ty.t3, Ty.t9, Ty.t25, *]; rfl) | (with_reducible first | refine aw_then ?_ | refine aw_skip ?_ | refine aw_ret ?_ | refine aw_exit ?_ | refine aw_block ?_ | refine xr_reg (by decide +kernel) ?_ | refine xr_nil ?_ | refine k_norm ?_ | refine k_ret ?_ | refine k_exit ?_ | refine b_norm ?_ | refine b_ret ?_ | refine b_exit ?_ | refine b_past (by decide) ?_) | (refine xr_do (v := ?_) (h' := ?_) (by exact rfl) ?_ ?_; rotate_left 2) | (refine xr_st (v := ?_) (h' := ?_) (by exact rfl) ?_ ?_; rotate_left 2) | (refine aw_c (b := ?_) (by decide) ?_ ?_; rotate_left 1; (· simp only [ev, Zb, reduceIte, Nat.reduceEqDiff, *]; rfl)) | (with_reducible first | refine cw_t ?_ | refine cw_f ?_) | refine cw_if (fun hb => ?_) (fun hb => ?_) | (refine r_ret (vs := ?_) ?_ ?_; rotate_left 1; (· simp only [resV, ev, Zb, reduceIte, Nat.reduceEqDiff, Zj, *]; rfl)))
          refine ⟨by first | assumption | omega, ?_, ?_⟩
          · simp only [Z37, Z38, Z39, implies_true, and_true, ZB, stp, ev, reduceIte, Nat.reduceEqDiff, Z2x, Z13, Zy, *]
          refine ⟨_, rfl, ?_, rfl, hr1, hall⟩
          simp only [Zb, reduceIte, Nat.reduceEqDiff]
          rw [wrap_id (by omega)]; rfl
      · have h1 : ¬ (k : Int) < l.length := by omega
        obtain rfl : k = l.length := by omega
        rw [List.drop_length] at hall
        clear hrow
        repeat' (first | ((with_reducible refine eq_go ?_); simp only [stp, ev, ZB, reduceIte, Nat.reduceEqDiff, Z2x, Z13, Zy, ldv, idxA, blt, lenV, Z10, ZH, Zg, Ze, Z14, Zw, Z33, Nat.reduceAdd, Nat.reduceMul, Nat.reduceLeDiff, splice, newB, vcs, Ty.t3, Ty.t9, Ty.t25, *]; rfl) | (with_reducible first | refine aw_then ?_ | refine aw_skip ?_ | refine aw_ret ?_ | refine aw_exit ?_ | refine aw_block ?_ | refine xr_reg (by decide +kernel) ?_ | refine xr_nil ?_ | refine k_norm ?_ | refine k_ret ?_ | refine k_exit ?_ | refine b_norm ?_ | refine b_ret ?_ | refine b_exit ?_ | refine b_past (by decide) ?_) | (refine xr_do (v := ?_) (h' := ?_) (by exact rfl) ?_ ?_; rotate_left 2) | (refine xr_st (v := ?_) (h' := ?_) (by exact rfl) ?_ ?_; rotate_left 2) | (refine aw_c (b := ?_) (by decide) ?_ ?_; rotate_left 1; (· simp only [ev, Zb, reduceIte, Nat.reduceEqDiff, *]; rfl)) | (with_reducible first | refine cw_t ?_ | refine cw_f ?_) | refine cw_if (fun hb => ?_) (fun hb => ?_) | (refine r_ret (vs := ?_) ?_ ?_; rotate_left 1; (· simp only [resV, ev, Zb, reduceIte, Nat.reduceEqDiff, Zj, *]; rfl)))
        exact ⟨by rw [← hall]; rfl, rfl⟩
  · obtain rfl : l = [] := List.map_eq_nil_iff.1 hnil
    have hw : IntKind.i64.wrap (left - 0) = left := by rw [wrap_id (by omega)]; omega
    have hlt : ¬ left < 0 := by omega
    have hr : szS [] left = left := by
      unfold szS
      rw [if_neg (by simp; omega)]; simp [szSK]
    refine Z36 Try.func22 rfl Try.ntmps22 (by simp) (by dsimp only [Try.f22]) ?_
    repeat' (first | ((with_reducible refine eq_go ?_); simp only [stp, ev, ZB, reduceIte, Nat.reduceEqDiff, Z2x, Z13, Zy, ldv, idxA, blt, lenV, Z10, ZH, Zg, Ze, Z14, Zw, Z33, Nat.reduceAdd, Nat.reduceMul, Nat.reduceLeDiff, splice, newB, vcs, Ty.t3, Ty.t9, Ty.t25, *]; rfl) | (with_reducible first | refine aw_then ?_ | refine aw_skip ?_ | refine aw_ret ?_ | refine aw_exit ?_ | refine aw_block ?_ | refine xr_reg (by decide +kernel) ?_ | refine xr_nil ?_ | refine k_norm ?_ | refine k_ret ?_ | refine k_exit ?_ | refine b_norm ?_ | refine b_ret ?_ | refine b_exit ?_ | refine b_past (by decide) ?_) | (refine xr_do (v := ?_) (h' := ?_) (by exact rfl) ?_ ?_; rotate_left 2) | (refine xr_st (v := ?_) (h' := ?_) (by exact rfl) ?_ ?_; rotate_left 2) | (refine aw_c (b := ?_) (by decide) ?_ ?_; rotate_left 1; (· simp only [ev, Zb, reduceIte, Nat.reduceEqDiff, *]; rfl)) | (with_reducible first | refine cw_t ?_ | refine cw_f ?_) | refine cw_if (fun hb => ?_) (fun hb => ?_) | (refine r_ret (vs := ?_) ?_ ?_; rotate_left 1; (· simp only [resV, ev, Zb, reduceIte, Nat.reduceEqDiff, Zj, *]; rfl)))
    refine aw_for [0] (fun k T h' => h' = h ∧ T 5 = .int .i64 0 ∧ T 1 = .int .i64 left) 0 (k0 := 0) (Nat.zero_le _) ⟨rfl, rfl, by simp only [Zb, reduceIte, Nat.reduceEqDiff, *]⟩ ?_
    rintro k T h' hk hR ⟨rfl, h11, h12⟩
    simp only [Z37, Z38, Z39, implies_true, and_true, stp, ev, ZB, reduceIte, Nat.reduceEqDiff, Z2x, Z13, Zy] at hR
    have h1 : decide ((0 : Int) < 0) = false := rfl
    repeat' (first | ((with_reducible refine eq_go ?_); simp only [stp, ev, ZB, reduceIte, Nat.reduceEqDiff, Z2x, Z13, Zy, ldv, idxA, blt, lenV, Z10, ZH, Zg, Ze, Z14, Zw, Z33, Nat.reduceAdd, Nat.reduceMul, Nat.reduceLeDiff, splice, newB, vcs, Ty.t3, Ty.t9, Ty.t25, *]; rfl) | (with_reducible first | refine aw_then ?_ | refine aw_skip ?_ | refine aw_ret ?_ | refine aw_exit ?_ | refine aw_block ?_ | refine xr_reg (by decide +kernel) ?_ | refine xr_nil ?_ | refine k_norm ?_ | refine k_ret ?_ | refine k_exit ?_ | refine b_norm ?_ | refine b_ret ?_ | refine b_exit ?_ | refine b_past (by decide) ?_) | (refine xr_do (v := ?_) (h' := ?_) (by exact rfl) ?_ ?_; rotate_left 2) | (refine xr_st (v := ?_) (h' := ?_) (by exact rfl) ?_ ?_; rotate_left 2) | (refine aw_c (b := ?_) (by decide) ?_ ?_; rotate_left 1; (· simp only [ev, Zb, reduceIte, Nat.reduceEqDiff, *]; rfl)) | (with_reducible first | refine cw_t ?_ | refine cw_f ?_) | refine cw_if (fun hb => ?_) (fun hb => ?_) | (refine r_ret (vs := ?_) ?_ ?_; rotate_left 1; (· simp only [resV, ev, Zb, reduceIte, Nat.reduceEqDiff, Zj, *]; rfl)))
    exact ⟨by rw [hr]; rfl, rfl⟩
theorem toStringS_ok (l : List ByteArray) (v : Value) (h : Heap) (hs : SlA h v 1 (strs l)) (hl : l.length ≤ 1048576) :
    ACalls Try.prog 0 26 #[v] h fun v h' => v = .slice (some ⟨h.length, 0, none⟩) l.length l.length ∧ h' = h ++ [⟨2, 1, (strs l).flatten⟩] := by
  rcases hs with ⟨b, c, rfl, hc, hrow⟩ | ⟨rfl, hnil⟩
  · rw [strs_length] at *
    have hmk : mkS Try.prog 25 h (.int .i64 l.length) (.int .i64 l.length) = _ := mkS_eq Ty.sl25 Ty.zc9 Ty.by9 (n := l.length) (by omega) (by omega)
    refine Z36 Try.func26 rfl Try.ntmps26 (by simp) (by dsimp only [Try.f26]) ?_
    repeat' (first | ((with_reducible refine eq_go ?_); simp only [stp, ev, ZB, reduceIte, Nat.reduceEqDiff, Z2x, Z13, Zy, ldv, stv, vcs, idxA, blt, lenV, Z10, ZH, Zg, Ze, Z14, Zw, Z33, Nat.reduceAdd, Nat.reduceMul, Nat.reduceLeDiff, splice, newB, Ty.t3, Ty.t9, Ty.t25, *]; rfl) | (with_reducible first | refine aw_then ?_ | refine aw_skip ?_ | refine aw_ret ?_ | refine aw_exit ?_ | refine aw_block ?_ | refine xr_reg (by decide +kernel) ?_ | refine xr_nil ?_ | refine k_norm ?_ | refine k_ret ?_ | refine k_exit ?_ | refine b_norm ?_ | refine b_ret ?_ | refine b_exit ?_ | refine b_past (by decide) ?_) | (refine xr_do (v := ?_) (h' := ?_) (by exact rfl) ?_ ?_; rotate_left 2) | (refine xr_st (v := ?_) (h' := ?_) (by exact rfl) ?_ ?_; rotate_left 2) | (refine aw_c (b := ?_) (by decide) ?_ ?_; rotate_left 1; (· simp only [ev, Zb, reduceIte, Nat.reduceEqDiff, *]; rfl)) | (with_reducible first | refine cw_t ?_ | refine cw_f ?_) | refine cw_if (fun hb => ?_) (fun hb => ?_) | (refine r_ret (vs := ?_) ?_ ?_; rotate_left 1; (· simp only [resV, ev, Zb, reduceIte, Nat.reduceEqDiff, Zj, *]; rfl)))
    refine aw_for [0, 3] (fun k T h' => h' = h ++ [⟨2, 1, fill [.string ByteArray.empty] (strs l) k⟩] ∧ T 4 = .int .i64 k) l.length (k0 := 0) (Nat.zero_le _) ⟨?_, rfl⟩ ?_
    · rw [fill_zero, strs_length]; try rfl
    rintro k T h' hk hR ⟨rfl, h11⟩
    simp only [Z37, Z38, Z39, implies_true, and_true, stp, ev, ZB, reduceIte, Nat.reduceEqDiff, Z2x, Z13, Zy] at hR
    rcases Nat.lt_or_ge k l.length with hkn | hkn
    · have h1 : (k : Int) < l.length := by omega
      obtain ⟨a, rfl, hld0⟩ := Sl.row hrow (k := k) (by rw [strs_length]; exact hkn)
      have hset := fill_set (z := [.string ByteArray.empty]) (h := []) (strs_len l) rfl (k := k) (by rw [strs_length]; exact hkn)
      simp only [strs, List.getElem_map] at hld0 hset
      have hg := getC_old (getC_of_load hld0)
      clear hrow
      repeat' (first | ((with_reducible refine eq_go ?_); simp only [stp, ev, ZB, reduceIte, Nat.reduceEqDiff, Z2x, Z13, Zy, ldv, stv, vcs, idxA, blt, lenV, Z10, ZH, Zg, Ze, Z14, Zw, Z33, Nat.reduceAdd, Nat.reduceMul, Nat.reduceLeDiff, splice, newB, Ty.t3, Ty.t9, Ty.t25, strs, *]; rfl) | (with_reducible first | refine aw_then ?_ | refine aw_skip ?_ | refine aw_ret ?_ | refine aw_exit ?_ | refine aw_block ?_ | refine xr_reg (by decide +kernel) ?_ | refine xr_nil ?_ | refine k_norm ?_ | refine k_ret ?_ | refine k_exit ?_ | refine b_norm ?_ | refine b_ret ?_ | refine b_exit ?_ | refine b_past (by decide) ?_) | (refine xr_do (v := ?_) (h' := ?_) (by exact rfl) ?_ ?_; rotate_left 2) | (refine xr_st (v := ?_) (h' := ?_) (by exact rfl) ?_ ?_; rotate_left 2) | (refine aw_c (b := ?_) (by decide) ?_ ?_; rotate_left 1; (· simp only [ev, Zb, reduceIte, Nat.reduceEqDiff, *]; rfl)) | (with_reducible first | refine cw_t ?_ | refine cw_f ?_) | refine cw_if (fun hb => ?_) (fun hb => ?_) | (refine r_ret (vs := ?_) ?_ ?_; rotate_left 1; (· simp only [resV, ev, Zb, reduceIte, Nat.reduceEqDiff, Zj, *]; rfl)))
      refine ⟨by first | assumption | omega, ?_, ?_⟩
      · simp only [Z37, Z38, Z39, implies_true, and_true, ZB, stp, ev, reduceIte, Nat.reduceEqDiff, Z2x, Z13, Zy, *]
      refine ⟨rfl, ?_⟩
      simp only [Zb, reduceIte, Nat.reduceEqDiff]
      rw [wrap_id (by omega)]; rfl
    · have h1 : ¬ (k : Int) < l.length := by omega
      clear hrow
      repeat' (first | ((with_reducible refine eq_go ?_); simp only [stp, ev, ZB, reduceIte, Nat.reduceEqDiff, Z2x, Z13, Zy, ldv, stv, vcs, idxA, blt, lenV, Z10, ZH, Zg, Ze, Z14, Zw, Z33, Nat.reduceAdd, Nat.reduceMul, Nat.reduceLeDiff, splice, newB, Ty.t3, Ty.t9, Ty.t25, *]; rfl) | (with_reducible first | refine aw_then ?_ | refine aw_skip ?_ | refine aw_ret ?_ | refine aw_exit ?_ | refine aw_block ?_ | refine xr_reg (by decide +kernel) ?_ | refine xr_nil ?_ | refine k_norm ?_ | refine k_ret ?_ | refine k_exit ?_ | refine b_norm ?_ | refine b_ret ?_ | refine b_exit ?_ | refine b_past (by decide) ?_) | (refine xr_do (v := ?_) (h' := ?_) (by exact rfl) ?_ ?_; rotate_left 2) | (refine xr_st (v := ?_) (h' := ?_) (by exact rfl) ?_ ?_; rotate_left 2) | (refine aw_c (b := ?_) (by decide) ?_ ?_; rotate_left 1; (· simp only [ev, Zb, reduceIte, Nat.reduceEqDiff, *]; rfl)) | (with_reducible first | refine cw_t ?_ | refine cw_f ?_) | refine cw_if (fun hb => ?_) (fun hb => ?_) | (refine r_ret (vs := ?_) ?_ ?_; rotate_left 1; (· simp only [resV, ev, Zb, reduceIte, Nat.reduceEqDiff, Zj, *]; rfl)))
      rw [fill_all _ _ (by rw [strs_length]; exact hkn)]
      exact ⟨rfl, rfl⟩
  · obtain rfl : l = [] := List.map_eq_nil_iff.1 hnil
    have hmk : mkS Try.prog 25 h (.int .i64 0) (.int .i64 0) = _ := mkS_eq Ty.sl25 Ty.zc9 Ty.by9 (n := 0) (by omega) (by omega)
    have hze : zeros [Value.string ByteArray.empty] 0 = [] := rfl
    refine Z36 Try.func26 rfl Try.ntmps26 (by simp) (by dsimp only [Try.f26]) ?_
    repeat' (first | ((with_reducible refine eq_go ?_); simp only [stp, ev, ZB, reduceIte, Nat.reduceEqDiff, Z2x, Z13, Zy, ldv, stv, vcs, idxA, blt, lenV, Z10, ZH, Zg, Ze, Z14, Zw, Z33, Nat.reduceAdd, Nat.reduceMul, Nat.reduceLeDiff, splice, newB, Ty.t3, Ty.t9, Ty.t25, *]; rfl) | (with_reducible first | refine aw_then ?_ | refine aw_skip ?_ | refine aw_ret ?_ | refine aw_exit ?_ | refine aw_block ?_ | refine xr_reg (by decide +kernel) ?_ | refine xr_nil ?_ | refine k_norm ?_ | refine k_ret ?_ | refine k_exit ?_ | refine b_norm ?_ | refine b_ret ?_ | refine b_exit ?_ | refine b_past (by decide) ?_) | (refine xr_do (v := ?_) (h' := ?_) (by exact rfl) ?_ ?_; rotate_left 2) | (refine xr_st (v := ?_) (h' := ?_) (by exact rfl) ?_ ?_; rotate_left 2) | (refine aw_c (b := ?_) (by decide) ?_ ?_; rotate_left 1; (· simp only [ev, Zb, reduceIte, Nat.reduceEqDiff, *]; rfl)) | (with_reducible first | refine cw_t ?_ | refine cw_f ?_) | refine cw_if (fun hb => ?_) (fun hb => ?_) | (refine r_ret (vs := ?_) ?_ ?_; rotate_left 1; (· simp only [resV, ev, Zb, reduceIte, Nat.reduceEqDiff, Zj, *]; rfl)))
    refine aw_for [0, 3] (fun k T h' => h' = h ++ [⟨2, 1, []⟩] ∧ T 4 = .int .i64 0) 0 (k0 := 0) (Nat.zero_le _) ⟨rfl, rfl⟩ ?_
    rintro k T h' hk hR ⟨rfl, h11⟩
    simp only [Z37, Z38, Z39, implies_true, and_true, stp, ev, ZB, reduceIte, Nat.reduceEqDiff, Z2x, Z13, Zy] at hR
    have h1 : decide ((0 : Int) < 0) = false := rfl
    repeat' (first | ((with_reducible refine eq_go ?_); simp only [stp, ev, ZB, reduceIte, Nat.reduceEqDiff, Z2x, Z13, Zy, ldv, stv, vcs, idxA, blt, lenV, Z10, ZH, Zg, Ze, Z14, Zw, Z33, Nat.reduceAdd, Nat.reduceMul, Nat.reduceLeDiff, splice, newB, Ty.t3, Ty.t9, Ty.t25, *]; rfl) | (with_reducible first | refine aw_then ?_ | refine aw_skip ?_ | refine aw_ret ?_ | refine aw_exit ?_ | refine aw_block ?_ | refine xr_reg (by decide +kernel) ?_ | refine xr_nil ?_ | refine k_norm ?_ | refine k_ret ?_ | refine k_exit ?_ | refine b_norm ?_ | refine b_ret ?_ | refine b_exit ?_ | refine b_past (by decide) ?_) | (refine xr_do (v := ?_) (h' := ?_) (by exact rfl) ?_ ?_; rotate_left 2) | (refine xr_st (v := ?_) (h' := ?_) (by exact rfl) ?_ ?_; rotate_left 2) | (refine aw_c (b := ?_) (by decide) ?_ ?_; rotate_left 1; (· simp only [ev, Zb, reduceIte, Nat.reduceEqDiff, *]; rfl)) | (with_reducible first | refine cw_t ?_ | refine cw_f ?_) | refine cw_if (fun hb => ?_) (fun hb => ?_) | (refine r_ret (vs := ?_) ?_ ?_; rotate_left 1; (· simp only [resV, ev, Zb, reduceIte, Nat.reduceEqDiff, Zj, *]; rfl)))
    exact ⟨rfl, rfl⟩
theorem eqStringS_ok (l1 l2 : List ByteArray) (v1 v2 : Value) (h : Heap) (hs1 : Sl h v1 1 (strs l1)) (hs2 : Sl h v2 1 (strs l2)) (hl1 : l1.length ≤ 1048576) (hl2 : l2.length ≤ 1048576) :
    ACalls Try.prog 0 29 #[v1, v2] h fun v h' => v = .bool (decide (l1 = l2)) ∧ h' = h := by
  obtain ⟨b1, c1, rfl, hc1, hrow1⟩ := hs1
  obtain ⟨b2, c2, rfl, hc2, hrow2⟩ := hs2
  simp only [strs_length] at *
  by_cases hle : l1.length = l2.length
  · have hd : decide ((l1.length : Int) = l2.length) = true := decide_eq_true (by omega)
    refine Z36 Try.func29 rfl Try.ntmps29 (by simp) (by dsimp only [Try.f29]) ?_
    repeat' (first | ((with_reducible refine eq_go ?_); simp only [stp, ev, ZB, reduceIte, Nat.reduceEqDiff, Z2x, Z13, Zy, ldv, idxA, blt, lenV, Z10, ZH, Zg, Ze, Z14, Zw, Z33, Nat.reduceAdd, Nat.reduceMul, Nat.reduceLeDiff, splice, newB, vcs, Ty.t3, Ty.t9, Ty.t25, *]; rfl) | (with_reducible first | refine aw_then ?_ | refine aw_skip ?_ | refine aw_ret ?_ | refine aw_exit ?_ | refine aw_block ?_ | refine xr_reg (by decide +kernel) ?_ | refine xr_nil ?_ | refine k_norm ?_ | refine k_ret ?_ | refine k_exit ?_ | refine b_norm ?_ | refine b_ret ?_ | refine b_exit ?_ | refine b_past (by decide) ?_ | refine xd_nil ?_) | (refine xr_do (v := ?_) (h' := ?_) (by exact rfl) ?_ ?_; rotate_left 2) | (refine xr_st (v := ?_) (h' := ?_) (by exact rfl) ?_ ?_; rotate_left 2) | refine xd_reg (ms := [0, 0, 3, 7, 0, 0, 48, 112, 255]) Ty.mx (by decide +kernel) (by decide +kernel) ?_ | (refine xd_do (v := ?_) (by exact rfl) (by decide +kernel) ?_ ?_; rotate_left 1) | (refine aw_c (b := ?_) (by decide) ?_ ?_; rotate_left 1; (· simp only [ev, Zb, reduceIte, Nat.reduceEqDiff, *]; rfl)) | (with_reducible first | refine cw_t ?_ | refine cw_f ?_) | refine cw_if (fun hb => ?_) (fun hb => ?_) | (refine r_ret (vs := ?_) ?_ ?_; rotate_left 1; (· simp only [resV, ev, Zb, reduceIte, Nat.reduceEqDiff, Zj, *]; rfl)))
    refine aw_for [0, 1] (fun k T h' => h' = h ∧ T 5 = .int .i64 k ∧ l1.take k = l2.take k) l1.length (k0 := 0) (Nat.zero_le _) ⟨rfl, rfl, rfl⟩ ?_
    rintro k T h' hk hR ⟨rfl, h11, hall⟩
    simp only [Z37, Z38, Z39, implies_true, and_true, stp, ev, ZB, reduceIte, Nat.reduceEqDiff, Z2x, Z13, Zy] at hR
    clear hd
    rcases Nat.lt_or_ge k l1.length with hkn | hkn
    · have h1 : (k : Int) < l1.length := by omega
      have hkn2 : k < l2.length := by omega
      have h1' : (k : Int) < l2.length := by omega
      obtain ⟨a1, rfl, hl1⟩ := Sl.row hrow1 (k := k) (by rw [strs_length]; exact hkn)
      obtain ⟨a2, rfl, hl2⟩ := Sl.row hrow2 (k := k) (by rw [strs_length]; exact hkn2)
      simp only [strs, List.getElem_map] at hl1 hl2
      have hg1 := getC_of_load hl1
      have hg2 := getC_of_load hl2
      clear hrow1 hrow2 hle
      repeat' (first | ((with_reducible refine eq_go ?_); simp only [stp, ev, ZB, reduceIte, Nat.reduceEqDiff, Z2x, Z13, Zy, ldv, idxA, blt, lenV, Z10, ZH, Zg, Ze, Z14, Zw, Z33, Nat.reduceAdd, Nat.reduceMul, Nat.reduceLeDiff, splice, newB, vcs, Ty.t3, Ty.t9, Ty.t25, *]; rfl) | (with_reducible first | refine aw_then ?_ | refine aw_skip ?_ | refine aw_ret ?_ | refine aw_exit ?_ | refine aw_block ?_ | refine xr_reg (by decide +kernel) ?_ | refine xr_nil ?_ | refine k_norm ?_ | refine k_ret ?_ | refine k_exit ?_ | refine b_norm ?_ | refine b_ret ?_ | refine b_exit ?_ | refine b_past (by decide) ?_ | refine xd_nil ?_) | (refine xr_do (v := ?_) (h' := ?_) (by exact rfl) ?_ ?_; rotate_left 2) | (refine xr_st (v := ?_) (h' := ?_) (by exact rfl) ?_ ?_; rotate_left 2) | refine xd_reg (ms := [0, 0, 3, 7, 0, 0, 48, 112, 255]) Ty.mx (by decide +kernel) (by decide +kernel) ?_ | (refine xd_do (v := ?_) (by exact rfl) (by decide +kernel) ?_ ?_; rotate_left 1) | (refine aw_c (b := ?_) (by decide) ?_ ?_; rotate_left 1; (· simp only [ev, Zb, reduceIte, Nat.reduceEqDiff, *]; rfl)) | (with_reducible first | refine cw_t ?_ | refine cw_f ?_) | refine cw_if (fun hb => ?_) (fun hb => ?_) | (refine r_ret (vs := ?_) ?_ ?_; rotate_left 1; (· simp only [resV, ev, Zb, reduceIte, Nat.reduceEqDiff, Zj, *]; rfl)))
      · refine ⟨?_, rfl⟩
        have hne := take_ne hkn hkn2 (by simpa using hb)
        simp only [oneOf, hne, Z17]
      refine ⟨by first | assumption | omega, ?_, ?_⟩
      · simp only [Z37, Z38, Z39, implies_true, and_true, ZB, stp, ev, reduceIte, Nat.reduceEqDiff, Z2x, Z13, Zy, *]
      refine ⟨rfl, ?_, take_snoc hkn hkn2 hall (by simpa using hb)⟩
      simp only [Zb, reduceIte, Nat.reduceEqDiff]
      rw [wrap_id (by omega)]; rfl
    · have h1 : ¬ (k : Int) < l1.length := by omega
      have h1' : ¬ (k : Int) < l2.length := by omega
      rw [List.take_of_length_le hkn, List.take_of_length_le (by omega)] at hall
      clear hrow1 hrow2 hle
      repeat' (first | ((with_reducible refine eq_go ?_); simp only [stp, ev, ZB, reduceIte, Nat.reduceEqDiff, Z2x, Z13, Zy, ldv, idxA, blt, lenV, Z10, ZH, Zg, Ze, Z14, Zw, Z33, Nat.reduceAdd, Nat.reduceMul, Nat.reduceLeDiff, splice, newB, vcs, Ty.t3, Ty.t9, Ty.t25, *]; rfl) | (with_reducible first | refine aw_then ?_ | refine aw_skip ?_ | refine aw_ret ?_ | refine aw_exit ?_ | refine aw_block ?_ | refine xr_reg (by decide +kernel) ?_ | refine xr_nil ?_ | refine k_norm ?_ | refine k_ret ?_ | refine k_exit ?_ | refine b_norm ?_ | refine b_ret ?_ | refine b_exit ?_ | refine b_past (by decide) ?_ | refine xd_nil ?_) | (refine xr_do (v := ?_) (h' := ?_) (by exact rfl) ?_ ?_; rotate_left 2) | (refine xr_st (v := ?_) (h' := ?_) (by exact rfl) ?_ ?_; rotate_left 2) | refine xd_reg (ms := [0, 0, 3, 7, 0, 0, 48, 112, 255]) Ty.mx (by decide +kernel) (by decide +kernel) ?_ | (refine xd_do (v := ?_) (by exact rfl) (by decide +kernel) ?_ ?_; rotate_left 1) | (refine aw_c (b := ?_) (by decide) ?_ ?_; rotate_left 1; (· simp only [ev, Zb, reduceIte, Nat.reduceEqDiff, *]; rfl)) | (with_reducible first | refine cw_t ?_ | refine cw_f ?_) | refine cw_if (fun hb => ?_) (fun hb => ?_) | (refine r_ret (vs := ?_) ?_ ?_; rotate_left 1; (· simp only [resV, ev, Zb, reduceIte, Nat.reduceEqDiff, Zj, *]; rfl)))
      refine ⟨?_, rfl⟩
      simp only [oneOf, hall, Z1g]
  · have hd : decide ((l1.length : Int) = l2.length) = false := decide_eq_false (by omega)
    have hne : ¬ l1 = l2 := fun q => hle (by rw [q])
    clear hle hrow1 hrow2
    refine Z36 Try.func29 rfl Try.ntmps29 (by simp) (by dsimp only [Try.f29]) ?_
    repeat' (first | ((with_reducible refine eq_go ?_); simp only [stp, ev, ZB, reduceIte, Nat.reduceEqDiff, Z2x, Z13, Zy, ldv, idxA, blt, lenV, Z10, ZH, Zg, Ze, Z14, Zw, Z33, Nat.reduceAdd, Nat.reduceMul, Nat.reduceLeDiff, splice, newB, vcs, Ty.t3, Ty.t9, Ty.t25, *]; rfl) | (with_reducible first | refine aw_then ?_ | refine aw_skip ?_ | refine aw_ret ?_ | refine aw_exit ?_ | refine aw_block ?_ | refine xr_reg (by decide +kernel) ?_ | refine xr_nil ?_ | refine k_norm ?_ | refine k_ret ?_ | refine k_exit ?_ | refine b_norm ?_ | refine b_ret ?_ | refine b_exit ?_ | refine b_past (by decide) ?_ | refine xd_nil ?_) | (refine xr_do (v := ?_) (h' := ?_) (by exact rfl) ?_ ?_; rotate_left 2) | (refine xr_st (v := ?_) (h' := ?_) (by exact rfl) ?_ ?_; rotate_left 2) | refine xd_reg (ms := [0, 0, 3, 7, 0, 0, 48, 112, 255]) Ty.mx (by decide +kernel) (by decide +kernel) ?_ | (refine xd_do (v := ?_) (by exact rfl) (by decide +kernel) ?_ ?_; rotate_left 1) | (refine aw_c (b := ?_) (by decide) ?_ ?_; rotate_left 1; (· simp only [ev, Zb, reduceIte, Nat.reduceEqDiff, *]; rfl)) | (with_reducible first | refine cw_t ?_ | refine cw_f ?_) | refine cw_if (fun hb => ?_) (fun hb => ?_) | (refine r_ret (vs := ?_) ?_ ?_; rotate_left 1; (· simp only [resV, ev, Zb, reduceIte, Nat.reduceEqDiff, Zj, *]; rfl)))
    refine ⟨?_, rfl⟩
    simp only [oneOf, hne, Z17]
end Go.Proofs.Ytmjhfklmlcnofaa.Am
namespace Go.Proofs.Ytmjhfklmlcnofaa.Am
open Go Go.Proofs
set_option linter.unusedVariables false
set_option linter.unusedSimpArgs false
set_option maxRecDepth 100000
set_option maxHeartbeats 8000000
def RTaskA (h : Heap) (r : List Value) (t : TaskM) : Prop := ∃ a b c d, r = [.int .i64 t.join, .int .i64 t.split, a, b, c, d, .int .i64 t.role] ∧ SlA h a 1 (ints t.inn) ∧ SlA h b 1 (ints t.out) ∧ SlA h c 1 (ints t.cuts) ∧ SlA h d 1 (ints t.stops) ∧ t.cn = false
theorem RTaskA.sub {I h : Heap} {r : List Value} {t : TaskM} (q : RTaskA I r t) (s : Sub I h) : RTaskA h r t := by
  obtain ⟨a, b, c, d, rfl, h1, h2, h3, h4, h5⟩ := q
  exact ⟨a, b, c, d, rfl, h1.sub s, h2.sub s, h3.sub s, h4.sub s, h5⟩
abbrev RTasksA := RSA RTaskA 7
theorem RTasksA.sub {I h : Heap} {v : Value} {l : List TaskM} (q : RTasksA I v l) (s : Sub I h) : RTasksA h v l := RSA.mono q s fun r x hr => hr.sub s
def TaskM.fitL (t : TaskM) : Prop := t.inn.length ≤ 9223372036854775807 ∧ t.out.length ≤ 9223372036854775807 ∧ t.cuts.length ≤ 9223372036854775807 ∧ t.stops.length ≤ 9223372036854775807
/-! ### sizes -/
def szTk (t : TaskM) (left : Int) : Int :=
  if szM t.inn.length left < 0 then -1 else if szM t.out.length (szM t.inn.length left) < 0 then -1 else
  if szM t.cuts.length (szM t.out.length (szM t.inn.length left)) < 0 then -1 else szM t.stops.length (szM t.cuts.length (szM t.out.length (szM t.inn.length left)))
theorem szTk_range {t : TaskM} {left : Int} (h0 : 0 ≤ left ∧ left ≤ 1048576) (h : ¬ szTk t left < 0) : (0 ≤ szTk t left ∧ szTk t left ≤ 1048576) ∧ t.small := by
  unfold szTk at h ⊢
  by_cases n1 : szM t.inn.length left < 0
  · rw [if_pos n1] at h; omega
  · have r1 := szM_range h0 n1
    rw [if_neg n1] at h ⊢
    by_cases n2 : szM t.out.length (szM t.inn.length left) < 0
    · rw [if_pos n2] at h; omega
    · have r2 := szM_range ⟨r1.1, r1.2.1⟩ n2
      rw [if_neg n2] at h ⊢
      by_cases n3 : szM t.cuts.length (szM t.out.length (szM t.inn.length left)) < 0
      · rw [if_pos n3] at h; omega
      · have r3 := szM_range ⟨r2.1, r2.2.1⟩ n3
        rw [if_neg n3] at h ⊢
        have r4 := szM_range ⟨r3.1, r3.2.1⟩ h
        exact ⟨⟨r4.1, r4.2.1⟩, r1.2.2, r2.2.2, r3.2.2, r4.2.2⟩
theorem szTask_ok (t : TaskM) (left : Int) (a b c d : Value) (h : Heap) (ha : SlA h a 1 (ints t.inn)) (hb : SlA h b 1 (ints t.out)) (hc : SlA h c 1 (ints t.cuts)) (hd : SlA h d 1 (ints t.stops)) (hl : t.fitL) (h0 : 0 ≤ left ∧ left ≤ 1048576) :
    ACalls Try.prog 0 56 #[.agg #[.int .i64 t.join, .int .i64 t.split, a, b, c, d, .int .i64 t.role], .int .i64 left] h fun v h' => v = .int .i64 (szTk t left) ∧ h' = h := by
  refine acalls_pure (.inl rfl) ?_
  have f1 := ha.flat
  have f2 := hb.flat
  have f3 := hc.flat
  have f4 := hd.flat
  obtain ⟨l1, l2, l3, l4⟩ := hl
  by_cases n1 : szM t.inn.length left < 0
  · have d1 : decide (szM t.inn.length left < 0) = true := decide_eq_true n1
    have hr : szTk t left = -1 := if_pos n1
    clear n1
    refine Z36 Try.func56 rfl Try.ntmps56 (by simp) (by dsimp only [Try.f56]) ?_
    repeat' (first | ((with_reducible refine eq_go ?_); simp only [stp, ev, ZB, reduceIte, Nat.reduceEqDiff, Z2x, Z13, Zy, ldv, fldA, blt, lenV, Z10, ZH, Zg, Ze, Z14, Zw, Z33, Nat.reduceAdd, Nat.reduceMul, Nat.reduceLeDiff, splice, newB, vcs, Ty.t3, Ty.t86, Ty.t88, *]; rfl) | (with_reducible first | refine aw_then ?_ | refine aw_skip ?_ | refine aw_ret ?_ | refine aw_exit ?_ | refine aw_block ?_ | refine xr_reg (by decide +kernel) ?_ | refine xr_nil ?_ | refine k_norm ?_ | refine k_ret ?_ | refine k_exit ?_ | refine b_norm ?_ | refine b_ret ?_ | refine b_exit ?_ | refine b_past (by decide) ?_) | (refine Ty.c76 (args := ?_) (K := ?_) ?_ ?_ ?_; rotate_left 2) | (refine xr_do (v := ?_) (h' := ?_) (by exact rfl) ?_ ?_; rotate_left 2) | (refine xr_st (v := ?_) (h' := ?_) (by exact rfl) ?_ ?_; rotate_left 2) | (refine aw_c (b := ?_) (by decide) ?_ ?_; rotate_left 1; (· simp only [ev, Zb, reduceIte, Nat.reduceEqDiff, *]; rfl)) | (with_reducible first | refine cw_t ?_ | refine cw_f ?_) | refine cw_if (fun hb => ?_) (fun hb => ?_) | (refine r_ret (vs := ?_) ?_ ?_; rotate_left 1; (· simp only [resV, ev, Zb, reduceIte, Nat.reduceEqDiff, Zj, *]; rfl)) | ((with_reducible refine szIntS_ok ?_ _ _ _ ?_ ?_ ?_); rotate_left 1; (· first | assumption | exact SlA.sub ‹_› (by first | assumption | exact Sub.refl _ | exact Sub.app ‹_› _ | exact Sub.app (Sub.refl _) _)); (· assumption); (· first | assumption | omega)) | ((with_reducible refine Z2w ?_); rintro _ _ ⟨rfl, hh⟩; replace hh := hh.symm; subst hh))
    exact ⟨by rw [hr]; rfl, _, rfl⟩
  have d1 : decide (szM t.inn.length left < 0) = false := decide_eq_false n1
  have r1 := (szM_range h0 n1)
  have q1 : 0 ≤ szM t.inn.length left ∧ szM t.inn.length left ≤ 1048576 := ⟨r1.1, r1.2.1⟩
  have e1 : szTk t left = if szM t.out.length (szM t.inn.length left) < 0 then -1 else
    if szM t.cuts.length (szM t.out.length (szM t.inn.length left)) < 0 then -1 else szM t.stops.length (szM t.cuts.length (szM t.out.length (szM t.inn.length left))) := if_neg n1
  rw [e1]
  clear n1 r1 e1
  by_cases n2 : szM t.out.length (szM t.inn.length left) < 0
  · have d2 : decide (szM t.out.length (szM t.inn.length left) < 0) = true := decide_eq_true n2
    rw [if_pos n2]
    clear n2
    refine Z36 Try.func56 rfl Try.ntmps56 (by simp) (by dsimp only [Try.f56]) ?_
    repeat' (first | ((with_reducible refine eq_go ?_); simp only [stp, ev, ZB, reduceIte, Nat.reduceEqDiff, Z2x, Z13, Zy, ldv, fldA, blt, lenV, Z10, ZH, Zg, Ze, Z14, Zw, Z33, Nat.reduceAdd, Nat.reduceMul, Nat.reduceLeDiff, splice, newB, vcs, Ty.t3, Ty.t86, Ty.t88, *]; rfl) | (with_reducible first | refine aw_then ?_ | refine aw_skip ?_ | refine aw_ret ?_ | refine aw_exit ?_ | refine aw_block ?_ | refine xr_reg (by decide +kernel) ?_ | refine xr_nil ?_ | refine k_norm ?_ | refine k_ret ?_ | refine k_exit ?_ | refine b_norm ?_ | refine b_ret ?_ | refine b_exit ?_ | refine b_past (by decide) ?_) | (refine Ty.c76 (args := ?_) (K := ?_) ?_ ?_ ?_; rotate_left 2) | (refine xr_do (v := ?_) (h' := ?_) (by exact rfl) ?_ ?_; rotate_left 2) | (refine xr_st (v := ?_) (h' := ?_) (by exact rfl) ?_ ?_; rotate_left 2) | (refine aw_c (b := ?_) (by decide) ?_ ?_; rotate_left 1; (· simp only [ev, Zb, reduceIte, Nat.reduceEqDiff, *]; rfl)) | (with_reducible first | refine cw_t ?_ | refine cw_f ?_) | refine cw_if (fun hb => ?_) (fun hb => ?_) | (refine r_ret (vs := ?_) ?_ ?_; rotate_left 1; (· simp only [resV, ev, Zb, reduceIte, Nat.reduceEqDiff, Zj, *]; rfl)) | ((with_reducible refine szIntS_ok ?_ _ _ _ ?_ ?_ ?_); rotate_left 1; (· first | assumption | exact SlA.sub ‹_› (by first | assumption | exact Sub.refl _ | exact Sub.app ‹_› _ | exact Sub.app (Sub.refl _) _)); (· assumption); (· first | assumption | omega)) | ((with_reducible refine Z2w ?_); rintro _ _ ⟨rfl, hh⟩; replace hh := hh.symm; subst hh))
    exact ⟨rfl, _, rfl⟩
  have d2 : decide (szM t.out.length (szM t.inn.length left) < 0) = false := decide_eq_false n2
  have r2 := (szM_range q1 n2)
  have q2 : 0 ≤ szM t.out.length (szM t.inn.length left) ∧ szM t.out.length (szM t.inn.length left) ≤ 1048576 := ⟨r2.1, r2.2.1⟩
  rw [if_neg n2]
  clear n2 r2
  by_cases n3 : szM t.cuts.length (szM t.out.length (szM t.inn.length left)) < 0
  · have d3 : decide (szM t.cuts.length (szM t.out.length (szM t.inn.length left)) < 0) = true := decide_eq_true n3
    rw [if_pos n3]
    clear n3
    refine Z36 Try.func56 rfl Try.ntmps56 (by simp) (by dsimp only [Try.f56]) ?_
    repeat' (first | ((with_reducible refine eq_go ?_); simp only [stp, ev, ZB, reduceIte, Nat.reduceEqDiff, Z2x, Z13, Zy, ldv, fldA, blt, lenV, Z10, ZH, Zg, Ze, Z14, Zw, Z33, Nat.reduceAdd, Nat.reduceMul, Nat.reduceLeDiff, splice, newB, vcs, Ty.t3, Ty.t86, Ty.t88, *]; rfl) | (with_reducible first | refine aw_then ?_ | refine aw_skip ?_ | refine aw_ret ?_ | refine aw_exit ?_ | refine aw_block ?_ | refine xr_reg (by decide +kernel) ?_ | refine xr_nil ?_ | refine k_norm ?_ | refine k_ret ?_ | refine k_exit ?_ | refine b_norm ?_ | refine b_ret ?_ | refine b_exit ?_ | refine b_past (by decide) ?_) | (refine Ty.c76 (args := ?_) (K := ?_) ?_ ?_ ?_; rotate_left 2) | (refine xr_do (v := ?_) (h' := ?_) (by exact rfl) ?_ ?_; rotate_left 2) | (refine xr_st (v := ?_) (h' := ?_) (by exact rfl) ?_ ?_; rotate_left 2) | (refine aw_c (b := ?_) (by decide) ?_ ?_; rotate_left 1; (· simp only [ev, Zb, reduceIte, Nat.reduceEqDiff, *]; rfl)) | (with_reducible first | refine cw_t ?_ | refine cw_f ?_) | refine cw_if (fun hb => ?_) (fun hb => ?_) | (refine r_ret (vs := ?_) ?_ ?_; rotate_left 1; (· simp only [resV, ev, Zb, reduceIte, Nat.reduceEqDiff, Zj, *]; rfl)) | ((with_reducible refine szIntS_ok ?_ _ _ _ ?_ ?_ ?_); rotate_left 1; (· first | assumption | exact SlA.sub ‹_› (by first | assumption | exact Sub.refl _ | exact Sub.app ‹_› _ | exact Sub.app (Sub.refl _) _)); (· assumption); (· first | assumption | omega)) | ((with_reducible refine Z2w ?_); rintro _ _ ⟨rfl, hh⟩; replace hh := hh.symm; subst hh))
    exact ⟨rfl, _, rfl⟩
  have d3 : decide (szM t.cuts.length (szM t.out.length (szM t.inn.length left)) < 0) = false := decide_eq_false n3
  have r3 := (szM_range q2 n3)
  have q3 : 0 ≤ szM t.cuts.length (szM t.out.length (szM t.inn.length left)) ∧ szM t.cuts.length (szM t.out.length (szM t.inn.length left)) ≤ 1048576 := ⟨r3.1, r3.2.1⟩
  rw [if_neg n3]
  clear n3 r3
  by_cases n4 : szM t.stops.length (szM t.cuts.length (szM t.out.length (szM t.inn.length left))) < 0
  · have d4 : decide (szM t.stops.length (szM t.cuts.length (szM t.out.length (szM t.inn.length left))) < 0) = true := decide_eq_true n4
    have e4 : ∃ z : Unit, szM t.stops.length (szM t.cuts.length (szM t.out.length (szM t.inn.length left))) = -1 := ⟨(), szM_neg n4⟩
    clear n4
    refine Z36 Try.func56 rfl Try.ntmps56 (by simp) (by dsimp only [Try.f56]) ?_
    repeat' (first | ((with_reducible refine eq_go ?_); simp only [stp, ev, ZB, reduceIte, Nat.reduceEqDiff, Z2x, Z13, Zy, ldv, fldA, blt, lenV, Z10, ZH, Zg, Ze, Z14, Zw, Z33, Nat.reduceAdd, Nat.reduceMul, Nat.reduceLeDiff, splice, newB, vcs, Ty.t3, Ty.t86, Ty.t88, *]; rfl) | (with_reducible first | refine aw_then ?_ | refine aw_skip ?_ | refine aw_ret ?_ | refine aw_exit ?_ | refine aw_block ?_ | refine xr_reg (by decide +kernel) ?_ | refine xr_nil ?_ | refine k_norm ?_ | refine k_ret ?_ | refine k_exit ?_ | refine b_norm ?_ | refine b_ret ?_ | refine b_exit ?_ | refine b_past (by decide) ?_) | (refine Ty.c76 (args := ?_) (K := ?_) ?_ ?_ ?_; rotate_left 2) | (refine xr_do (v := ?_) (h' := ?_) (by exact rfl) ?_ ?_; rotate_left 2) | (refine xr_st (v := ?_) (h' := ?_) (by exact rfl) ?_ ?_; rotate_left 2) | (refine aw_c (b := ?_) (by decide) ?_ ?_; rotate_left 1; (· simp only [ev, Zb, reduceIte, Nat.reduceEqDiff, *]; rfl)) | (with_reducible first | refine cw_t ?_ | refine cw_f ?_) | refine cw_if (fun hb => ?_) (fun hb => ?_) | (refine r_ret (vs := ?_) ?_ ?_; rotate_left 1; (· simp only [resV, ev, Zb, reduceIte, Nat.reduceEqDiff, Zj, *]; rfl)) | ((with_reducible refine szIntS_ok ?_ _ _ _ ?_ ?_ ?_); rotate_left 1; (· first | assumption | exact SlA.sub ‹_› (by first | assumption | exact Sub.refl _ | exact Sub.app ‹_› _ | exact Sub.app (Sub.refl _) _)); (· assumption); (· first | assumption | omega)) | ((with_reducible refine Z2w ?_); rintro _ _ ⟨rfl, hh⟩; replace hh := hh.symm; subst hh))
    exact ⟨by obtain ⟨_, e⟩ := e4; rw [e]; rfl, _, rfl⟩
  · have d4 : decide (szM t.stops.length (szM t.cuts.length (szM t.out.length (szM t.inn.length left))) < 0) = false := decide_eq_false n4
    clear n4
    refine Z36 Try.func56 rfl Try.ntmps56 (by simp) (by dsimp only [Try.f56]) ?_
    repeat' (first | ((with_reducible refine eq_go ?_); simp only [stp, ev, ZB, reduceIte, Nat.reduceEqDiff, Z2x, Z13, Zy, ldv, fldA, blt, lenV, Z10, ZH, Zg, Ze, Z14, Zw, Z33, Nat.reduceAdd, Nat.reduceMul, Nat.reduceLeDiff, splice, newB, vcs, Ty.t3, Ty.t86, Ty.t88, *]; rfl) | (with_reducible first | refine aw_then ?_ | refine aw_skip ?_ | refine aw_ret ?_ | refine aw_exit ?_ | refine aw_block ?_ | refine xr_reg (by decide +kernel) ?_ | refine xr_nil ?_ | refine k_norm ?_ | refine k_ret ?_ | refine k_exit ?_ | refine b_norm ?_ | refine b_ret ?_ | refine b_exit ?_ | refine b_past (by decide) ?_) | (refine Ty.c76 (args := ?_) (K := ?_) ?_ ?_ ?_; rotate_left 2) | (refine xr_do (v := ?_) (h' := ?_) (by exact rfl) ?_ ?_; rotate_left 2) | (refine xr_st (v := ?_) (h' := ?_) (by exact rfl) ?_ ?_; rotate_left 2) | (refine aw_c (b := ?_) (by decide) ?_ ?_; rotate_left 1; (· simp only [ev, Zb, reduceIte, Nat.reduceEqDiff, *]; rfl)) | (with_reducible first | refine cw_t ?_ | refine cw_f ?_) | refine cw_if (fun hb => ?_) (fun hb => ?_) | (refine r_ret (vs := ?_) ?_ ?_; rotate_left 1; (· simp only [resV, ev, Zb, reduceIte, Nat.reduceEqDiff, Zj, *]; rfl)) | ((with_reducible refine szIntS_ok ?_ _ _ _ ?_ ?_ ?_); rotate_left 1; (· first | assumption | exact SlA.sub ‹_› (by first | assumption | exact Sub.refl _ | exact Sub.app ‹_› _ | exact Sub.app (Sub.refl _) _)); (· assumption); (· first | assumption | omega)) | ((with_reducible refine Z2w ?_); rintro _ _ ⟨rfl, hh⟩; replace hh := hh.symm; subst hh))
    exact ⟨rfl, _, rfl⟩
def szTK : List TaskM → Int → Int
  | [], left => left
  | t :: l, left => if szTk t left < 0 then -1 else szTK l (szTk t left)
def szTS (l : List TaskM) (left : Int) : Int := if left - l.length < 0 then -1 else szTK l (left - l.length)
theorem szTK_range : ∀ (l : List TaskM) (left : Int), 0 ≤ left ∧ left ≤ 1048576 → ¬ szTK l left < 0 → (0 ≤ szTK l left ∧ szTK l left ≤ 1048576) ∧ ∀ t ∈ l, t.small
  | [], left, h0, h => ⟨h0, fun s hs => by simp at hs⟩
  | t :: l, left, h0, h => by
      simp only [szTK] at h ⊢
      split at h <;> rename_i q
      · omega
      · rw [if_neg q]
        have r := szTk_range h0 q
        have := szTK_range l _ r.1 h
        refine ⟨this.1, fun x hx => ?_⟩
        rcases List.mem_cons.1 hx with rfl | hx
        · exact r.2
        · exact this.2 x hx
theorem szTS_range {l : List TaskM} {left : Int} (h0 : 0 ≤ left ∧ left ≤ 1048576) (h : ¬ szTS l left < 0) : (0 ≤ szTS l left ∧ szTS l left ≤ 1048576) ∧ l.length ≤ 1048576 ∧ ∀ t ∈ l, t.small := by
  unfold szTS at h ⊢
  split at h <;> rename_i q
  · omega
  · rw [if_neg q]
    have := szTK_range l _ (by omega) h
    exact ⟨this.1, by omega, this.2⟩
theorem szTK_neg : ∀ (l : List TaskM) (left : Int), 0 ≤ left → szTK l left < 0 → szTK l left = -1
  | [], left, h0, h => by simp only [szTK] at h; omega
  | t :: l, left, h0, h => by
      simp only [szTK] at h ⊢
      split at h <;> rename_i q
      · rw [if_pos q]
      · rw [if_neg q]; exact szTK_neg l _ (by omega) h
theorem szTS_neg {l : List TaskM} {left : Int} (h : szTS l left < 0) : szTS l left = -1 := by
  unfold szTS at h ⊢
  split at h <;> rename_i q
  · rw [if_pos q]
  · rw [if_neg q]; exact szTK_neg l _ (by omega) h
theorem szTK_step {l : List TaskM} {k : Nat} (hk : k < l.length) (left : Int) : szTK (l.drop k) left = if szTk l[k] left < 0 then -1 else szTK (l.drop (k + 1)) (szTk l[k] left) := by
  rw [List.drop_eq_getElem_cons hk]; rfl
theorem szTaskS_ok (l : List TaskM) (left : Int) (v : Value) (h : Heap) (hs : RTasksA h v l) (hl : l.length ≤ 9223372036854775807) (hz : ∀ t ∈ l, t.fitL) (h0 : 0 ≤ left ∧ left ≤ 1048576) :
    ACalls Try.prog 0 41 #[v, .int .i64 left] h fun v h' => v = .int .i64 (szTS l left) ∧ h' = h := by
  rcases hs with hs | ⟨rfl, rfl⟩
  · obtain ⟨b, c, rfl, hc, hrow⟩ := hs.form
    clear hs
    have hw : IntKind.i64.wrap (left - l.length) = left - l.length := wrap_id (by omega)
    by_cases hn : left - l.length < 0
    · have hd : decide (left - (l.length : Int) < 0) = true := decide_eq_true hn
      have hr : szTS l left = -1 := if_pos hn
      clear hn hrow
      refine Z36 Try.func41 rfl Try.ntmps41 (by simp) (by dsimp only [Try.f41]) ?_
      repeat' (first | ((with_reducible refine eq_go ?_); simp only [stp, ev, ZB, reduceIte, Nat.reduceEqDiff, Z2x, Z13, Zy, ldv, idxA, blt, lenV, Z10, ZH, Zg, Ze, Z14, Zw, Z33, Nat.reduceAdd, Nat.reduceMul, Nat.reduceLeDiff, splice, newB, vcs, Ty.t3, Ty.t22, Ty.t86, Ty.t88, *]; rfl) | (with_reducible first | refine aw_then ?_ | refine aw_skip ?_ | refine aw_ret ?_ | refine aw_exit ?_ | refine aw_block ?_ | refine xr_reg (by decide +kernel) ?_ | refine xr_nil ?_ | refine k_norm ?_ | refine k_ret ?_ | refine k_exit ?_ | refine b_norm ?_ | refine b_ret ?_ | refine b_exit ?_ | refine b_past (by decide) ?_) | (refine Ty.c56 (args := ?_) (K := ?_) ?_ ?_ ?_; rotate_left 2) | (refine xr_do (v := ?_) (h' := ?_) (by exact rfl) ?_ ?_; rotate_left 2) | (refine xr_st (v := ?_) (h' := ?_) (by exact rfl) ?_ ?_; rotate_left 2) | (refine aw_c (b := ?_) (by decide) ?_ ?_; rotate_left 1; (· simp only [ev, Zb, reduceIte, Nat.reduceEqDiff, *]; rfl)) | (with_reducible first | refine cw_t ?_ | refine cw_f ?_) | refine cw_if (fun hb => ?_) (fun hb => ?_) | (refine r_ret (vs := ?_) ?_ ?_; rotate_left 1; (· simp only [resV, ev, Zb, reduceIte, Nat.reduceEqDiff, Zj, *]; rfl)) | ((with_reducible refine szTask_ok t _ _ _ _ _ _ ?_ ?_ ?_ ?_ ?_ ?_); (· first | assumption | exact SlA.sub ‹_› (by first | assumption | exact Sub.refl _ | exact Sub.app ‹_› _ | exact Sub.app (Sub.refl _) _)); (· first | assumption | exact SlA.sub ‹_› (by first | assumption | exact Sub.refl _ | exact Sub.app ‹_› _ | exact Sub.app (Sub.refl _) _)); (· first | assumption | exact SlA.sub ‹_› (by first | assumption | exact Sub.refl _ | exact Sub.app ‹_› _ | exact Sub.app (Sub.refl _) _)); (· first | assumption | exact SlA.sub ‹_› (by first | assumption | exact Sub.refl _ | exact Sub.app ‹_› _ | exact Sub.app (Sub.refl _) _)); (· assumption); (· assumption)) | ((with_reducible refine Z2w ?_); rintro _ _ ⟨rfl, hh⟩; replace hh := hh.symm; subst hh))
      exact ⟨by rw [hr]; rfl, rfl⟩
    · have hd : decide (left - (l.length : Int) < 0) = false := decide_eq_false hn
      have hr : szTS l left = szTK l (left - l.length) := if_neg hn
      have h01 : 0 ≤ left - (l.length : Int) ∧ left - (l.length : Int) ≤ 1048576 := by omega
      clear hn
      rw [hr]
      clear hr
      refine Z36 Try.func41 rfl Try.ntmps41 (by simp) (by dsimp only [Try.f41]) ?_
      repeat' (first | ((with_reducible refine eq_go ?_); simp only [stp, ev, ZB, reduceIte, Nat.reduceEqDiff, Z2x, Z13, Zy, ldv, idxA, blt, lenV, Z10, ZH, Zg, Ze, Z14, Zw, Z33, Nat.reduceAdd, Nat.reduceMul, Nat.reduceLeDiff, splice, newB, vcs, Ty.t3, Ty.t22, Ty.t86, Ty.t88, *]; rfl) | (with_reducible first | refine aw_then ?_ | refine aw_skip ?_ | refine aw_ret ?_ | refine aw_exit ?_ | refine aw_block ?_ | refine xr_reg (by decide +kernel) ?_ | refine xr_nil ?_ | refine k_norm ?_ | refine k_ret ?_ | refine k_exit ?_ | refine b_norm ?_ | refine b_ret ?_ | refine b_exit ?_ | refine b_past (by decide) ?_) | (refine Ty.c56 (args := ?_) (K := ?_) ?_ ?_ ?_; rotate_left 2) | (refine xr_do (v := ?_) (h' := ?_) (by exact rfl) ?_ ?_; rotate_left 2) | (refine xr_st (v := ?_) (h' := ?_) (by exact rfl) ?_ ?_; rotate_left 2) | (refine aw_c (b := ?_) (by decide) ?_ ?_; rotate_left 1; (· simp only [ev, Zb, reduceIte, Nat.reduceEqDiff, *]; rfl)) | (with_reducible first | refine cw_t ?_ | refine cw_f ?_) | refine cw_if (fun hb => ?_) (fun hb => ?_) | (refine r_ret (vs := ?_) ?_ ?_; rotate_left 1; (· simp only [resV, ev, Zb, reduceIte, Nat.reduceEqDiff, Zj, *]; rfl)) | ((with_reducible refine szTask_ok t _ _ _ _ _ _ ?_ ?_ ?_ ?_ ?_ ?_); (· first | assumption | exact SlA.sub ‹_› (by first | assumption | exact Sub.refl _ | exact Sub.app ‹_› _ | exact Sub.app (Sub.refl _) _)); (· first | assumption | exact SlA.sub ‹_› (by first | assumption | exact Sub.refl _ | exact Sub.app ‹_› _ | exact Sub.app (Sub.refl _) _)); (· first | assumption | exact SlA.sub ‹_› (by first | assumption | exact Sub.refl _ | exact Sub.app ‹_› _ | exact Sub.app (Sub.refl _) _)); (· first | assumption | exact SlA.sub ‹_› (by first | assumption | exact Sub.refl _ | exact Sub.app ‹_› _ | exact Sub.app (Sub.refl _) _)); (· assumption); (· assumption)) | ((with_reducible refine Z2w ?_); rintro _ _ ⟨rfl, hh⟩; replace hh := hh.symm; subst hh))
      refine aw_for [0] (fun k T h' => ∃ r, h' = h ∧ T 5 = .int .i64 k ∧ T 1 = .int .i64 r ∧ (0 ≤ r ∧ r ≤ 1048576) ∧ szTK (l.drop k) r = szTK l (left - l.length)) l.length (k0 := 0) (Nat.zero_le _) ⟨_, rfl, rfl, rfl, h01, by rw [Z19]⟩ ?_
      rintro k T h' hk hR ⟨r, rfl, h11, h12, hr0, hall⟩
      simp only [Z37, Z38, Z39, implies_true, and_true, stp, ev, ZB, reduceIte, Nat.reduceEqDiff, Z2x, Z13, Zy] at hR
      clear hd hw
      rcases Nat.lt_or_ge k l.length with hkn | hkn
      · have h1 : (k : Int) < l.length := by omega
        obtain ⟨a1, row, rfl, hrl, hrt, hld0⟩ := hrow k hkn
        obtain ⟨x, y, z, w, rfl, q1, q2, q3, q4, _⟩ := hrt
        have hld := hld0 h' (Sub.refl _)
        have hfz := hz l[k] (List.getElem_mem hkn)
        rw [szTK_step hkn] at hall
        clear hrow hld0 hz
        generalize l[k] = t at *
        by_cases hn : szTk t r < 0
        · have hd : decide (szTk t r < 0) = true := decide_eq_true hn
          rw [if_pos hn] at hall
          clear hn
          repeat' (first | ((with_reducible refine eq_go ?_); simp only [stp, ev, ZB, reduceIte, Nat.reduceEqDiff, Z2x, Z13, Zy, ldv, idxA, blt, lenV, Z10, ZH, Zg, Ze, Z14, Zw, Z33, Nat.reduceAdd, Nat.reduceMul, Nat.reduceLeDiff, splice, newB, vcs, Ty.t3, Ty.t22, Ty.t86, Ty.t88, *]; rfl) | (with_reducible first | refine aw_then ?_ | refine aw_skip ?_ | refine aw_ret ?_ | refine aw_exit ?_ | refine aw_block ?_ | refine xr_reg (by decide +kernel) ?_ | refine xr_nil ?_ | refine k_norm ?_ | refine k_ret ?_ | refine k_exit ?_ | refine b_norm ?_ | refine b_ret ?_ | refine b_exit ?_ | refine b_past (by decide) ?_) | (refine Ty.c56 (args := ?_) (K := ?_) ?_ ?_ ?_; rotate_left 2) | (refine xr_do (v := ?_) (h' := ?_) (by exact rfl) ?_ ?_; rotate_left 2) | (refine xr_st (v := ?_) (h' := ?_) (by exact rfl) ?_ ?_; rotate_left 2) | (refine aw_c (b := ?_) (by decide) ?_ ?_; rotate_left 1; (· simp only [ev, Zb, reduceIte, Nat.reduceEqDiff, *]; rfl)) | (with_reducible first | refine cw_t ?_ | refine cw_f ?_) | refine cw_if (fun hb => ?_) (fun hb => ?_) | (refine r_ret (vs := ?_) ?_ ?_; rotate_left 1; (· simp only [resV, ev, Zb, reduceIte, Nat.reduceEqDiff, Zj, *]; rfl)) | ((with_reducible refine szTask_ok t _ _ _ _ _ _ ?_ ?_ ?_ ?_ ?_ ?_); (· first | assumption | exact SlA.sub ‹_› (by first | assumption | exact Sub.refl _ | exact Sub.app ‹_› _ | exact Sub.app (Sub.refl _) _)); (· first | assumption | exact SlA.sub ‹_› (by first | assumption | exact Sub.refl _ | exact Sub.app ‹_› _ | exact Sub.app (Sub.refl _) _)); (· first | assumption | exact SlA.sub ‹_› (by first | assumption | exact Sub.refl _ | exact Sub.app ‹_› _ | exact Sub.app (Sub.refl _) _)); (· first | assumption | exact SlA.sub ‹_› (by first | assumption | exact Sub.refl _ | exact Sub.app ‹_› _ | exact Sub.app (Sub.refl _) _)); (· assumption); (· assumption)) | ((with_reducible refine Z2w ?_); rintro _ _ ⟨rfl, hh⟩; replace hh := hh.symm; subst hh))
          exact ⟨by rw [← hall]; rfl, rfl⟩
        · have hd : decide (szTk t r < 0) = false := decide_eq_false hn
          rw [if_neg hn] at hall
          have hr1 := (szTk_range hr0 hn).1
          clear hn
          repeat' (first | ((with_reducible refine eq_go ?_); simp only [stp, ev, ZB, reduceIte, Nat.reduceEqDiff, Z2x, Z13, Zy, ldv, idxA, blt, lenV, Z10, ZH, Zg, Ze, Z14, Zw, Z33, Nat.reduceAdd, Nat.reduceMul, Nat.reduceLeDiff, splice, newB, vcs, Ty.t3, Ty.t22, Ty.t86, Ty.t88, *]; rfl) | (with_reducible first | refine aw_then ?_ | refine aw_skip ?_ | refine aw_ret ?_ | refine aw_exit ?_ | refine aw_block ?_ | refine xr_reg (by decide +kernel) ?_ | refine xr_nil ?_ | refine k_norm ?_ | refine k_ret ?_ | refine k_exit ?_ | refine b_norm ?_ | refine b_ret ?_ | refine b_exit ?_ | refine b_past (by decide) ?_) | (refine Ty.c56 (args := ?_) (K := ?_) ?_ ?_ ?_; rotate_left 2) | (refine xr_do (v := ?_) (h' := ?_) (by exact rfl) ?_ ?_; rotate_left 2) | (refine xr_st (v := ?_) (h' := ?_) (by exact rfl) ?_ ?_; rotate_left 2) | (refine aw_c (b := ?_) (by decide) ?_ ?_; rotate_left 1; (· simp only [ev, Zb, reduceIte, Nat.reduceEqDiff, *]; rfl)) | (with_reducible first | refine cw_t ?_ | refine cw_f ?_) | refine cw_if (fun hb => ?_) (fun hb => ?_) | (refine r_ret (vs := ?_) ?_ ?_; rotate_left 1; (· simp only [resV, ev, Zb, reduceIte, Nat.reduceEqDiff, Zj, *]; rfl)) | ((with_reducible refine szTask_ok t _ _ _ _ _ _ ?_ ?_ ?_ ?_ ?_ ?_); (· first | assumption | exact SlA.sub ‹_› (by first | assumption | exact Sub.refl _ | exact Sub.app ‹_› _ | exact Sub.app (Sub.refl _) _)); (· first | assumption | exact SlA.sub ‹_› (by first | assumption | exact Sub.refl _ | exact Sub.app ‹_› _ | exact Sub.app (Sub.refl _) _)); (· first | assumption | exact SlA.sub ‹_› (by first | assumption | exact Sub.refl _ | exact Sub.app ‹_› _ | exact Sub.app (Sub.refl _) _)); (· first | assumption | exact SlA.sub ‹_› (by first | assumption | exact Sub.refl _ | exact Sub.app ‹_› _ | exact Sub.app (Sub.refl _) _)); (· assumption); (· assumption)) | ((with_reducible refine Z2w ?_); rintro _ _ ⟨rfl, hh⟩; replace hh := hh.symm; subst hh))
          refine ⟨by first | assumption | omega, ?_, ?_⟩
          · simp only [Z37, Z38, Z39, implies_true, and_true, ZB, stp, ev, reduceIte, Nat.reduceEqDiff, Z2x, Z13, Zy, *]
          refine ⟨_, rfl, ?_, rfl, hr1, hall⟩
          simp only [Zb, reduceIte, Nat.reduceEqDiff]
          rw [wrap_id (by omega)]; rfl
      · have h1 : ¬ (k : Int) < l.length := by omega
        obtain rfl : k = l.length := by omega
        rw [List.drop_length] at hall
        clear hrow
        repeat' (first | ((with_reducible refine eq_go ?_); simp only [stp, ev, ZB, reduceIte, Nat.reduceEqDiff, Z2x, Z13, Zy, ldv, idxA, blt, lenV, Z10, ZH, Zg, Ze, Z14, Zw, Z33, Nat.reduceAdd, Nat.reduceMul, Nat.reduceLeDiff, splice, newB, vcs, Ty.t3, Ty.t22, Ty.t86, Ty.t88, *]; rfl) | (with_reducible first | refine aw_then ?_ | refine aw_skip ?_ | refine aw_ret ?_ | refine aw_exit ?_ | refine aw_block ?_ | refine xr_reg (by decide +kernel) ?_ | refine xr_nil ?_ | refine k_norm ?_ | refine k_ret ?_ | refine k_exit ?_ | refine b_norm ?_ | refine b_ret ?_ | refine b_exit ?_ | refine b_past (by decide) ?_) | (refine Ty.c56 (args := ?_) (K := ?_) ?_ ?_ ?_; rotate_left 2) | (refine xr_do (v := ?_) (h' := ?_) (by exact rfl) ?_ ?_; rotate_left 2) | (refine xr_st (v := ?_) (h' := ?_) (by exact rfl) ?_ ?_; rotate_left 2) | (refine aw_c (b := ?_) (by decide) ?_ ?_; rotate_left 1; (· simp only [ev, Zb, reduceIte, Nat.reduceEqDiff, *]; rfl)) | (with_reducible first | refine cw_t ?_ | refine cw_f ?_) | refine cw_if (fun hb => ?_) (fun hb => ?_) | (refine r_ret (vs := ?_) ?_ ?_; rotate_left 1; (· simp only [resV, ev, Zb, reduceIte, Nat.reduceEqDiff, Zj, *]; rfl)) | ((with_reducible refine szTask_ok t _ _ _ _ _ _ ?_ ?_ ?_ ?_ ?_ ?_); (· first | assumption | exact SlA.sub ‹_› (by first | assumption | exact Sub.refl _ | exact Sub.app ‹_› _ | exact Sub.app (Sub.refl _) _)); (· first | assumption | exact SlA.sub ‹_› (by first | assumption | exact Sub.refl _ | exact Sub.app ‹_› _ | exact Sub.app (Sub.refl _) _)); (· first | assumption | exact SlA.sub ‹_› (by first | assumption | exact Sub.refl _ | exact Sub.app ‹_› _ | exact Sub.app (Sub.refl _) _)); (· first | assumption | exact SlA.sub ‹_› (by first | assumption | exact Sub.refl _ | exact Sub.app ‹_› _ | exact Sub.app (Sub.refl _) _)); (· assumption); (· assumption)) | ((with_reducible refine Z2w ?_); rintro _ _ ⟨rfl, hh⟩; replace hh := hh.symm; subst hh))
        exact ⟨by rw [← hall]; rfl, rfl⟩
  · have hw : IntKind.i64.wrap (left - 0) = left := by rw [wrap_id (by omega)]; omega
    have hlt : ¬ left < 0 := by omega
    have hr : szTS [] left = left := by
      unfold szTS
      rw [if_neg (by simp; omega)]; simp [szTK]
    refine Z36 Try.func41 rfl Try.ntmps41 (by simp) (by dsimp only [Try.f41]) ?_
    repeat' (first | ((with_reducible refine eq_go ?_); simp only [stp, ev, ZB, reduceIte, Nat.reduceEqDiff, Z2x, Z13, Zy, ldv, idxA, blt, lenV, Z10, ZH, Zg, Ze, Z14, Zw, Z33, Nat.reduceAdd, Nat.reduceMul, Nat.reduceLeDiff, splice, newB, vcs, Ty.t3, Ty.t22, Ty.t86, Ty.t88, *]; rfl) | (with_reducible first | refine aw_then ?_ | refine aw_skip ?_ | refine aw_ret ?_ | refine aw_exit ?_ | refine aw_block ?_ | refine xr_reg (by decide +kernel) ?_ | refine xr_nil ?_ | refine k_norm ?_ | refine k_ret ?_ | refine k_exit ?_ | refine b_norm ?_ | refine b_ret ?_ | refine b_exit ?_ | refine b_past (by decide) ?_) | (refine Ty.c56 (args := ?_) (K := ?_) ?_ ?_ ?_; rotate_left 2) | (refine xr_do (v := ?_) (h' := ?_) (by exact rfl) ?_ ?_; rotate_left 2) | (refine xr_st (v := ?_) (h' := ?_) (by exact rfl) ?_ ?_; rotate_left 2) | (refine aw_c (b := ?_) (by decide) ?_ ?_; rotate_left 1; (· simp only [ev, Zb, reduceIte, Nat.reduceEqDiff, *]; rfl)) | (with_reducible first | refine cw_t ?_ | refine cw_f ?_) | refine cw_if (fun hb => ?_) (fun hb => ?_) | (refine r_ret (vs := ?_) ?_ ?_; rotate_left 1; (· simp only [resV, ev, Zb, reduceIte, Nat.reduceEqDiff, Zj, *]; rfl)) | ((with_reducible refine szTask_ok t _ _ _ _ _ _ ?_ ?_ ?_ ?_ ?_ ?_); (· first | assumption | exact SlA.sub ‹_› (by first | assumption | exact Sub.refl _ | exact Sub.app ‹_› _ | exact Sub.app (Sub.refl _) _)); (· first | assumption | exact SlA.sub ‹_› (by first | assumption | exact Sub.refl _ | exact Sub.app ‹_› _ | exact Sub.app (Sub.refl _) _)); (· first | assumption | exact SlA.sub ‹_› (by first | assumption | exact Sub.refl _ | exact Sub.app ‹_› _ | exact Sub.app (Sub.refl _) _)); (· first | assumption | exact SlA.sub ‹_› (by first | assumption | exact Sub.refl _ | exact Sub.app ‹_› _ | exact Sub.app (Sub.refl _) _)); (· assumption); (· assumption)) | ((with_reducible refine Z2w ?_); rintro _ _ ⟨rfl, hh⟩; replace hh := hh.symm; subst hh))
    refine aw_for [0] (fun k T h' => h' = h ∧ T 5 = .int .i64 0 ∧ T 1 = .int .i64 left) 0 (k0 := 0) (Nat.zero_le _) ⟨rfl, rfl, by simp only [Zb, reduceIte, Nat.reduceEqDiff, *]⟩ ?_
    rintro k T h' hk hR ⟨rfl, h11, h12⟩
    simp only [Z37, Z38, Z39, implies_true, and_true, stp, ev, ZB, reduceIte, Nat.reduceEqDiff, Z2x, Z13, Zy] at hR
    have h1 : decide ((0 : Int) < 0) = false := rfl
    repeat' (first | ((with_reducible refine eq_go ?_); simp only [stp, ev, ZB, reduceIte, Nat.reduceEqDiff, Z2x, Z13, Zy, ldv, idxA, blt, lenV, Z10, ZH, Zg, Ze, Z14, Zw, Z33, Nat.reduceAdd, Nat.reduceMul, Nat.reduceLeDiff, splice, newB, vcs, Ty.t3, Ty.t22, Ty.t86, Ty.t88, *]; rfl) | (with_reducible first | refine aw_then ?_ | refine aw_skip ?_ | refine aw_ret ?_ | refine aw_exit ?_ | refine aw_block ?_ | refine xr_reg (by decide +kernel) ?_ | refine xr_nil ?_ | refine k_norm ?_ | refine k_ret ?_ | refine k_exit ?_ | refine b_norm ?_ | refine b_ret ?_ | refine b_exit ?_ | refine b_past (by decide) ?_) | (refine Ty.c56 (args := ?_) (K := ?_) ?_ ?_ ?_; rotate_left 2) | (refine xr_do (v := ?_) (h' := ?_) (by exact rfl) ?_ ?_; rotate_left 2) | (refine xr_st (v := ?_) (h' := ?_) (by exact rfl) ?_ ?_; rotate_left 2) | (refine aw_c (b := ?_) (by decide) ?_ ?_; rotate_left 1; (· simp only [ev, Zb, reduceIte, Nat.reduceEqDiff, *]; rfl)) | (with_reducible first | refine cw_t ?_ | refine cw_f ?_) | refine cw_if (fun hb => ?_) (fun hb => ?_) | (refine r_ret (vs := ?_) ?_ ?_; rotate_left 1; (· simp only [resV, ev, Zb, reduceIte, Nat.reduceEqDiff, Zj, *]; rfl)) | ((with_reducible refine szTask_ok t _ _ _ _ _ _ ?_ ?_ ?_ ?_ ?_ ?_); (· first | assumption | exact SlA.sub ‹_› (by first | assumption | exact Sub.refl _ | exact Sub.app ‹_› _ | exact Sub.app (Sub.refl _) _)); (· first | assumption | exact SlA.sub ‹_› (by first | assumption | exact Sub.refl _ | exact Sub.app ‹_› _ | exact Sub.app (Sub.refl _) _)); (· first | assumption | exact SlA.sub ‹_› (by first | assumption | exact Sub.refl _ | exact Sub.app ‹_› _ | exact Sub.app (Sub.refl _) _)); (· first | assumption | exact SlA.sub ‹_› (by first | assumption | exact Sub.refl _ | exact Sub.app ‹_› _ | exact Sub.app (Sub.refl _) _)); (· assumption); (· assumption)) | ((with_reducible refine Z2w ?_); rintro _ _ ⟨rfl, hh⟩; replace hh := hh.symm; subst hh))
    exact ⟨by rw [hr]; rfl, rfl⟩
theorem szSpec_ok (c : Int) (l : List TaskM) (left : Int) (v : Value) (h : Heap) (hs : RTasksA h v l) (hl : l.length ≤ 9223372036854775807) (hz : ∀ t ∈ l, t.fitL) (h0 : 0 ≤ left ∧ left ≤ 1048576) :
    ACalls Try.prog 0 21 #[.agg #[.int .i64 c, v], .int .i64 left] h fun v h' => v = .int .i64 (szTS l left) ∧ h' = h := by
  refine acalls_pure (.inl rfl) ?_
  have hf := hs.flat
  by_cases hn : szTS l left < 0
  · have hd : decide (szTS l left < 0) = true := decide_eq_true hn
    have hr : ∃ z : Unit, szTS l left = -1 := ⟨(), szTS_neg hn⟩
    clear hn
    refine Z36 Try.func21 rfl Try.ntmps21 (by simp) (by dsimp only [Try.f21]) ?_
    repeat' (first | ((with_reducible refine eq_go ?_); simp only [stp, ev, ZB, reduceIte, Nat.reduceEqDiff, Z2x, Z13, Zy, ldv, fldA, blt, lenV, Z10, ZH, Zg, Ze, Z14, Zw, Z33, Nat.reduceAdd, Nat.reduceMul, Nat.reduceLeDiff, splice, newB, vcs, Ty.t3, Ty.t22, Ty.t24, Ty.t86, Ty.t88, *]; rfl) | (with_reducible first | refine aw_then ?_ | refine aw_skip ?_ | refine aw_ret ?_ | refine aw_exit ?_ | refine aw_block ?_ | refine xr_reg (by decide +kernel) ?_ | refine xr_nil ?_ | refine k_norm ?_ | refine k_ret ?_ | refine k_exit ?_ | refine b_norm ?_ | refine b_ret ?_ | refine b_exit ?_ | refine b_past (by decide) ?_) | (refine Ty.c41 (args := ?_) (K := ?_) ?_ ?_ ?_; rotate_left 2) | (refine xr_do (v := ?_) (h' := ?_) (by exact rfl) ?_ ?_; rotate_left 2) | (refine xr_st (v := ?_) (h' := ?_) (by exact rfl) ?_ ?_; rotate_left 2) | (refine aw_c (b := ?_) (by decide) ?_ ?_; rotate_left 1; (· simp only [ev, Zb, reduceIte, Nat.reduceEqDiff, *]; rfl)) | (with_reducible first | refine cw_t ?_ | refine cw_f ?_) | refine cw_if (fun hb => ?_) (fun hb => ?_) | (refine r_ret (vs := ?_) ?_ ?_; rotate_left 1; (· simp only [resV, ev, Zb, reduceIte, Nat.reduceEqDiff, Zj, *]; rfl)) | ((with_reducible refine szTaskS_ok ?_ _ _ _ ?_ ?_ ?_ ?_); rotate_left 1; (· first | assumption | exact RTasksA.sub ‹_› (by first | assumption | exact Sub.refl _ | exact Sub.app ‹_› _ | exact Sub.app (Sub.refl _) _)); (· assumption); (· assumption); (· assumption)) | ((with_reducible refine Z2w ?_); rintro _ _ ⟨rfl, hh⟩; replace hh := hh.symm; subst hh))
    exact ⟨by obtain ⟨_, e⟩ := hr; rw [e]; rfl, _, rfl⟩
  · have hd : decide (szTS l left < 0) = false := decide_eq_false hn
    clear hn
    refine Z36 Try.func21 rfl Try.ntmps21 (by simp) (by dsimp only [Try.f21]) ?_
    repeat' (first | ((with_reducible refine eq_go ?_); simp only [stp, ev, ZB, reduceIte, Nat.reduceEqDiff, Z2x, Z13, Zy, ldv, fldA, blt, lenV, Z10, ZH, Zg, Ze, Z14, Zw, Z33, Nat.reduceAdd, Nat.reduceMul, Nat.reduceLeDiff, splice, newB, vcs, Ty.t3, Ty.t22, Ty.t24, Ty.t86, Ty.t88, *]; rfl) | (with_reducible first | refine aw_then ?_ | refine aw_skip ?_ | refine aw_ret ?_ | refine aw_exit ?_ | refine aw_block ?_ | refine xr_reg (by decide +kernel) ?_ | refine xr_nil ?_ | refine k_norm ?_ | refine k_ret ?_ | refine k_exit ?_ | refine b_norm ?_ | refine b_ret ?_ | refine b_exit ?_ | refine b_past (by decide) ?_) | (refine Ty.c41 (args := ?_) (K := ?_) ?_ ?_ ?_; rotate_left 2) | (refine xr_do (v := ?_) (h' := ?_) (by exact rfl) ?_ ?_; rotate_left 2) | (refine xr_st (v := ?_) (h' := ?_) (by exact rfl) ?_ ?_; rotate_left 2) | (refine aw_c (b := ?_) (by decide) ?_ ?_; rotate_left 1; (· simp only [ev, Zb, reduceIte, Nat.reduceEqDiff, *]; rfl)) | (with_reducible first | refine cw_t ?_ | refine cw_f ?_) | refine cw_if (fun hb => ?_) (fun hb => ?_) | (refine r_ret (vs := ?_) ?_ ?_; rotate_left 1; (· simp only [resV, ev, Zb, reduceIte, Nat.reduceEqDiff, Zj, *]; rfl)) | ((with_reducible refine szTaskS_ok ?_ _ _ _ ?_ ?_ ?_ ?_); rotate_left 1; (· first | assumption | exact RTasksA.sub ‹_› (by first | assumption | exact Sub.refl _ | exact Sub.app ‹_› _ | exact Sub.app (Sub.refl _) _)); (· assumption); (· assumption); (· assumption)) | ((with_reducible refine Z2w ?_); rintro _ _ ⟨rfl, hh⟩; replace hh := hh.symm; subst hh))
    exact ⟨rfl, _, rfl⟩
def PaperM.fitL (p : PaperM) : Prop := p.spec.tasks.length ≤ 9223372036854775807 ∧ (∀ t ∈ p.spec.tasks, t.fitL) ∧ p.names.length ≤ 9223372036854775807 ∧ ∀ s ∈ p.names, s.size ≤ 9223372036854775807
def szP (p : PaperM) (left : Int) : Int := if szTS p.spec.tasks left < 0 then -1 else szS p.names (szTS p.spec.tasks left)
theorem szP_range {p : PaperM} {left : Int} (h0 : 0 ≤ left ∧ left ≤ 1048576) (h : ¬ szP p left < 0) : p.small := by
  unfold szP at h
  split at h <;> rename_i q
  · omega
  · have r := szTS_range h0 q
    have r2 := szS_range r.1 h
    exact ⟨⟨r.2.1, r.2.2⟩, r2.2.2.1, r2.2.2.2⟩
theorem szS_neg {l : List ByteArray} {left : Int} (h : szS l left < 0) : szS l left = -1 := by
  unfold szS at h ⊢
  split at h <;> rename_i q
  · rw [if_pos q]
  · rw [if_neg q]; exact szSK_neg l _ (by omega) h
theorem szPaper_ok (p : PaperM) (left : Int) (v vn : Value) (h : Heap) (hs : RTasksA h v p.spec.tasks) (hn : SlA h vn 1 (strs p.names)) (hl : p.fitL) (h0 : 0 ≤ left ∧ left ≤ 1048576) :
    ACalls Try.prog 0 6 #[.agg #[.int .i64 p.spec.conds, v, vn], .int .i64 left] h fun v h' => v = .int .i64 (szP p left) ∧ h' = h := by
  refine acalls_pure (.inl rfl) ?_
  have hf := hs.flat
  have hf2 := hn.flat
  obtain ⟨l1, l2, l3, l4⟩ := hl
  by_cases h1 : szTS p.spec.tasks left < 0
  · have hd : decide (szTS p.spec.tasks left < 0) = true := decide_eq_true h1
    have hr : szP p left = -1 := if_pos h1
    clear h1
    refine Z36 Try.func6 rfl Try.ntmps6 (by simp) (by dsimp only [Try.f6]) ?_
    repeat' (first | ((with_reducible refine eq_go ?_); simp only [stp, ev, ZB, reduceIte, Nat.reduceEqDiff, Z2x, Z13, Zy, ldv, fldA, blt, lenV, Z10, ZH, Zg, Ze, Z14, Zw, Z33, Nat.reduceAdd, Nat.reduceMul, Nat.reduceLeDiff, splice, newB, vcs, Ty.t3, Ty.t9, Ty.t22, Ty.t24, Ty.t25, Ty.t27, Ty.t86, Ty.t88, *]; rfl) | (with_reducible first | refine aw_then ?_ | refine aw_skip ?_ | refine aw_ret ?_ | refine aw_exit ?_ | refine aw_block ?_ | refine xr_reg (by decide +kernel) ?_ | refine xr_nil ?_ | refine k_norm ?_ | refine k_ret ?_ | refine k_exit ?_ | refine b_norm ?_ | refine b_ret ?_ | refine b_exit ?_ | refine b_past (by decide) ?_) | (refine Ty.c21 (args := ?_) (K := ?_) ?_ ?_ ?_; rotate_left 2) | (refine Ty.c22 (args := ?_) (K := ?_) ?_ ?_ ?_; rotate_left 2) | (refine xr_do (v := ?_) (h' := ?_) (by exact rfl) ?_ ?_; rotate_left 2) | (refine xr_st (v := ?_) (h' := ?_) (by exact rfl) ?_ ?_; rotate_left 2) | (refine aw_c (b := ?_) (by decide) ?_ ?_; rotate_left 1; (· simp only [ev, Zb, reduceIte, Nat.reduceEqDiff, *]; rfl)) | (with_reducible first | refine cw_t ?_ | refine cw_f ?_) | refine cw_if (fun hb => ?_) (fun hb => ?_) | (refine r_ret (vs := ?_) ?_ ?_; rotate_left 1; (· simp only [resV, ev, Zb, reduceIte, Nat.reduceEqDiff, Zj, *]; rfl)) | ((with_reducible refine szSpec_ok _ ?_ _ _ _ ?_ ?_ ?_ ?_); rotate_left 1; (· first | assumption | exact RTasksA.sub ‹_› (by first | assumption | exact Sub.refl _ | exact Sub.app ‹_› _ | exact Sub.app (Sub.refl _) _)); (· assumption); (· assumption); (· assumption)) | ((with_reducible refine szStringS_ok ?_ _ _ _ ?_ ?_ ?_ ?_); rotate_left 1; (· first | assumption | exact SlA.sub ‹_› (by first | assumption | exact Sub.refl _ | exact Sub.app ‹_› _ | exact Sub.app (Sub.refl _) _)); (· assumption); (· assumption); (· first | assumption | omega)) | ((with_reducible refine Z2w ?_); rintro _ _ ⟨rfl, hh⟩; replace hh := hh.symm; subst hh))
    exact ⟨by rw [hr]; rfl, _, rfl⟩
  · have hd : decide (szTS p.spec.tasks left < 0) = false := decide_eq_false h1
    have r1 := (szTS_range h0 h1).1
    have e1 : szP p left = szS p.names (szTS p.spec.tasks left) := if_neg h1
    rw [e1]
    clear h1 e1
    by_cases h2 : szS p.names (szTS p.spec.tasks left) < 0
    · have hd2 : decide (szS p.names (szTS p.spec.tasks left) < 0) = true := decide_eq_true h2
      have e2 : ∃ z : Unit, szS p.names (szTS p.spec.tasks left) = -1 := ⟨(), szS_neg h2⟩
      clear h2
      refine Z36 Try.func6 rfl Try.ntmps6 (by simp) (by dsimp only [Try.f6]) ?_
      repeat' (first | ((with_reducible refine eq_go ?_); simp only [stp, ev, ZB, reduceIte, Nat.reduceEqDiff, Z2x, Z13, Zy, ldv, fldA, blt, lenV, Z10, ZH, Zg, Ze, Z14, Zw, Z33, Nat.reduceAdd, Nat.reduceMul, Nat.reduceLeDiff, splice, newB, vcs, Ty.t3, Ty.t9, Ty.t22, Ty.t24, Ty.t25, Ty.t27, Ty.t86, Ty.t88, *]; rfl) | (with_reducible first | refine aw_then ?_ | refine aw_skip ?_ | refine aw_ret ?_ | refine aw_exit ?_ | refine aw_block ?_ | refine xr_reg (by decide +kernel) ?_ | refine xr_nil ?_ | refine k_norm ?_ | refine k_ret ?_ | refine k_exit ?_ | refine b_norm ?_ | refine b_ret ?_ | refine b_exit ?_ | refine b_past (by decide) ?_) | (refine Ty.c21 (args := ?_) (K := ?_) ?_ ?_ ?_; rotate_left 2) | (refine Ty.c22 (args := ?_) (K := ?_) ?_ ?_ ?_; rotate_left 2) | (refine xr_do (v := ?_) (h' := ?_) (by exact rfl) ?_ ?_; rotate_left 2) | (refine xr_st (v := ?_) (h' := ?_) (by exact rfl) ?_ ?_; rotate_left 2) | (refine aw_c (b := ?_) (by decide) ?_ ?_; rotate_left 1; (· simp only [ev, Zb, reduceIte, Nat.reduceEqDiff, *]; rfl)) | (with_reducible first | refine cw_t ?_ | refine cw_f ?_) | refine cw_if (fun hb => ?_) (fun hb => ?_) | (refine r_ret (vs := ?_) ?_ ?_; rotate_left 1; (· simp only [resV, ev, Zb, reduceIte, Nat.reduceEqDiff, Zj, *]; rfl)) | ((with_reducible refine szSpec_ok _ ?_ _ _ _ ?_ ?_ ?_ ?_); rotate_left 1; (· first | assumption | exact RTasksA.sub ‹_› (by first | assumption | exact Sub.refl _ | exact Sub.app ‹_› _ | exact Sub.app (Sub.refl _) _)); (· assumption); (· assumption); (· assumption)) | ((with_reducible refine szStringS_ok ?_ _ _ _ ?_ ?_ ?_ ?_); rotate_left 1; (· first | assumption | exact SlA.sub ‹_› (by first | assumption | exact Sub.refl _ | exact Sub.app ‹_› _ | exact Sub.app (Sub.refl _) _)); (· assumption); (· assumption); (· first | assumption | omega)) | ((with_reducible refine Z2w ?_); rintro _ _ ⟨rfl, hh⟩; replace hh := hh.symm; subst hh))
      exact ⟨by obtain ⟨_, e⟩ := e2; rw [e]; rfl, _, rfl⟩
    · have hd2 : decide (szS p.names (szTS p.spec.tasks left) < 0) = false := decide_eq_false h2
      clear h2
      refine Z36 Try.func6 rfl Try.ntmps6 (by simp) (by dsimp only [Try.f6]) ?_
      repeat' (first | ((with_reducible refine eq_go ?_); simp only [stp, ev, ZB, reduceIte, Nat.reduceEqDiff, Z2x, Z13, Zy, ldv, fldA, blt, lenV, Z10, ZH, Zg, Ze, Z14, Zw, Z33, Nat.reduceAdd, Nat.reduceMul, Nat.reduceLeDiff, splice, newB, vcs, Ty.t3, Ty.t9, Ty.t22, Ty.t24, Ty.t25, Ty.t27, Ty.t86, Ty.t88, *]; rfl) | (with_reducible first | refine aw_then ?_ | refine aw_skip ?_ | refine aw_ret ?_ | refine aw_exit ?_ | refine aw_block ?_ | refine xr_reg (by decide +kernel) ?_ | refine xr_nil ?_ | refine k_norm ?_ | refine k_ret ?_ | refine k_exit ?_ | refine b_norm ?_ | refine b_ret ?_ | refine b_exit ?_ | refine b_past (by decide) ?_) | (refine Ty.c21 (args := ?_) (K := ?_) ?_ ?_ ?_; rotate_left 2) | (refine Ty.c22 (args := ?_) (K := ?_) ?_ ?_ ?_; rotate_left 2) | (refine xr_do (v := ?_) (h' := ?_) (by exact rfl) ?_ ?_; rotate_left 2) | (refine xr_st (v := ?_) (h' := ?_) (by exact rfl) ?_ ?_; rotate_left 2) | (refine aw_c (b := ?_) (by decide) ?_ ?_; rotate_left 1; (· simp only [ev, Zb, reduceIte, Nat.reduceEqDiff, *]; rfl)) | (with_reducible first | refine cw_t ?_ | refine cw_f ?_) | refine cw_if (fun hb => ?_) (fun hb => ?_) | (refine r_ret (vs := ?_) ?_ ?_; rotate_left 1; (· simp only [resV, ev, Zb, reduceIte, Nat.reduceEqDiff, Zj, *]; rfl)) | ((with_reducible refine szSpec_ok _ ?_ _ _ _ ?_ ?_ ?_ ?_); rotate_left 1; (· first | assumption | exact RTasksA.sub ‹_› (by first | assumption | exact Sub.refl _ | exact Sub.app ‹_› _ | exact Sub.app (Sub.refl _) _)); (· assumption); (· assumption); (· assumption)) | ((with_reducible refine szStringS_ok ?_ _ _ _ ?_ ?_ ?_ ?_); rotate_left 1; (· first | assumption | exact SlA.sub ‹_› (by first | assumption | exact Sub.refl _ | exact Sub.app ‹_› _ | exact Sub.app (Sub.refl _) _)); (· assumption); (· assumption); (· first | assumption | omega)) | ((with_reducible refine Z2w ?_); rintro _ _ ⟨rfl, hh⟩; replace hh := hh.symm; subst hh))
      exact ⟨rfl, _, rfl⟩
end Go.Proofs.Ytmjhfklmlcnofaa.Am
namespace Go.Proofs.Ytmjhfklmlcnofaa.Am
open Go Go.Proofs
set_option linter.unusedVariables false
set_option linter.unusedSimpArgs false
set_option maxRecDepth 100000
set_option maxHeartbeats 8000000
def taskRow (n : Nat) (t : TaskM) : List Value := [.int .i64 t.join, .int .i64 t.split, ownV n t.inn, ownV (n + 1) t.out, ownV (n + 2) t.cuts, ownV (n + 3) t.stops, .int .i64 t.role]
def taskL (t : TaskM) : Heap := [⟨2, 1, (ints t.inn).flatten⟩, ⟨2, 1, (ints t.out).flatten⟩, ⟨2, 1, (ints t.cuts).flatten⟩, ⟨2, 1, (ints t.stops).flatten⟩]
def taskRows : Nat → List TaskM → List (List Value)
  | _, [] => []
  | n, t :: l => taskRow n t :: taskRows (n + 4) l
def taskLs (l : List TaskM) : Heap := l.flatMap taskL
theorem taskRow_length (n : Nat) (t : TaskM) : (taskRow n t).length = 7 := rfl
theorem taskRow_flat (n : Nat) (t : TaskM) : (taskRow n t).all flat = true := rfl
theorem taskRow_take (n : Nat) (t : TaskM) : (taskRow n t).take 7 = taskRow n t := rfl
theorem taskRows_length : ∀ (n : Nat) (l : List TaskM), (taskRows n l).length = l.length
  | _, [] => rfl
  | n, t :: l => by simp only [taskRows, Z3, taskRows_length (n + 4) l]
theorem taskRows_len : ∀ (n : Nat) (l : List TaskM), ∀ r ∈ taskRows n l, r.length = 7
  | _, [], r, hr => by simp [taskRows] at hr
  | n, t :: l, r, hr => by
      simp only [taskRows, List.mem_cons] at hr
      rcases hr with rfl | hr
      · rfl
      · exact taskRows_len (n + 4) l r hr
theorem taskRows_get : ∀ (n : Nat) (l : List TaskM) (k : Nat) (hk : k < l.length), (taskRows n l)[k]'(by rw [taskRows_length]; exact hk) = taskRow (n + 4 * k) l[k]
  | n, [], k, hk => by simp at hk
  | n, t :: l, 0, hk => rfl
  | n, t :: l, k + 1, hk => by
      simp only [taskRows, List.getElem_cons_succ]
      rw [taskRows_get (n + 4) l k (by simpa using hk)]
      congr 1; omega
theorem taskLs_length : ∀ l : List TaskM, (taskLs l).length = 4 * l.length
  | [] => rfl
  | t :: l => by
      have := taskLs_length l
      simp only [taskLs, List.flatMap_cons, Z6, Z3] at this ⊢
      rw [this, show (taskL t).length = 4 from rfl]; omega
theorem taskLs_get : ∀ (l : List TaskM) (k : Nat) (hk : k < l.length) (j : Nat) (B : Blk), (taskL l[k])[j]? = some B → (taskLs l)[4 * k + j]? = some B
  | [], k, hk, j, B, h => by simp at hk
  | t :: l, 0, hk, j, B, h => by
      simp only [taskLs, List.flatMap_cons, Nat.mul_zero, Zf]
      exact get_old (h := taskL t) h
  | t :: l, k + 1, hk, j, B, h => by
      have := taskLs_get l k (by simpa using hk) j B h
      simp only [taskLs, List.flatMap_cons] at this ⊢
      rw [List.getElem?_append_right (by rw [show (taskL t).length = 4 from rfl]; omega), show (taskL t).length = 4 from rfl, show 4 * (k + 1) + j - 4 = 4 * k + j by omega]
      exact this
theorem inj4 : Inj [3, 4, 5, 6] := by
  intro i j k h1 h2
  rcases i with _ | _ | _ | _ | i <;> rcases j with _ | _ | _ | _ | j <;> simp_all <;> omega
theorem toTask_ok (t : TaskM) (a b c d : Value) (h : Heap) (ha : SlA h a 1 (ints t.inn)) (hb : SlA h b 1 (ints t.out)) (hc : SlA h c 1 (ints t.cuts)) (hd : SlA h d 1 (ints t.stops)) (hl : t.small) :
    ACalls Try.prog 0 63 #[.agg #[.int .i64 t.join, .int .i64 t.split, a, b, c, d, .int .i64 t.role]] h fun v h' => v = .agg (taskRow h.length t).toArray ∧ h' = h ++ taskL t := by
  refine acalls_canon _ _ ?_
  have f1 := ha.flat
  have f2 := hb.flat
  have f3 := hc.flat
  have f4 := hd.flat
  obtain ⟨l1, l2, l3, l4⟩ := hl
  refine Z36 Try.func63 rfl Try.ntmps63 (by simp) (by dsimp only [Try.f63]) ?_
  repeat' (first | ((with_reducible refine eq_go ?_); simp only [stp, ev, ZB, reduceIte, Nat.reduceEqDiff, Z2x, Z13, Zy, ldv, stv, vcs, fldA, blt, lenV, Z10, ZH, Zg, Ze, Z14, Zw, Z33, Nat.reduceAdd, Nat.reduceMul, Nat.reduceLeDiff, splice, newB, Ty.t3, Ty.t86, Ty.t88, Ty.t89, *]; rfl) | (with_reducible first | refine aw_then ?_ | refine aw_skip ?_ | refine aw_ret ?_ | refine aw_exit ?_ | refine aw_block ?_ | refine xr_reg (by decide +kernel) ?_ | refine xr_nil ?_ | refine k_norm ?_ | refine k_ret ?_ | refine k_exit ?_ | refine b_norm ?_ | refine b_ret ?_ | refine b_exit ?_ | refine b_past (by decide) ?_) | (refine Ty.c82 (args := ?_) (K := ?_) ?_ ?_ ?_; rotate_left 2) | (refine xr_do (v := ?_) (h' := ?_) (by exact rfl) ?_ ?_; rotate_left 2) | (refine xr_st (v := ?_) (h' := ?_) (by exact rfl) ?_ ?_; rotate_left 2) | (refine aw_c (b := ?_) (by decide) ?_ ?_; rotate_left 1; (· simp only [ev, Zb, reduceIte, Nat.reduceEqDiff, *]; rfl)) | (with_reducible first | refine cw_t ?_ | refine cw_f ?_) | refine cw_if (fun hb => ?_) (fun hb => ?_) | (refine r_ret (vs := ?_) ?_ ?_; rotate_left 1; (· simp only [resV, oneOf, stp, ev, ZB, reduceIte, Nat.reduceEqDiff, Z2x, Z13, Zy, ldv, stv, vcs, fldA, blt, lenV, Z10, ZH, Zg, Ze, Z14, Zw, Z33, Nat.reduceAdd, Nat.reduceMul, Nat.reduceLeDiff, splice, newB, Ty.t3, Ty.t86, Ty.t88, Ty.t89, *]; rfl)) | ((with_reducible refine toIntS_ok ?_ _ _ ?_ ?_); rotate_left 1; (· first | assumption | exact SlA.sub ‹_› (by first | assumption | exact Sub.refl _ | exact Sub.app ‹_› _ | exact Sub.app (Sub.refl _) _)); (· assumption)) | ((with_reducible refine Z2w ?_); rintro _ _ ⟨rfl, hh⟩; replace hh := hh.symm; subst hh))
  exact ⟨_, [3, 4, 5, 6], rfl, inj4, rfl, BsOk.cons rfl (ints_af _) rfl (BsOk.cons rfl (ints_af _) rfl (BsOk.cons rfl (ints_af _) rfl (BsOk.cons rfl (ints_af _) rfl (BsOk.nil _ _)))),
    RVl.agg (l := [_, _, _, _, _, _, _]) (l' := [_, _, _, _, _, _, _]) ⟨.plain _ rfl, .plain _ rfl, .sl 0 3 _ _ 1 _ _ rfl rfl (ints_flen _) (Z4 _) (.inl ⟨rfl, rfl⟩), .sl 1 4 _ _ 1 _ _ rfl rfl (ints_flen _) (Z4 _) (.inl ⟨rfl, rfl⟩),
      .sl 2 5 _ _ 1 _ _ rfl rfl (ints_flen _) (Z4 _) (.inl ⟨rfl, rfl⟩), .sl 3 6 _ _ 1 _ _ rfl rfl (ints_flen _) (Z4 _) (.inl ⟨rfl, rfl⟩), .plain _ rfl, trivial⟩⟩
theorem toTaskS_ok (l : List TaskM) (v : Value) (h : Heap) (hs : RTasksA h v l) (hl : l.length ≤ 1048576) (hsm : ∀ t ∈ l, t.small) :
    ACalls Try.prog 0 45 #[v] h fun v h' => v = .slice (some ⟨h.length, 0, none⟩) l.length l.length ∧ h' = h ++ ⟨2, 7, (taskRows (h.length + 1) l).flatten⟩ :: taskLs l := by
  rcases hs with hs | ⟨rfl, rfl⟩
  · obtain ⟨b, c, rfl, hc, hrow⟩ := hs.form
    clear hs
    have hmk : mkS Try.prog 30 h (.int .i64 l.length) (.int .i64 l.length) = _ := mkS_eq Ty.sl30 Ty.zc89 Ty.by89 (n := l.length) (by omega) (by omega)
    refine Z36 Try.func45 rfl Try.ntmps45 (by simp) (by dsimp only [Try.f45]) ?_
    repeat' (first | ((with_reducible refine eq_go ?_); simp only [stp, ev, ZB, reduceIte, Nat.reduceEqDiff, Z2x, Z13, Zy, ldv, stv, vcs, idxA, blt, lenV, Z10, ZH, Zg, Ze, Z14, Zw, Z33, Nat.reduceAdd, Nat.reduceMul, Nat.reduceLeDiff, splice, newB, Ty.t3, Ty.t22, Ty.t30, Ty.t86, Ty.t88, Ty.t89, *]; rfl) | (with_reducible first | refine aw_then ?_ | refine aw_skip ?_ | refine aw_ret ?_ | refine aw_exit ?_ | refine aw_block ?_ | refine xr_reg (by decide +kernel) ?_ | refine xr_nil ?_ | refine k_norm ?_ | refine k_ret ?_ | refine k_exit ?_ | refine b_norm ?_ | refine b_ret ?_ | refine b_exit ?_ | refine b_past (by decide) ?_) | (refine Ty.c63 (args := ?_) (K := ?_) ?_ ?_ ?_; rotate_left 2) | (refine xr_do (v := ?_) (h' := ?_) (by exact rfl) ?_ ?_; rotate_left 2) | (refine xr_st (v := ?_) (h' := ?_) (by exact rfl) ?_ ?_; rotate_left 2) | (refine aw_c (b := ?_) (by decide) ?_ ?_; rotate_left 1; (· simp only [ev, Zb, reduceIte, Nat.reduceEqDiff, *]; rfl)) | (with_reducible first | refine cw_t ?_ | refine cw_f ?_) | refine cw_if (fun hb => ?_) (fun hb => ?_) | (refine r_ret (vs := ?_) ?_ ?_; rotate_left 1; (· simp only [resV, ev, Zb, reduceIte, Nat.reduceEqDiff, Zj, *]; rfl)) | ((with_reducible refine toTask_ok t _ _ _ _ _ ?_ ?_ ?_ ?_ ?_); (· first | assumption | exact SlA.sub ‹_› (by first | assumption | exact Sub.refl _ | exact Sub.app ‹_› _ | exact Sub.app (Sub.refl _) _)); (· first | assumption | exact SlA.sub ‹_› (by first | assumption | exact Sub.refl _ | exact Sub.app ‹_› _ | exact Sub.app (Sub.refl _) _)); (· first | assumption | exact SlA.sub ‹_› (by first | assumption | exact Sub.refl _ | exact Sub.app ‹_› _ | exact Sub.app (Sub.refl _) _)); (· first | assumption | exact SlA.sub ‹_› (by first | assumption | exact Sub.refl _ | exact Sub.app ‹_› _ | exact Sub.app (Sub.refl _) _)); (· assumption)) | ((with_reducible refine Z2w ?_); rintro _ _ ⟨rfl, hh⟩; replace hh := hh.symm; subst hh))
    refine aw_for [0, 2, 3] (fun k T h' => h' = h ++ ⟨2, 7, fill [.int .i64 0, .int .i64 0, .slice none 0 0, .slice none 0 0, .slice none 0 0, .slice none 0 0, .int .i64 0] (taskRows (h.length + 1) l) k⟩ :: taskLs (l.take k) ∧ T 4 = .int .i64 k) l.length (k0 := 0) (Nat.zero_le _) ⟨?_, rfl⟩ ?_
    · rw [fill_zero, taskRows_length]; try rfl
    rintro k T h' hk hR ⟨rfl, h11⟩
    simp only [Z37, Z38, Z39, implies_true, and_true, stp, ev, ZB, reduceIte, Nat.reduceEqDiff, Z2x, Z13, Zy] at hR
    rcases Nat.lt_or_ge k l.length with hkn | hkn
    · have h1 : (k : Int) < l.length := by omega
      obtain ⟨a, row, rfl, hrl, hrt, hld0⟩ := hrow k hkn
      obtain ⟨x, y, z, w, rfl, q1, q2, q3, q4, _⟩ := hrt
      have hld := fun L => hld0 (h ++ L) (Sub.app (Sub.refl _) _)
      have hset := fun X => fill_set (z := [.int .i64 0, .int .i64 0, .slice none 0 0, .slice none 0 0, .slice none 0 0, .slice none 0 0, .int .i64 0]) (h := X) (taskRows_len (h.length + 1) l) rfl (k := k) (by rw [taskRows_length]; exact hkn)
      rw [taskRows_get _ _ _ hkn, show h.length + 1 + 4 * k = h.length + (4 * k + 1) by omega] at hset
      have hts : (l[k]).small := hsm _ (List.getElem_mem hkn)
      have hsn : taskLs (l.take (k + 1)) = taskLs (l.take k) ++ taskL l[k] := by
        unfold taskLs
        rw [← List.take_append_getElem hkn, List.flatMap_append]; simp
      have hXl : (taskLs (l.take k)).length = 4 * k := by rw [taskLs_length, List.length_take]; congr 1; omega
      generalize taskLs (l.take k) = X at *
      generalize l[k] = t at *
      clear hrow hld0 hsm
      repeat' (first | ((with_reducible refine eq_go ?_); simp only [stp, ev, ZB, reduceIte, Nat.reduceEqDiff, Z2x, Z13, Zy, ldv, stv, vcs, idxA, blt, lenV, Z10, ZH, Zg, Ze, Z14, Zw, Z33, Nat.reduceAdd, Nat.reduceMul, Nat.reduceLeDiff, splice, newB, Ty.t3, Ty.t22, Ty.t30, Ty.t86, Ty.t88, Ty.t89, taskRow_length, taskRow_flat, taskRow_take, *]; rfl) | (with_reducible first | refine aw_then ?_ | refine aw_skip ?_ | refine aw_ret ?_ | refine aw_exit ?_ | refine aw_block ?_ | refine xr_reg (by decide +kernel) ?_ | refine xr_nil ?_ | refine k_norm ?_ | refine k_ret ?_ | refine k_exit ?_ | refine b_norm ?_ | refine b_ret ?_ | refine b_exit ?_ | refine b_past (by decide) ?_) | (refine Ty.c63 (args := ?_) (K := ?_) ?_ ?_ ?_; rotate_left 2) | (refine xr_do (v := ?_) (h' := ?_) (by exact rfl) ?_ ?_; rotate_left 2) | (refine xr_st (v := ?_) (h' := ?_) (by exact rfl) ?_ ?_; rotate_left 2) | (refine aw_c (b := ?_) (by decide) ?_ ?_; rotate_left 1; (· simp only [ev, Zb, reduceIte, Nat.reduceEqDiff, *]; rfl)) | (with_reducible first | refine cw_t ?_ | refine cw_f ?_) | refine cw_if (fun hb => ?_) (fun hb => ?_) | (refine r_ret (vs := ?_) ?_ ?_; rotate_left 1; (· simp only [resV, ev, Zb, reduceIte, Nat.reduceEqDiff, Zj, *]; rfl)) | ((with_reducible refine toTask_ok t _ _ _ _ _ ?_ ?_ ?_ ?_ ?_); (· first | assumption | exact SlA.sub ‹_› (by first | assumption | exact Sub.refl _ | exact Sub.app ‹_› _ | exact Sub.app (Sub.refl _) _)); (· first | assumption | exact SlA.sub ‹_› (by first | assumption | exact Sub.refl _ | exact Sub.app ‹_› _ | exact Sub.app (Sub.refl _) _)); (· first | assumption | exact SlA.sub ‹_› (by first | assumption | exact Sub.refl _ | exact Sub.app ‹_› _ | exact Sub.app (Sub.refl _) _)); (· first | assumption | exact SlA.sub ‹_› (by first | assumption | exact Sub.refl _ | exact Sub.app ‹_› _ | exact Sub.app (Sub.refl _) _)); (· assumption)) | ((with_reducible refine Z2w ?_); rintro _ _ ⟨rfl, hh⟩; replace hh := hh.symm; subst hh))
      refine ⟨by first | assumption | omega, ?_, ?_⟩
      · simp only [Z37, Z38, Z39, implies_true, and_true, ZB, stp, ev, reduceIte, Nat.reduceEqDiff, Z2x, Z13, Zy, *]
      refine ⟨by rw [hsn], ?_⟩
      simp only [Zb, reduceIte, Nat.reduceEqDiff]
      rw [wrap_id (by omega)]; rfl
    · have h1 : ¬ (k : Int) < l.length := by omega
      clear hrow
      repeat' (first | ((with_reducible refine eq_go ?_); simp only [stp, ev, ZB, reduceIte, Nat.reduceEqDiff, Z2x, Z13, Zy, ldv, stv, vcs, idxA, blt, lenV, Z10, ZH, Zg, Ze, Z14, Zw, Z33, Nat.reduceAdd, Nat.reduceMul, Nat.reduceLeDiff, splice, newB, Ty.t3, Ty.t22, Ty.t30, Ty.t86, Ty.t88, Ty.t89, *]; rfl) | (with_reducible first | refine aw_then ?_ | refine aw_skip ?_ | refine aw_ret ?_ | refine aw_exit ?_ | refine aw_block ?_ | refine xr_reg (by decide +kernel) ?_ | refine xr_nil ?_ | refine k_norm ?_ | refine k_ret ?_ | refine k_exit ?_ | refine b_norm ?_ | refine b_ret ?_ | refine b_exit ?_ | refine b_past (by decide) ?_) | (refine Ty.c63 (args := ?_) (K := ?_) ?_ ?_ ?_; rotate_left 2) | (refine xr_do (v := ?_) (h' := ?_) (by exact rfl) ?_ ?_; rotate_left 2) | (refine xr_st (v := ?_) (h' := ?_) (by exact rfl) ?_ ?_; rotate_left 2) | (refine aw_c (b := ?_) (by decide) ?_ ?_; rotate_left 1; (· simp only [ev, Zb, reduceIte, Nat.reduceEqDiff, *]; rfl)) | (with_reducible first | refine cw_t ?_ | refine cw_f ?_) | refine cw_if (fun hb => ?_) (fun hb => ?_) | (refine r_ret (vs := ?_) ?_ ?_; rotate_left 1; (· simp only [resV, ev, Zb, reduceIte, Nat.reduceEqDiff, Zj, *]; rfl)) | ((with_reducible refine toTask_ok t _ _ _ _ _ ?_ ?_ ?_ ?_ ?_); (· first | assumption | exact SlA.sub ‹_› (by first | assumption | exact Sub.refl _ | exact Sub.app ‹_› _ | exact Sub.app (Sub.refl _) _)); (· first | assumption | exact SlA.sub ‹_› (by first | assumption | exact Sub.refl _ | exact Sub.app ‹_› _ | exact Sub.app (Sub.refl _) _)); (· first | assumption | exact SlA.sub ‹_› (by first | assumption | exact Sub.refl _ | exact Sub.app ‹_› _ | exact Sub.app (Sub.refl _) _)); (· first | assumption | exact SlA.sub ‹_› (by first | assumption | exact Sub.refl _ | exact Sub.app ‹_› _ | exact Sub.app (Sub.refl _) _)); (· assumption)) | ((with_reducible refine Z2w ?_); rintro _ _ ⟨rfl, hh⟩; replace hh := hh.symm; subst hh))
      rw [fill_all _ _ (by rw [taskRows_length]; exact hkn), List.take_of_length_le hkn]
      exact ⟨rfl, rfl⟩
  · have hmk : mkS Try.prog 30 h (.int .i64 0) (.int .i64 0) = _ := mkS_eq Ty.sl30 Ty.zc89 Ty.by89 (n := 0) (by omega) (by omega)
    have hze : zeros [Value.int .i64 0, .int .i64 0, .slice none 0 0, .slice none 0 0, .slice none 0 0, .slice none 0 0, .int .i64 0] 0 = [] := rfl
    refine Z36 Try.func45 rfl Try.ntmps45 (by simp) (by dsimp only [Try.f45]) ?_
    repeat' (first | ((with_reducible refine eq_go ?_); simp only [stp, ev, ZB, reduceIte, Nat.reduceEqDiff, Z2x, Z13, Zy, ldv, stv, vcs, idxA, blt, lenV, Z10, ZH, Zg, Ze, Z14, Zw, Z33, Nat.reduceAdd, Nat.reduceMul, Nat.reduceLeDiff, splice, newB, Ty.t3, Ty.t22, Ty.t30, Ty.t86, Ty.t88, Ty.t89, *]; rfl) | (with_reducible first | refine aw_then ?_ | refine aw_skip ?_ | refine aw_ret ?_ | refine aw_exit ?_ | refine aw_block ?_ | refine xr_reg (by decide +kernel) ?_ | refine xr_nil ?_ | refine k_norm ?_ | refine k_ret ?_ | refine k_exit ?_ | refine b_norm ?_ | refine b_ret ?_ | refine b_exit ?_ | refine b_past (by decide) ?_) | (refine Ty.c63 (args := ?_) (K := ?_) ?_ ?_ ?_; rotate_left 2) | (refine xr_do (v := ?_) (h' := ?_) (by exact rfl) ?_ ?_; rotate_left 2) | (refine xr_st (v := ?_) (h' := ?_) (by exact rfl) ?_ ?_; rotate_left 2) | (refine aw_c (b := ?_) (by decide) ?_ ?_; rotate_left 1; (· simp only [ev, Zb, reduceIte, Nat.reduceEqDiff, *]; rfl)) | (with_reducible first | refine cw_t ?_ | refine cw_f ?_) | refine cw_if (fun hb => ?_) (fun hb => ?_) | (refine r_ret (vs := ?_) ?_ ?_; rotate_left 1; (· simp only [resV, ev, Zb, reduceIte, Nat.reduceEqDiff, Zj, *]; rfl)) | ((with_reducible refine toTask_ok t _ _ _ _ _ ?_ ?_ ?_ ?_ ?_); (· first | assumption | exact SlA.sub ‹_› (by first | assumption | exact Sub.refl _ | exact Sub.app ‹_› _ | exact Sub.app (Sub.refl _) _)); (· first | assumption | exact SlA.sub ‹_› (by first | assumption | exact Sub.refl _ | exact Sub.app ‹_› _ | exact Sub.app (Sub.refl _) _)); (· first | assumption | exact SlA.sub ‹_› (by first | assumption | exact Sub.refl _ | exact Sub.app ‹_› _ | exact Sub.app (Sub.refl _) _)); (· first | assumption | exact SlA.sub ‹_› (by first | assumption | exact Sub.refl _ | exact Sub.app ‹_› _ | exact Sub.app (Sub.refl _) _)); (· assumption)) | ((with_reducible refine Z2w ?_); rintro _ _ ⟨rfl, hh⟩; replace hh := hh.symm; subst hh))
    refine aw_for [0, 2, 3] (fun k T h' => h' = h ++ [⟨2, 7, []⟩] ∧ T 4 = .int .i64 0) 0 (k0 := 0) (Nat.zero_le _) ⟨rfl, rfl⟩ ?_
    rintro k T h' hk hR ⟨rfl, h11⟩
    simp only [Z37, Z38, Z39, implies_true, and_true, stp, ev, ZB, reduceIte, Nat.reduceEqDiff, Z2x, Z13, Zy] at hR
    have h1 : decide ((0 : Int) < 0) = false := rfl
    repeat' (first | ((with_reducible refine eq_go ?_); simp only [stp, ev, ZB, reduceIte, Nat.reduceEqDiff, Z2x, Z13, Zy, ldv, stv, vcs, idxA, blt, lenV, Z10, ZH, Zg, Ze, Z14, Zw, Z33, Nat.reduceAdd, Nat.reduceMul, Nat.reduceLeDiff, splice, newB, Ty.t3, Ty.t22, Ty.t30, Ty.t86, Ty.t88, Ty.t89, *]; rfl) | (with_reducible first | refine aw_then ?_ | refine aw_skip ?_ | refine aw_ret ?_ | refine aw_exit ?_ | refine aw_block ?_ | refine xr_reg (by decide +kernel) ?_ | refine xr_nil ?_ | refine k_norm ?_ | refine k_ret ?_ | refine k_exit ?_ | refine b_norm ?_ | refine b_ret ?_ | refine b_exit ?_ | refine b_past (by decide) ?_) | (refine Ty.c63 (args := ?_) (K := ?_) ?_ ?_ ?_; rotate_left 2) | (refine xr_do (v := ?_) (h' := ?_) (by exact rfl) ?_ ?_; rotate_left 2) | (refine xr_st (v := ?_) (h' := ?_) (by exact rfl) ?_ ?_; rotate_left 2) | (refine aw_c (b := ?_) (by decide) ?_ ?_; rotate_left 1; (· simp only [ev, Zb, reduceIte, Nat.reduceEqDiff, *]; rfl)) | (with_reducible first | refine cw_t ?_ | refine cw_f ?_) | refine cw_if (fun hb => ?_) (fun hb => ?_) | (refine r_ret (vs := ?_) ?_ ?_; rotate_left 1; (· simp only [resV, ev, Zb, reduceIte, Nat.reduceEqDiff, Zj, *]; rfl)) | ((with_reducible refine toTask_ok t _ _ _ _ _ ?_ ?_ ?_ ?_ ?_); (· first | assumption | exact SlA.sub ‹_› (by first | assumption | exact Sub.refl _ | exact Sub.app ‹_› _ | exact Sub.app (Sub.refl _) _)); (· first | assumption | exact SlA.sub ‹_› (by first | assumption | exact Sub.refl _ | exact Sub.app ‹_› _ | exact Sub.app (Sub.refl _) _)); (· first | assumption | exact SlA.sub ‹_› (by first | assumption | exact Sub.refl _ | exact Sub.app ‹_› _ | exact Sub.app (Sub.refl _) _)); (· first | assumption | exact SlA.sub ‹_› (by first | assumption | exact Sub.refl _ | exact Sub.app ‹_› _ | exact Sub.app (Sub.refl _) _)); (· assumption)) | ((with_reducible refine Z2w ?_); rintro _ _ ⟨rfl, hh⟩; replace hh := hh.symm; subst hh))
    exact ⟨rfl, rfl⟩
def specL (n : Nat) (c : Int) (va : Value) (l : List TaskM) : Heap :=
  ⟨2, 1, [.int .i64 c, va]⟩ :: ⟨2, 1, [.int .i64 c, .slice (some ⟨n + 3, 0, none⟩) l.length l.length]⟩ :: ⟨2, 1, [.int .i64 c, .slice (some ⟨n + 3, 0, none⟩) l.length l.length]⟩ ::
    ⟨2, 7, (taskRows (n + 4) l).flatten⟩ :: taskLs l
theorem toSpec_ok (c : Int) (l : List TaskM) (va : Value) (h : Heap) (hs : RTasksA h va l) (hl : l.length ≤ 1048576) (hsm : ∀ t ∈ l, t.small) :
    ACalls Try.prog 0 25 #[.agg #[.int .i64 c, va]] h fun v h' => v = .agg #[.int .i64 c, .slice (some ⟨h.length + 3, 0, none⟩) l.length l.length] ∧ h' = h ++ specL h.length c va l := by
  have hf := hs.flat
  refine Z36 Try.func25 rfl Try.ntmps25 (by simp) (by dsimp only [Try.f25]) ?_
  repeat' (first | ((with_reducible refine eq_go ?_); simp only [stp, ev, ZB, reduceIte, Nat.reduceEqDiff, Z2x, Z13, Zy, ldv, stv, vcs, fldA, blt, lenV, Z10, ZH, Zg, Ze, Z14, Zw, Z33, Nat.reduceAdd, Nat.reduceMul, Nat.reduceLeDiff, splice, newB, Ty.t3, Ty.t22, Ty.t24, Ty.t30, Ty.t32, Ty.t86, Ty.t88, Ty.t89, *]; rfl) | (with_reducible first | refine aw_then ?_ | refine aw_skip ?_ | refine aw_ret ?_ | refine aw_exit ?_ | refine aw_block ?_ | refine xr_reg (by decide +kernel) ?_ | refine xr_nil ?_ | refine k_norm ?_ | refine k_ret ?_ | refine k_exit ?_ | refine b_norm ?_ | refine b_ret ?_ | refine b_exit ?_ | refine b_past (by decide) ?_) | (refine Ty.c45 (args := ?_) (K := ?_) ?_ ?_ ?_; rotate_left 2) | (refine xr_do (v := ?_) (h' := ?_) (by exact rfl) ?_ ?_; rotate_left 2) | (refine xr_st (v := ?_) (h' := ?_) (by exact rfl) ?_ ?_; rotate_left 2) | (refine aw_c (b := ?_) (by decide) ?_ ?_; rotate_left 1; (· simp only [ev, Zb, reduceIte, Nat.reduceEqDiff, *]; rfl)) | (with_reducible first | refine cw_t ?_ | refine cw_f ?_) | refine cw_if (fun hb => ?_) (fun hb => ?_) | (refine r_ret (vs := ?_) ?_ ?_; rotate_left 1; (· simp only [resV, oneOf, stp, ev, ZB, reduceIte, Nat.reduceEqDiff, Z2x, Z13, Zy, ldv, stv, vcs, fldA, blt, lenV, Z10, ZH, Zg, Ze, Z14, Zw, Z33, Nat.reduceAdd, Nat.reduceMul, Nat.reduceLeDiff, splice, newB, Ty.t3, Ty.t22, Ty.t24, Ty.t30, Ty.t32, Ty.t86, Ty.t88, Ty.t89, *]; rfl)) | ((with_reducible refine toTaskS_ok ?_ _ _ ?_ ?_ ?_); rotate_left 1; (· first | assumption | exact RTasksA.sub ‹_› (by first | assumption | exact Sub.refl _ | exact Sub.app ‹_› _ | exact Sub.app (Sub.refl _) _)); (· assumption); (· assumption)) | ((with_reducible refine Z2w ?_); rintro _ _ ⟨rfl, hh⟩; replace hh := hh.symm; subst hh))
  exact ⟨rfl, rfl⟩
def paperV (n : Nat) (p : PaperM) : Value := .agg #[.int .i64 p.spec.conds, .slice (some ⟨n + 6, 0, none⟩) p.spec.tasks.length p.spec.tasks.length, .slice (some ⟨n + (4 * p.spec.tasks.length + 7), 0, none⟩) p.names.length p.names.length]
def paperC (n : Nat) (p : PaperM) : Blk := ⟨2, 1, [.int .i64 p.spec.conds, .slice (some ⟨n + 6, 0, none⟩) p.spec.tasks.length p.spec.tasks.length, .slice (some ⟨n + (4 * p.spec.tasks.length + 7), 0, none⟩) p.names.length p.names.length]⟩
def specC (n : Nat) (p : PaperM) : Blk := ⟨2, 1, [.int .i64 p.spec.conds, .slice (some ⟨n + 6, 0, none⟩) p.spec.tasks.length p.spec.tasks.length]⟩
def paperL (n : Nat) (va vna : Value) (p : PaperM) : Heap :=
  ⟨2, 1, [.int .i64 p.spec.conds, va, vna]⟩ :: paperC n p :: paperC n p :: ⟨2, 1, [.int .i64 p.spec.conds, va]⟩ :: specC n p :: specC n p :: ⟨2, 7, (taskRows (n + 7) p.spec.tasks).flatten⟩ :: (taskLs p.spec.tasks ++ [⟨2, 1, (strs p.names).flatten⟩])
theorem toPaper_ok (p : PaperM) (va vna : Value) (h : Heap) (hs : RTasksA h va p.spec.tasks) (hn : SlA h vna 1 (strs p.names)) (hsm : p.small) :
    ACalls Try.prog 0 8 #[.agg #[.int .i64 p.spec.conds, va, vna]] h fun v h' => v = paperV h.length p ∧ h' = h ++ paperL h.length va vna p := by
  have hf := hs.flat
  have hf2 := hn.flat
  obtain ⟨⟨hl, ht⟩, hnl, _⟩ := hsm
  have hll := taskLs_length p.spec.tasks
  refine Z36 Try.func8 rfl Try.ntmps8 (by simp) (by dsimp only [Try.f8]) ?_
  repeat' (first | ((with_reducible refine eq_go ?_); simp only [stp, ev, ZB, reduceIte, Nat.reduceEqDiff, Z2x, Z13, Zy, ldv, stv, vcs, fldA, blt, lenV, Z10, ZH, Zg, Ze, Z14, Zw, Z33, Nat.reduceAdd, Nat.reduceMul, Nat.reduceLeDiff, splice, newB, Ty.t3, Ty.t9, Ty.t22, Ty.t24, Ty.t25, Ty.t27, Ty.t30, Ty.t32, Ty.t34, Ty.t86, Ty.t88, Ty.t89, specL, *]; rfl) | (with_reducible first | refine aw_then ?_ | refine aw_skip ?_ | refine aw_ret ?_ | refine aw_exit ?_ | refine aw_block ?_ | refine xr_reg (by decide +kernel) ?_ | refine xr_nil ?_ | refine k_norm ?_ | refine k_ret ?_ | refine k_exit ?_ | refine b_norm ?_ | refine b_ret ?_ | refine b_exit ?_ | refine b_past (by decide) ?_) | (refine Ty.c25 (args := ?_) (K := ?_) ?_ ?_ ?_; rotate_left 2) | (refine Ty.c26 (args := ?_) (K := ?_) ?_ ?_ ?_; rotate_left 2) | (refine xr_do (v := ?_) (h' := ?_) (by exact rfl) ?_ ?_; rotate_left 2) | (refine xr_st (v := ?_) (h' := ?_) (by exact rfl) ?_ ?_; rotate_left 2) | (refine aw_c (b := ?_) (by decide) ?_ ?_; rotate_left 1; (· simp only [ev, Zb, reduceIte, Nat.reduceEqDiff, *]; rfl)) | (with_reducible first | refine cw_t ?_ | refine cw_f ?_) | refine cw_if (fun hb => ?_) (fun hb => ?_) | (refine r_ret (vs := ?_) ?_ ?_; rotate_left 1; (· simp only [resV, oneOf, stp, ev, ZB, reduceIte, Nat.reduceEqDiff, Z2x, Z13, Zy, ldv, stv, vcs, fldA, blt, lenV, Z10, ZH, Zg, Ze, Z14, Zw, Z33, Nat.reduceAdd, Nat.reduceMul, Nat.reduceLeDiff, splice, newB, Ty.t3, Ty.t9, Ty.t22, Ty.t24, Ty.t25, Ty.t27, Ty.t30, Ty.t32, Ty.t34, Ty.t86, Ty.t88, Ty.t89, specL, *]; rfl)) | ((with_reducible refine toSpec_ok _ ?_ _ _ ?_ ?_ ?_); rotate_left 1; (· first | assumption | exact RTasksA.sub ‹_› (by first | assumption | exact Sub.refl _ | exact Sub.app ‹_› _ | exact Sub.app (Sub.refl _) _)); (· assumption); (· assumption)) | ((with_reducible refine toStringS_ok ?_ _ _ ?_ ?_); rotate_left 1; (· first | assumption | exact SlA.sub ‹_› (by first | assumption | exact Sub.refl _ | exact Sub.app ‹_› _ | exact Sub.app (Sub.refl _) _)); (· assumption)) | ((with_reducible refine Z2w ?_); rintro _ _ ⟨rfl, hh⟩; replace hh := hh.symm; subst hh))
  exact ⟨rfl, rfl⟩
end Go.Proofs.Ytmjhfklmlcnofaa.Am
