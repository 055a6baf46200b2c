/- Walks of the smallest functions over numbers and lists of numbers. Conditions: none. -/
import Derived.Test.YtmjhfklmlcnofaaK3
import Derived.Test.YtmjhfklmlcnofaaTy
namespace Go.Proofs.Ytmjhfklmlcnofaa.Am
open Go Go.Proofs
set_option linter.unusedVariables false
set_option linter.unusedSimpArgs false
set_option maxRecDepth 100000
set_option maxHeartbeats 8000000
def ints (l : List Int) : List (List Value) := l.map fun n => [.int .i64 n]
theorem ints_length (l : List Int) : (ints l).length = l.length := List.length_map _
def idxOf {α : Type} (p : α → Bool) (l : List α) : Int := match l.findIdx? p with | some i => i | none => -1
theorem idxOf_any {α : Type} (p : α → Bool) (l : List α) : decide (0 ≤ idxOf p l) = l.any p := by
  rw [← List.findIdx?_isSome]
  unfold idxOf
  cases l.findIdx? p with
  | none => rfl
  | some i => simp
theorem idxOf_hit {α : Type} {p : α → Bool} {l : List α} {k : Nat} (hkn : k < l.length) (hall : (l.take k).findIdx? p = none) (hb : p l[k] = true) : idxOf p l = k := by
  have : l.findIdx? p = some k := by
    have e : l = l.take k ++ l[k] :: l.drop (k + 1) := by rw [← List.drop_eq_getElem_cons hkn, List.take_append_drop]
    rw [e, List.findIdx?_append, hall, List.findIdx?_cons, hb]
    simp [Nat.min_eq_left (Nat.le_of_lt hkn)]
  simp only [idxOf, this]
theorem within_ok (n lo hi : Int) (h : Heap) : ACalls Try.prog 0 53 #[.int .i64 n, .int .i64 lo, .int .i64 hi] h
    fun v h' => v = .bool (decide (lo ≤ n ∧ n ≤ hi)) ∧ h' = h := by
  refine Z36 Try.func53 rfl Try.ntmps53 (by simp) (by dsimp only [Try.f53]) ?_
  repeat' (first | ((with_reducible refine eq_go ?_); simp only [stp, ev, ZB, reduceIte, Nat.reduceEqDiff, Z2x, Z13, Zy, Ty.t3, *]; rfl) | (with_reducible first | refine aw_then ?_ | refine aw_skip ?_ | refine aw_ret ?_ | refine aw_exit ?_ | refine aw_block ?_ | refine xr_reg (by decide +kernel) ?_ | refine xr_nil ?_ | refine k_norm ?_ | refine k_ret ?_ | refine k_exit ?_ | refine b_norm ?_ | refine b_ret ?_ | refine b_exit ?_ | refine b_past (by decide) ?_) | (refine xr_do (v := ?_) (h' := ?_) (by exact rfl) ?_ ?_; rotate_left 2) | (refine xr_st (v := ?_) (h' := ?_) (by exact rfl) ?_ ?_; rotate_left 2) | (refine xr_g (b := ?_) (by exact rfl) ?_ ?_; rotate_left 1; (· simp only [ev, Zb, reduceIte, Nat.reduceEqDiff, Z8, Z5, *]; rfl)) | (with_reducible first | refine gw_tt ?_ | refine gw_ff ?_ | refine gw_tf ?_ | refine gw_ft ?_ | refine gw_un ?_) | refine gw_if (fun hb => ?_) (fun hb => ?_) | (refine aw_c (b := ?_) (by decide) ?_ ?_; rotate_left 1; (· simp only [ev, Zb, reduceIte, Nat.reduceEqDiff, *]; rfl)) | (with_reducible first | refine cw_t ?_ | refine cw_f ?_) | refine cw_if (fun hb => ?_) (fun hb => ?_) | (refine r_ret (vs := ?_) ?_ ?_; rotate_left 1; (· simp only [resV, ev, Zb, reduceIte, Nat.reduceEqDiff, Zj, *]; rfl)))
  all_goals refine ⟨?_, rfl⟩
  all_goals simp_all [oneOf]
  all_goals omega
theorem l1In_ok (n lo hi : Int) (h : Heap) : ACalls Try.prog 0 40 #[.int .i64 n, .int .i64 lo, .int .i64 hi] h
    fun v h' => v = .bool (decide (lo ≤ n ∧ n ≤ hi)) ∧ h' = h := by
  refine Z36 Try.func40 rfl Try.ntmps40 (by simp) (by dsimp only [Try.f40]) ?_
  repeat' (first | ((with_reducible refine eq_go ?_); simp only [stp, ev, ZB, reduceIte, Nat.reduceEqDiff, Z2x, Z13, Zy, Ty.t3, *]; rfl) | (with_reducible first | refine aw_then ?_ | refine aw_skip ?_ | refine aw_ret ?_ | refine aw_exit ?_ | refine aw_block ?_ | refine xr_reg (by decide +kernel) ?_ | refine xr_nil ?_ | refine k_norm ?_ | refine k_ret ?_ | refine k_exit ?_ | refine b_norm ?_ | refine b_ret ?_ | refine b_exit ?_ | refine b_past (by decide) ?_) | (refine xr_do (v := ?_) (h' := ?_) (by exact rfl) ?_ ?_; rotate_left 2) | (refine xr_st (v := ?_) (h' := ?_) (by exact rfl) ?_ ?_; rotate_left 2) | (refine xr_g (b := ?_) (by exact rfl) ?_ ?_; rotate_left 1; (· simp only [ev, Zb, reduceIte, Nat.reduceEqDiff, Z8, Z5, *]; rfl)) | (with_reducible first | refine gw_tt ?_ | refine gw_ff ?_ | refine gw_tf ?_ | refine gw_ft ?_ | refine gw_un ?_) | refine gw_if (fun hb => ?_) (fun hb => ?_) | (refine aw_c (b := ?_) (by decide) ?_ ?_; rotate_left 1; (· simp only [ev, Zb, reduceIte, Nat.reduceEqDiff, *]; rfl)) | (with_reducible first | refine cw_t ?_ | refine cw_f ?_) | refine cw_if (fun hb => ?_) (fun hb => ?_) | (refine r_ret (vs := ?_) ?_ ?_; rotate_left 1; (· simp only [resV, ev, Zb, reduceIte, Nat.reduceEqDiff, Zj, *]; rfl)))
  all_goals refine ⟨?_, rfl⟩
  all_goals simp_all [oneOf]
  all_goals omega
def allIn (l : List Int) (lo hi : Int) : Bool := l.all fun n => decide (lo ≤ n ∧ n ≤ hi)
theorem allWithin_ok (l : List Int) (lo hi : Int) (h : Heap) (v : Value) (hs : Sl h v 1 (ints l)) (hb : l.length ≤ 1048576) :
    ACalls Try.prog 0 85 #[v, .int .i64 lo, .int .i64 hi] h
    fun v h' => v = .bool (allIn l lo hi) ∧ h' = h := by
  obtain ⟨b, c, rfl, hc, hrow⟩ := hs
  rw [ints_length] at hc ⊢
  refine Z36 Try.func85 rfl Try.ntmps85 (by simp) (by dsimp only [Try.f85]) ?_
  repeat' (first | ((with_reducible refine eq_go ?_); simp only [stp, ev, ZB, reduceIte, Nat.reduceEqDiff, Z2x, Z13, Zy, ldv, idxA, blt, lenV, Z10, ZH, Zg, Ze, Z14, Zw, Z33, Nat.reduceAdd, Nat.reduceMul, Nat.reduceLeDiff, splice, newB, vcs, Ty.t3, Ty.t86, *]; rfl) | (with_reducible first | refine aw_then ?_ | refine aw_skip ?_ | refine aw_ret ?_ | refine aw_exit ?_ | refine aw_block ?_ | refine xr_reg (by decide +kernel) ?_ | refine xr_nil ?_ | refine k_norm ?_ | refine k_ret ?_ | refine k_exit ?_ | refine b_norm ?_ | refine b_ret ?_ | refine b_exit ?_ | refine b_past (by decide) ?_) | (refine Ty.c53 (args := ?_) (K := ?_) ?_ ?_ ?_; rotate_left 2) | (refine xr_do (v := ?_) (h' := ?_) (by exact rfl) ?_ ?_; rotate_left 2) | (refine xr_st (v := ?_) (h' := ?_) (by exact rfl) ?_ ?_; rotate_left 2) | (refine aw_c (b := ?_) (by decide) ?_ ?_; rotate_left 1; (· simp only [ev, Zb, reduceIte, Nat.reduceEqDiff, *]; rfl)) | (with_reducible first | refine cw_t ?_ | refine cw_f ?_) | refine cw_if (fun hb => ?_) (fun hb => ?_) | (refine r_ret (vs := ?_) ?_ ?_; rotate_left 1; (· simp only [resV, ev, Zb, reduceIte, Nat.reduceEqDiff, Zj, *]; rfl)) | (with_reducible exact within_ok _ _ _ _) | ((with_reducible refine Z2w ?_); rintro _ _ ⟨rfl, hh⟩; replace hh := hh.symm; subst hh))
  refine aw_for [1, 2, 9, 10] (fun k T h' => h' = h ∧ T 11 = .int .i64 k ∧ allIn (l.take k) lo hi = true) l.length (k0 := 0) (Nat.zero_le _) ⟨rfl, rfl, rfl⟩ ?_
  rintro k T h' hk hR ⟨rfl, h11, hall⟩
  simp only [Z37, Z38, Z39, implies_true, and_true, stp, ev, ZB, reduceIte, Nat.reduceEqDiff, Z2x, Z13, Zy] at hR
  rcases Nat.lt_or_ge k l.length with hkn | hkn
  · have h1 : (k : Int) < l.length := by omega
    obtain ⟨a, rfl, hl⟩ := Sl.row hrow (k := k) (by simpa [ints] using hkn)
    simp only [ints, List.getElem_map] at hl
    have hg := getC_of_load hl
    clear hrow
    repeat' (first | ((with_reducible refine eq_go ?_); simp only [stp, ev, ZB, reduceIte, Nat.reduceEqDiff, Z2x, Z13, Zy, ldv, idxA, blt, lenV, Z10, ZH, Zg, Ze, Z14, Zw, Z33, Nat.reduceAdd, Nat.reduceMul, Nat.reduceLeDiff, splice, newB, vcs, Ty.t3, Ty.t86, *]; rfl) | (with_reducible first | refine aw_then ?_ | refine aw_skip ?_ | refine aw_ret ?_ | refine aw_exit ?_ | refine aw_block ?_ | refine xr_reg (by decide +kernel) ?_ | refine xr_nil ?_ | refine k_norm ?_ | refine k_ret ?_ | refine k_exit ?_ | refine b_norm ?_ | refine b_ret ?_ | refine b_exit ?_ | refine b_past (by decide) ?_) | (refine Ty.c53 (args := ?_) (K := ?_) ?_ ?_ ?_; rotate_left 2) | (refine xr_do (v := ?_) (h' := ?_) (by exact rfl) ?_ ?_; rotate_left 2) | (refine xr_st (v := ?_) (h' := ?_) (by exact rfl) ?_ ?_; rotate_left 2) | (refine aw_c (b := ?_) (by decide) ?_ ?_; rotate_left 1; (· simp only [ev, Zb, reduceIte, Nat.reduceEqDiff, *]; rfl)) | (with_reducible first | refine cw_t ?_ | refine cw_f ?_) | refine cw_if (fun hb => ?_) (fun hb => ?_) | (refine r_ret (vs := ?_) ?_ ?_; rotate_left 1; (· simp only [resV, ev, Zb, reduceIte, Nat.reduceEqDiff, Zj, *]; rfl)) | (with_reducible exact within_ok _ _ _ _) | ((with_reducible refine Z2w ?_); rintro _ _ ⟨rfl, hh⟩; replace hh := hh.symm; subst hh))
    · simp only [Bool.not_eq_true', decide_eq_false_iff_not] at hb
      refine ⟨?_, rfl⟩
      have : allIn l lo hi = false := List.all_eq_false.2 ⟨l[k], List.getElem_mem _, by simpa using hb⟩
      rw [this]; rfl
    refine ⟨by first | assumption | omega, ?_, ?_⟩
    · simp only [Z37, Z38, Z39, implies_true, and_true, ZB, stp, ev, reduceIte, Nat.reduceEqDiff, Z2x, Z13, Zy, *]
    refine ⟨rfl, ?_, ?_⟩
    · simp only [Zb, reduceIte, Nat.reduceEqDiff]
      rw [wrap_id (by omega)]; rfl
    · unfold allIn at hall ⊢
      rw [← List.take_append_getElem hkn, List.all_append, hall]
      simpa using hb
  · have h1 : ¬ (k : Int) < l.length := by omega
    clear hrow
    repeat' (first | ((with_reducible refine eq_go ?_); simp only [stp, ev, ZB, reduceIte, Nat.reduceEqDiff, Z2x, Z13, Zy, ldv, idxA, blt, lenV, Z10, ZH, Zg, Ze, Z14, Zw, Z33, Nat.reduceAdd, Nat.reduceMul, Nat.reduceLeDiff, splice, newB, vcs, Ty.t3, Ty.t86, *]; rfl) | (with_reducible first | refine aw_then ?_ | refine aw_skip ?_ | refine aw_ret ?_ | refine aw_exit ?_ | refine aw_block ?_ | refine xr_reg (by decide +kernel) ?_ | refine xr_nil ?_ | refine k_norm ?_ | refine k_ret ?_ | refine k_exit ?_ | refine b_norm ?_ | refine b_ret ?_ | refine b_exit ?_ | refine b_past (by decide) ?_) | (refine Ty.c53 (args := ?_) (K := ?_) ?_ ?_ ?_; rotate_left 2) | (refine xr_do (v := ?_) (h' := ?_) (by exact rfl) ?_ ?_; rotate_left 2) | (refine xr_st (v := ?_) (h' := ?_) (by exact rfl) ?_ ?_; rotate_left 2) | (refine aw_c (b := ?_) (by decide) ?_ ?_; rotate_left 1; (· simp only [ev, Zb, reduceIte, Nat.reduceEqDiff, *]; rfl)) | (with_reducible first | refine cw_t ?_ | refine cw_f ?_) | refine cw_if (fun hb => ?_) (fun hb => ?_) | (refine r_ret (vs := ?_) ?_ ?_; rotate_left 1; (· simp only [resV, ev, Zb, reduceIte, Nat.reduceEqDiff, Zj, *]; rfl)) | (with_reducible exact within_ok _ _ _ _) | ((with_reducible refine Z2w ?_); rintro _ _ ⟨rfl, hh⟩; replace hh := hh.symm; subst hh))
    refine ⟨?_, rfl⟩
    rw [List.take_of_length_le hkn] at hall
    rw [hall]; rfl
/-- Numbers that rise. -/
def incr (l : List Int) : Bool := (List.range (l.length - 1)).all fun i => decide (l.getD i 0 < l.getD (i + 1) 0)
def incrK (l : List Int) (k : Nat) : Bool := (List.range (k - 1)).all fun i => decide (l.getD i 0 < l.getD (i + 1) 0)
theorem incrK_succ {l : List Int} {k : Nat} (h : incrK l k = true) (hs : l.getD (k - 1) 0 < l.getD k 0) : incrK l (k + 1) = true := by
  cases k with
  | zero => rfl
  | succ k =>
    simp only [incrK, Nat.add_sub_cancel] at h ⊢
    rw [List.range_succ, List.all_append, h]
    simpa using hs
theorem incr_false {l : List Int} {k : Nat} (h0 : 0 < k) (hk : k < l.length) (hs : ¬ l.getD (k - 1) 0 < l.getD k 0) : incr l = false := by
  refine List.all_eq_false.2 ⟨k - 1, by simp; omega, ?_⟩
  rw [show k - 1 + 1 = k by omega]; simpa using hs
theorem sl_get {h : Heap} {e : Nat} {b : Option Addr} {l : List Int} (hrow : ∀ i r, (ints l)[i]? = some r → ∃ a, b = some a ∧ loadCs h a.block (a.off + i * 1) 1 = some r) (k : Nat) (hk : k < l.length) :
    ∃ a, b = some a ∧ getC h a.block (a.off + k * 1) = some (.int .i64 (l.getD k 0)) := by
  obtain ⟨a, rfl, hl⟩ := Sl.row hrow (k := k) (by simpa [ints] using hk)
  refine ⟨a, rfl, ?_⟩
  simp only [ints, List.getElem_map] at hl
  rw [List.getD_eq_getElem?_getD, List.getElem?_eq_getElem hk]
  exact getC_of_load hl
theorem increasing_ok (l : List Int) (h : Heap) (v : Value) (hs : Sl h v 1 (ints l)) (hb : l.length ≤ 1048576) :
    ACalls Try.prog 0 84 #[v] h
    fun v h' => v = .bool (incr l) ∧ h' = h := by
  obtain ⟨b, c, rfl, hc, hrow⟩ := hs
  rw [ints_length] at hc ⊢
  refine Z36 Try.func84 rfl Try.ntmps84 (by simp) (by dsimp only [Try.f84]) ?_
  repeat' (first | ((with_reducible refine eq_go ?_); simp only [stp, ev, ZB, reduceIte, Nat.reduceEqDiff, Z2x, Z13, Zy, ldv, idxA, blt, lenV, Z10, ZH, Zg, Ze, Z14, Zw, Z33, Nat.reduceAdd, Nat.reduceMul, Nat.reduceLeDiff, splice, newB, vcs, Ty.t3, Ty.t86, *]; rfl) | (with_reducible first | refine aw_then ?_ | refine aw_skip ?_ | refine aw_ret ?_ | refine aw_exit ?_ | refine aw_block ?_ | refine xr_reg (by decide +kernel) ?_ | refine xr_nil ?_ | refine k_norm ?_ | refine k_ret ?_ | refine k_exit ?_ | refine b_norm ?_ | refine b_ret ?_ | refine b_exit ?_ | refine b_past (by decide) ?_ | refine xd_nil ?_) | (refine xr_do (v := ?_) (h' := ?_) (by exact rfl) ?_ ?_; rotate_left 2) | (refine xr_st (v := ?_) (h' := ?_) (by exact rfl) ?_ ?_; rotate_left 2) | refine xd_reg (ms := [0, 0, 2, 7, 15, 0, 0, 96, 224, 511]) Ty.mx (by decide +kernel) (by decide +kernel) ?_ | (refine xd_do (v := ?_) (by exact rfl) (by decide +kernel) ?_ ?_; rotate_left 1) | (refine aw_c (b := ?_) (by decide) ?_ ?_; rotate_left 1; (· simp only [ev, Zb, reduceIte, Nat.reduceEqDiff, *]; rfl)) | (with_reducible first | refine cw_t ?_ | refine cw_f ?_) | refine cw_if (fun hb => ?_) (fun hb => ?_) | (refine r_ret (vs := ?_) ?_ ?_; rotate_left 1; (· simp only [resV, ev, Zb, reduceIte, Nat.reduceEqDiff, Zj, *]; rfl)))
  refine aw_count (fun k T h' => h' = h ∧ T 3 = .int .i64 (k : Nat) ∧ 1 ≤ k ∧ T 0 = .slice b l.length c ∧ incrK l k = true) (max 1 l.length) (k0 := 1) (by omega) ⟨rfl, rfl, by omega, rfl, rfl⟩ ?_
  rintro k T h' hk ⟨rfl, h3, hk1, h0, hall⟩
  rcases Nat.lt_or_ge k l.length with hkn | hkn
  · have h1 : (k : Int) < l.length := by omega
    obtain ⟨a, rfl, hg⟩ := sl_get (e := 1) hrow k hkn
    obtain ⟨a', h2, hg2⟩ := sl_get (e := 1) hrow (k - 1) (by omega)
    cases h2
    have hw1 : IntKind.i64.wrap ((k : Int) - 1) = ((k - 1 : Nat) : Int) := by rw [wrap_id (by omega)]; omega
    have hlt : ((k - 1 : Nat) : Int) < l.length := by omega
    clear hrow
    repeat' (first | ((with_reducible refine eq_go ?_); simp only [stp, ev, ZB, reduceIte, Nat.reduceEqDiff, Z2x, Z13, Zy, ldv, idxA, blt, lenV, Z10, ZH, Zg, Ze, Z14, Zw, Z33, Nat.reduceAdd, Nat.reduceMul, Nat.reduceLeDiff, splice, newB, vcs, Ty.t3, Ty.t86, *]; rfl) | (with_reducible first | refine aw_then ?_ | refine aw_skip ?_ | refine aw_ret ?_ | refine aw_exit ?_ | refine aw_block ?_ | refine xr_reg (by decide +kernel) ?_ | refine xr_nil ?_ | refine k_norm ?_ | refine k_ret ?_ | refine k_exit ?_ | refine b_norm ?_ | refine b_ret ?_ | refine b_exit ?_ | refine b_past (by decide) ?_ | refine xd_nil ?_) | (refine xr_do (v := ?_) (h' := ?_) (by exact rfl) ?_ ?_; rotate_left 2) | (refine xr_st (v := ?_) (h' := ?_) (by exact rfl) ?_ ?_; rotate_left 2) | refine xd_reg (ms := [0, 0, 2, 7, 15, 0, 0, 96, 224, 511]) Ty.mx (by decide +kernel) (by decide +kernel) ?_ | (refine xd_do (v := ?_) (by exact rfl) (by decide +kernel) ?_ ?_; rotate_left 1) | (refine aw_c (b := ?_) (by decide) ?_ ?_; rotate_left 1; (· simp only [ev, Zb, reduceIte, Nat.reduceEqDiff, *]; rfl)) | (with_reducible first | refine cw_t ?_ | refine cw_f ?_) | refine cw_if (fun hb => ?_) (fun hb => ?_) | (refine r_ret (vs := ?_) ?_ ?_; rotate_left 1; (· simp only [resV, ev, Zb, reduceIte, Nat.reduceEqDiff, Zj, *]; rfl)))
    · simp only [decide_eq_true_eq] at hb
      refine ⟨?_, rfl⟩
      rw [incr_false (k := k) (by omega) hkn (by omega)]; rfl
    simp only [decide_eq_false_iff_not] at hb
    refine ⟨by omega, rfl, ?_, by omega, ?_, ?_⟩
    · simp only [Zb, reduceIte, Nat.reduceEqDiff]
      rw [wrap_id (by omega)]; rfl
    · simp only [Zb, reduceIte, Nat.reduceEqDiff, h0]
    · exact incrK_succ hall (by omega)
  · have h1 : ¬ (k : Int) < l.length := by omega
    clear hrow
    repeat' (first | ((with_reducible refine eq_go ?_); simp only [stp, ev, ZB, reduceIte, Nat.reduceEqDiff, Z2x, Z13, Zy, ldv, idxA, blt, lenV, Z10, ZH, Zg, Ze, Z14, Zw, Z33, Nat.reduceAdd, Nat.reduceMul, Nat.reduceLeDiff, splice, newB, vcs, Ty.t3, Ty.t86, *]; rfl) | (with_reducible first | refine aw_then ?_ | refine aw_skip ?_ | refine aw_ret ?_ | refine aw_exit ?_ | refine aw_block ?_ | refine xr_reg (by decide +kernel) ?_ | refine xr_nil ?_ | refine k_norm ?_ | refine k_ret ?_ | refine k_exit ?_ | refine b_norm ?_ | refine b_ret ?_ | refine b_exit ?_ | refine b_past (by decide) ?_ | refine xd_nil ?_) | (refine xr_do (v := ?_) (h' := ?_) (by exact rfl) ?_ ?_; rotate_left 2) | (refine xr_st (v := ?_) (h' := ?_) (by exact rfl) ?_ ?_; rotate_left 2) | refine xd_reg (ms := [0, 0, 2, 7, 15, 0, 0, 96, 224, 511]) Ty.mx (by decide +kernel) (by decide +kernel) ?_ | (refine xd_do (v := ?_) (by exact rfl) (by decide +kernel) ?_ ?_; rotate_left 1) | (refine aw_c (b := ?_) (by decide) ?_ ?_; rotate_left 1; (· simp only [ev, Zb, reduceIte, Nat.reduceEqDiff, *]; rfl)) | (with_reducible first | refine cw_t ?_ | refine cw_f ?_) | refine cw_if (fun hb => ?_) (fun hb => ?_) | (refine r_ret (vs := ?_) ?_ ?_; rotate_left 1; (· simp only [resV, ev, Zb, reduceIte, Nat.reduceEqDiff, Zj, *]; rfl)))
    refine ⟨?_, rfl⟩
    have e : k - 1 = l.length - 1 := by omega
    simp only [incrK, e] at hall
    simp only [oneOf, incr, hall]
/-- Numbers that rise, in bounds. -/
def rise (l : List Int) (lo hi : Int) : Bool := incr l && allIn l lo hi
theorem l1Rising_ok (l : List Int) (lo hi : Int) (h : Heap) (v : Value) (hs : Sl h v 1 (ints l)) (hb : l.length ≤ 1048576) :
    ACalls Try.prog 0 58 #[v, .int .i64 lo, .int .i64 hi] h
    fun v h' => v = .bool (rise l lo hi) ∧ h' = h := by
  obtain ⟨b, c, rfl, hc, hrow⟩ := hs
  rw [ints_length] at hc ⊢
  refine Z36 Try.func58 rfl Try.ntmps58 (by simp) (by dsimp only [Try.f58]) ?_
  repeat' (first | ((with_reducible refine eq_go ?_); simp only [stp, ev, ZB, reduceIte, Nat.reduceEqDiff, Z2x, Z13, Zy, ldv, idxA, blt, lenV, Z10, ZH, Zg, Ze, Z14, Zw, Z33, Nat.reduceAdd, Nat.reduceMul, Nat.reduceLeDiff, splice, newB, vcs, Ty.t3, Ty.t86, *]; rfl) | (with_reducible first | refine aw_then ?_ | refine aw_skip ?_ | refine aw_ret ?_ | refine aw_exit ?_ | refine aw_block ?_ | refine xr_reg (by decide +kernel) ?_ | refine xr_nil ?_ | refine k_norm ?_ | refine k_ret ?_ | refine k_exit ?_ | refine b_norm ?_ | refine b_ret ?_ | refine b_exit ?_ | refine b_past (by decide) ?_) | (refine Ty.c40 (args := ?_) (K := ?_) ?_ ?_ ?_; rotate_left 2) | (refine xr_do (v := ?_) (h' := ?_) (by exact rfl) ?_ ?_; rotate_left 2) | (refine xr_st (v := ?_) (h' := ?_) (by exact rfl) ?_ ?_; rotate_left 2) | (refine xr_g (b := ?_) (by exact rfl) ?_ ?_; rotate_left 1; (· simp only [ev, Zb, reduceIte, Nat.reduceEqDiff, Z8, Z5, *]; rfl)) | (with_reducible first | refine gw_tt ?_ | refine gw_ff ?_ | refine gw_tf ?_ | refine gw_ft ?_ | refine gw_un ?_) | refine gw_if (fun hb => ?_) (fun hb => ?_) | (refine aw_c (b := ?_) (by decide) ?_ ?_; rotate_left 1; (· simp only [ev, Zb, reduceIte, Nat.reduceEqDiff, *]; rfl)) | (with_reducible first | refine cw_t ?_ | refine cw_f ?_) | refine cw_if (fun hb => ?_) (fun hb => ?_) | (refine r_ret (vs := ?_) ?_ ?_; rotate_left 1; (· simp only [resV, ev, Zb, reduceIte, Nat.reduceEqDiff, Zj, *]; rfl)) | (with_reducible exact l1In_ok _ _ _ _) | ((with_reducible refine Z2w ?_); rintro _ _ ⟨rfl, hh⟩; replace hh := hh.symm; subst hh))
  refine aw_for [0, 1, 2, 9, 10] (fun k T h' => h' = h ∧ T 11 = .int .i64 k ∧ allIn (l.take k) lo hi = true ∧ incrK l k = true) l.length (k0 := 0) (Nat.zero_le _) ⟨rfl, rfl, rfl, rfl⟩ ?_
  rintro k T h' hk hR ⟨rfl, h11, hall, hinc⟩
  simp only [Z37, Z38, Z39, implies_true, and_true, stp, ev, ZB, reduceIte, Nat.reduceEqDiff, Z2x, Z13, Zy] at hR
  rcases Nat.lt_or_ge k l.length with hkn | hkn
  · have h1 : (k : Int) < l.length := by omega
    obtain ⟨a, rfl, hg⟩ := sl_get (e := 1) hrow k hkn
    have hgd : l.getD k 0 = l[k] := by rw [List.getD_eq_getElem?_getD, List.getElem?_eq_getElem hkn]; rfl
    have hallk : allIn (l.take (k + 1)) lo hi = decide (lo ≤ l.getD k 0 ∧ l.getD k 0 ≤ hi) := by
      unfold allIn at hall ⊢
      rw [← List.take_append_getElem hkn, List.all_append, hall, hgd]; simp
    have hbad : decide (lo ≤ l.getD k 0 ∧ l.getD k 0 ≤ hi) = false → rise l lo hi = false := fun q => by
      have : allIn l lo hi = false := List.all_eq_false.2 ⟨l[k], List.getElem_mem _, by rw [← hgd]; simpa using q⟩
      rw [rise, this, Bool.and_false]
    rcases Nat.eq_zero_or_pos k with rfl | hk0
    · clear hrow hgd
      generalize l.getD 0 0 = x at *
      rw [Nat.zero_mul, Zi] at hg
      have hz : ¬ ((0 : Nat) : Int) > 0 := by omega
      repeat' (first | ((with_reducible refine eq_go ?_); simp only [stp, ev, ZB, reduceIte, Nat.reduceEqDiff, Z2x, Z13, Zy, ldv, idxA, blt, lenV, Z10, ZH, Zg, Ze, Z14, Zw, Z33, Nat.reduceAdd, Nat.reduceMul, Nat.reduceLeDiff, splice, newB, vcs, Ty.t3, Ty.t86, *]; rfl) | (with_reducible first | refine aw_then ?_ | refine aw_skip ?_ | refine aw_ret ?_ | refine aw_exit ?_ | refine aw_block ?_ | refine xr_reg (by decide +kernel) ?_ | refine xr_nil ?_ | refine k_norm ?_ | refine k_ret ?_ | refine k_exit ?_ | refine b_norm ?_ | refine b_ret ?_ | refine b_exit ?_ | refine b_past (by decide) ?_) | (refine Ty.c40 (args := ?_) (K := ?_) ?_ ?_ ?_; rotate_left 2) | (refine xr_do (v := ?_) (h' := ?_) (by exact rfl) ?_ ?_; rotate_left 2) | (refine xr_st (v := ?_) (h' := ?_) (by exact rfl) ?_ ?_; rotate_left 2) | (refine xr_g (b := ?_) (by exact rfl) ?_ ?_; rotate_left 1; (· simp only [ev, Zb, reduceIte, Nat.reduceEqDiff, Z8, Z5, *]; rfl)) | (with_reducible first | refine gw_tt ?_ | refine gw_ff ?_ | refine gw_tf ?_ | refine gw_ft ?_ | refine gw_un ?_) | refine gw_if (fun hb => ?_) (fun hb => ?_) | (refine aw_c (b := ?_) (by decide) ?_ ?_; rotate_left 1; (· simp only [ev, Zb, reduceIte, Nat.reduceEqDiff, *]; rfl)) | (with_reducible first | refine cw_t ?_ | refine cw_f ?_) | refine cw_if (fun hb => ?_) (fun hb => ?_) | (refine r_ret (vs := ?_) ?_ ?_; rotate_left 1; (· simp only [resV, ev, Zb, reduceIte, Nat.reduceEqDiff, Zj, *]; rfl)) | (with_reducible exact l1In_ok _ _ _ _) | ((with_reducible refine Z2w ?_); rintro _ _ ⟨rfl, hh⟩; replace hh := hh.symm; subst hh))
      · refine ⟨?_, rfl⟩
        rw [hbad (by simpa only [Bool.not_eq_true'] using hb)]; rfl
      refine ⟨by first | assumption | omega, ?_, ?_⟩
      · simp only [Z37, Z38, Z39, implies_true, and_true, ZB, stp, ev, reduceIte, Nat.reduceEqDiff, Z2x, Z13, Zy, *]
      refine ⟨rfl, ?_, ?_, rfl⟩
      · simp only [Zb, reduceIte, Nat.reduceEqDiff]
        rw [wrap_id (by omega)]; rfl
      · rw [hallk]; simpa using hb
    · obtain ⟨a', h2, hg2⟩ := sl_get (e := 1) hrow (k - 1) (by omega)
      cases h2
      have hw1 : IntKind.i64.wrap ((k : Int) - 1) = ((k - 1 : Nat) : Int) := by rw [wrap_id (by omega)]; omega
      have hlt : ((k - 1 : Nat) : Int) < l.length := by omega
      have hz : ((k : Nat) : Int) > 0 := by omega
      clear hrow
      rw [← hgd] at *
      clear hgd
      repeat' (first | ((with_reducible refine eq_go ?_); simp only [stp, ev, ZB, reduceIte, Nat.reduceEqDiff, Z2x, Z13, Zy, ldv, idxA, blt, lenV, Z10, ZH, Zg, Ze, Z14, Zw, Z33, Nat.reduceAdd, Nat.reduceMul, Nat.reduceLeDiff, splice, newB, vcs, Ty.t3, Ty.t86, *]; rfl) | (with_reducible first | refine aw_then ?_ | refine aw_skip ?_ | refine aw_ret ?_ | refine aw_exit ?_ | refine aw_block ?_ | refine xr_reg (by decide +kernel) ?_ | refine xr_nil ?_ | refine k_norm ?_ | refine k_ret ?_ | refine k_exit ?_ | refine b_norm ?_ | refine b_ret ?_ | refine b_exit ?_ | refine b_past (by decide) ?_) | (refine Ty.c40 (args := ?_) (K := ?_) ?_ ?_ ?_; rotate_left 2) | (refine xr_do (v := ?_) (h' := ?_) (by exact rfl) ?_ ?_; rotate_left 2) | (refine xr_st (v := ?_) (h' := ?_) (by exact rfl) ?_ ?_; rotate_left 2) | (refine xr_g (b := ?_) (by exact rfl) ?_ ?_; rotate_left 1; (· simp only [ev, Zb, reduceIte, Nat.reduceEqDiff, Z8, Z5, *]; rfl)) | (with_reducible first | refine gw_tt ?_ | refine gw_ff ?_ | refine gw_tf ?_ | refine gw_ft ?_ | refine gw_un ?_) | refine gw_if (fun hb => ?_) (fun hb => ?_) | (refine aw_c (b := ?_) (by decide) ?_ ?_; rotate_left 1; (· simp only [ev, Zb, reduceIte, Nat.reduceEqDiff, *]; rfl)) | (with_reducible first | refine cw_t ?_ | refine cw_f ?_) | refine cw_if (fun hb => ?_) (fun hb => ?_) | (refine r_ret (vs := ?_) ?_ ?_; rotate_left 1; (· simp only [resV, ev, Zb, reduceIte, Nat.reduceEqDiff, Zj, *]; rfl)) | (with_reducible exact l1In_ok _ _ _ _) | ((with_reducible refine Z2w ?_); rintro _ _ ⟨rfl, hh⟩; replace hh := hh.symm; subst hh))
      · refine ⟨?_, rfl⟩
        rw [hbad (by simpa only [Bool.not_eq_true'] using hb)]; rfl
      · refine ⟨?_, rfl⟩
        simp only [decide_eq_true_eq] at hb
        rw [rise, incr_false hk0 hkn (by omega), Bool.false_and]; rfl
      refine ⟨by first | assumption | omega, ?_, ?_⟩
      · simp only [Z37, Z38, Z39, implies_true, and_true, ZB, stp, ev, reduceIte, Nat.reduceEqDiff, Z2x, Z13, Zy, *]
      rename_i hb0
      simp only [decide_eq_false_iff_not] at hb
      refine ⟨rfl, ?_, ?_, incrK_succ hinc (by omega)⟩
      · simp only [Zb, reduceIte, Nat.reduceEqDiff]
        rw [wrap_id (by omega)]; rfl
      · rw [hallk]; simpa using hb0
  · have h1 : ¬ (k : Int) < l.length := by omega
    clear hrow
    repeat' (first | ((with_reducible refine eq_go ?_); simp only [stp, ev, ZB, reduceIte, Nat.reduceEqDiff, Z2x, Z13, Zy, ldv, idxA, blt, lenV, Z10, ZH, Zg, Ze, Z14, Zw, Z33, Nat.reduceAdd, Nat.reduceMul, Nat.reduceLeDiff, splice, newB, vcs, Ty.t3, Ty.t86, *]; rfl) | (with_reducible first | refine aw_then ?_ | refine aw_skip ?_ | refine aw_ret ?_ | refine aw_exit ?_ | refine aw_block ?_ | refine xr_reg (by decide +kernel) ?_ | refine xr_nil ?_ | refine k_norm ?_ | refine k_ret ?_ | refine k_exit ?_ | refine b_norm ?_ | refine b_ret ?_ | refine b_exit ?_ | refine b_past (by decide) ?_) | (refine Ty.c40 (args := ?_) (K := ?_) ?_ ?_ ?_; rotate_left 2) | (refine xr_do (v := ?_) (h' := ?_) (by exact rfl) ?_ ?_; rotate_left 2) | (refine xr_st (v := ?_) (h' := ?_) (by exact rfl) ?_ ?_; rotate_left 2) | (refine xr_g (b := ?_) (by exact rfl) ?_ ?_; rotate_left 1; (· simp only [ev, Zb, reduceIte, Nat.reduceEqDiff, Z8, Z5, *]; rfl)) | (with_reducible first | refine gw_tt ?_ | refine gw_ff ?_ | refine gw_tf ?_ | refine gw_ft ?_ | refine gw_un ?_) | refine gw_if (fun hb => ?_) (fun hb => ?_) | (refine aw_c (b := ?_) (by decide) ?_ ?_; rotate_left 1; (· simp only [ev, Zb, reduceIte, Nat.reduceEqDiff, *]; rfl)) | (with_reducible first | refine cw_t ?_ | refine cw_f ?_) | refine cw_if (fun hb => ?_) (fun hb => ?_) | (refine r_ret (vs := ?_) ?_ ?_; rotate_left 1; (· simp only [resV, ev, Zb, reduceIte, Nat.reduceEqDiff, Zj, *]; rfl)) | (with_reducible exact l1In_ok _ _ _ _) | ((with_reducible refine Z2w ?_); rintro _ _ ⟨rfl, hh⟩; replace hh := hh.symm; subst hh))
    refine ⟨?_, rfl⟩
    rw [List.take_of_length_le hkn] at hall
    have : incrK l k = incr l := by obtain rfl : k = l.length := by omega
                                    rfl
    simp only [oneOf, rise, hall, ← this, hinc, Z1e]
/-- Transitions and nets. -/
structure Tr where
  inn : List Int
  out : List Int
  res : List Int
structure NetM where
  places : Int
  trans : List Tr
def RTr (h : Heap) (r : List Value) (t : Tr) : Prop := ∃ a b c, r = [a, b, c] ∧ Sl h a 1 (ints t.inn) ∧ Sl h b 1 (ints t.out) ∧ Sl h c 1 (ints t.res)
theorem RTr.sub {I h : Heap} {r : List Value} {t : Tr} (q : RTr I r t) (s : Sub I h) : RTr h r t := by
  obtain ⟨a, b, c, rfl, h1, h2, h3⟩ := q
  exact ⟨a, b, c, rfl, h1.sub s, h2.sub s, h3.sub s⟩
abbrev RTrs := RS RTr 3
theorem RTrs.sub {I h : Heap} {v : Value} {l : List Tr} (q : RTrs I v l) (s : Sub I h) : RTrs h v l := RS.mono q s fun r x hr => hr.sub s
def Tr.small (t : Tr) : Prop := t.inn.length ≤ 1048576 ∧ t.out.length ≤ 1048576 ∧ t.res.length ≤ 1048576
def NetM.small (n : NetM) : Prop := n.trans.length ≤ 1048576 ∧ ∀ t ∈ n.trans, t.small
def trOk (places : Int) (t : Tr) : Bool := (!decide (t.inn.length = 0)) && (rise t.inn 0 (places - 1) && (rise t.out 0 (places - 1) && rise t.res 0 (places - 1)))
def netOk (n : NetM) : Bool := decide (1 ≤ n.places ∧ n.places ≤ 16) && (decide ((n.trans.length : Int) ≤ 24) && n.trans.all (trOk n.places))
theorem arePlaces_ok (p : Int) (vt : Value) (l : List Int) (h : Heap) (v : Value) (hs : Sl h v 1 (ints l)) (hb : l.length ≤ 1048576) (hp : 0 ≤ p ∧ p ≤ 100) (hf : flat vt = true) :
    ACalls Try.prog 0 96 #[.agg #[.int .i64 p, vt], v] h
    fun v h' => v = .bool (rise l 0 (p - 1)) ∧ h' = h := by
  refine acalls_pure (.inl rfl) ?_
  have hw : IntKind.i64.wrap (p - 1) = p - 1 := wrap_id (by omega)
  refine Z36 Try.func96 rfl Try.ntmps96 (by simp) (by dsimp only [Try.f96]) ?_
  repeat' (first | ((with_reducible refine eq_go ?_); simp only [stp, ev, ZB, reduceIte, Nat.reduceEqDiff, Z2x, Z13, Zy, ldv, fldA, blt, lenV, Z10, ZH, Zg, Ze, Z14, Zw, Z33, Nat.reduceAdd, Nat.reduceMul, Nat.reduceLeDiff, splice, newB, vcs, Ty.t3, Ty.t68, Ty.t70, Ty.t86, Ty.t95, *]; rfl) | (with_reducible first | refine aw_then ?_ | refine aw_skip ?_ | refine aw_ret ?_ | refine aw_exit ?_ | refine aw_block ?_ | refine xr_reg (by decide +kernel) ?_ | refine xr_nil ?_ | refine k_norm ?_ | refine k_ret ?_ | refine k_exit ?_ | refine b_norm ?_ | refine b_ret ?_ | refine b_exit ?_ | refine b_past (by decide) ?_) | (refine Ty.c84 (args := ?_) (K := ?_) ?_ ?_ ?_; rotate_left 2) | (refine Ty.c85 (args := ?_) (K := ?_) ?_ ?_ ?_; rotate_left 2) | (refine xr_do (v := ?_) (h' := ?_) (by exact rfl) ?_ ?_; rotate_left 2) | (refine xr_st (v := ?_) (h' := ?_) (by exact rfl) ?_ ?_; rotate_left 2) | (refine xr_g (b := ?_) (by exact rfl) ?_ ?_; rotate_left 1; (· simp only [ev, Zb, reduceIte, Nat.reduceEqDiff, Z8, Z5, *]; rfl)) | (with_reducible first | refine gw_tt ?_ | refine gw_ff ?_ | refine gw_tf ?_ | refine gw_ft ?_ | refine gw_un ?_) | refine gw_if (fun hb => ?_) (fun hb => ?_) | (refine aw_c (b := ?_) (by decide) ?_ ?_; rotate_left 1; (· simp only [ev, Zb, reduceIte, Nat.reduceEqDiff, *]; rfl)) | (with_reducible first | refine cw_t ?_ | refine cw_f ?_) | refine cw_if (fun hb => ?_) (fun hb => ?_) | (refine r_ret (vs := ?_) ?_ ?_; rotate_left 1; (· simp only [resV, ev, Zb, reduceIte, Nat.reduceEqDiff, Zj, *]; rfl)) | ((with_reducible refine increasing_ok ?_ _ _ ?_ ?_); rotate_left 1; (· first | assumption | exact Sl.sub ‹_› (by first | assumption | exact Sub.refl _ | exact Sub.app ‹_› _ | exact Sub.app (Sub.refl _) _)); (· first | omega | (simp only [Z2]; omega))) | ((with_reducible refine allWithin_ok ?_ _ _ _ _ ?_ ?_); rotate_left 1; (· first | assumption | exact Sl.sub ‹_› (by first | assumption | exact Sub.refl _ | exact Sub.app ‹_› _ | exact Sub.app (Sub.refl _) _)); (· first | omega | (simp only [Z2]; omega))) | ((with_reducible refine Z2w ?_); rintro _ _ ⟨rfl, hh⟩; replace hh := hh.symm; subst hh))
  all_goals refine ⟨?_, _, rfl⟩
  all_goals simp only [oneOf, rise, *, Bool.true_and, Bool.false_and]
theorem goodNet1_ok (p : Int) (vt : Value) (t : Tr) (row : List Value) (I h : Heap) (id : Nat) (hI : Sub I h) (hb0 : ∀ h2, Sub h h2 → loadCs h2 id 0 2 = some [.int .i64 p, vt])
    (hr : RTr I row t) (ht : t.small) (hp : 0 ≤ p ∧ p ≤ 100) (hf : flat vt = true) :
    ACalls Try.prog 0 95 #[.agg row.toArray, .pointer (some ⟨id, 0, none⟩)] h
    fun v h' => v = .bool (!trOk p t) ∧ h' = h := by
  refine acalls_pure (.inl rfl) ?_
  obtain ⟨a, b, c, rfl, h1, h2, h3⟩ := hr
  obtain ⟨q1, q2, q3⟩ := ht
  have f1 := h1.flat
  have f2 := h2.flat
  have f3 := h3.flat
  obtain ⟨x1, y1, rfl, z1, _⟩ := _root_.id h1
  rw [ints_length] at *
  refine Z36 Try.func95 rfl Try.ntmps95 (by simp) (by dsimp only [Try.f95]) ?_
  repeat' (first | ((with_reducible refine eq_go ?_); simp only [stp, ev, ZB, reduceIte, Nat.reduceEqDiff, Z2x, Z13, Zy, ldv, fldA, blt, lenV, Z10, ZH, Zg, Ze, Z14, Zw, Z33, Nat.reduceAdd, Nat.reduceMul, Nat.reduceLeDiff, splice, newB, vcs, Ty.t3, Ty.t68, Ty.t70, Ty.t86, Ty.t95, Sub.refl, Sub.app, *]; rfl) | (with_reducible first | refine aw_then ?_ | refine aw_skip ?_ | refine aw_ret ?_ | refine aw_exit ?_ | refine aw_block ?_ | refine xr_reg (by decide +kernel) ?_ | refine xr_nil ?_ | refine k_norm ?_ | refine k_ret ?_ | refine k_exit ?_ | refine b_norm ?_ | refine b_ret ?_ | refine b_exit ?_ | refine b_past (by decide) ?_) | (refine Ty.c96 (args := ?_) (K := ?_) ?_ ?_ ?_; rotate_left 2) | (refine xr_do (v := ?_) (h' := ?_) (by exact rfl) ?_ ?_; rotate_left 2) | (refine xr_st (v := ?_) (h' := ?_) (by exact rfl) ?_ ?_; rotate_left 2) | (refine xr_g (b := ?_) (by exact rfl) ?_ ?_; rotate_left 1; (· simp only [ev, Zb, reduceIte, Nat.reduceEqDiff, Z8, Z5, *]; rfl)) | (with_reducible first | refine gw_tt ?_ | refine gw_ff ?_ | refine gw_tf ?_ | refine gw_ft ?_ | refine gw_un ?_) | refine gw_if (fun hb => ?_) (fun hb => ?_) | (refine aw_c (b := ?_) (by decide) ?_ ?_; rotate_left 1; (· simp only [ev, Zb, reduceIte, Nat.reduceEqDiff, *]; rfl)) | (with_reducible first | refine cw_t ?_ | refine cw_f ?_) | refine cw_if (fun hb => ?_) (fun hb => ?_) | (refine r_ret (vs := ?_) ?_ ?_; rotate_left 1; (· simp only [resV, ev, Zb, reduceIte, Nat.reduceEqDiff, Zj, *]; rfl)) | ((with_reducible refine arePlaces_ok _ _ ?_ _ _ ?_ ?_ ?_ ?_); rotate_left 1; (· first | assumption | exact Sl.sub ‹_› (by first | assumption | exact Sub.refl _ | exact Sub.app ‹_› _ | exact Sub.app (Sub.refl _) _)); (· first | omega | (simp only [Z2]; omega)); (· first | omega | (simp only [Z2]; omega)); (· first | assumption | exact Sl.flat (by assumption) | exact RS.flat (by assumption))) | ((with_reducible refine Z2w ?_); rintro _ _ ⟨rfl, hh⟩; replace hh := hh.symm; subst hh))
  all_goals refine ⟨?_, _, rfl⟩
  all_goals simp only [oneOf, trOk]
  all_goals (try simp only [decide_eq_true_eq, decide_eq_false_iff_not, Int.natCast_eq_zero] at *)
  all_goals simp_all
theorem idxTr_ok (l : List Tr) (p : Tr → Bool) (v : Value) (g : FuncId) (fs cs : Array Value) (I h : Heap) (hI : Sub I h) (hs : RTrs I v l) (hg : callOk Try.prog g = true)
    (hl : l.length ≤ 1048576) (hp : ∀ t ∈ l, ∀ row, RTr I row t → ACalls Try.prog 0 g (fs ++ #[.agg row.toArray] ++ cs) h fun v h' => v = .bool (p t) ∧ h' = h) :
    ACalls Try.prog 0 102 #[v, .func (.func g) fs cs] h
    fun v h' => v = .int .i64 (idxOf p l) ∧ h' = h := by
  obtain ⟨b, c, rfl, hc, hrow⟩ := hs.form
  have hfl := hs.flat
  refine Z36 Try.func102 rfl Try.ntmps102 (by simp) (by dsimp only [Try.f102]) ?_
  repeat' (first | ((with_reducible refine eq_go ?_); simp only [stp, ev, ZB, reduceIte, Nat.reduceEqDiff, Z2x, Z13, Zy, ldv, idxA, blt, lenV, Z10, ZH, Zg, Ze, Z14, Zw, Z33, Nat.reduceAdd, Nat.reduceMul, Nat.reduceLeDiff, splice, newB, vcs, Ty.t3, Ty.t68, Ty.t86, Ty.t95, *]; rfl) | (with_reducible first | refine aw_then ?_ | refine aw_skip ?_ | refine aw_ret ?_ | refine aw_exit ?_ | refine aw_block ?_ | refine xr_reg (by decide +kernel) ?_ | refine xr_nil ?_ | refine k_norm ?_ | refine k_ret ?_ | refine k_exit ?_ | refine b_norm ?_ | refine b_ret ?_ | refine b_exit ?_ | refine b_past (by decide) ?_) | (refine xr_do (v := ?_) (h' := ?_) (by exact rfl) ?_ ?_; rotate_left 2) | (refine xr_st (v := ?_) (h' := ?_) (by exact rfl) ?_ ?_; rotate_left 2) | (refine aw_c (b := ?_) (by decide) ?_ ?_; rotate_left 1; (· simp only [ev, Zb, reduceIte, Nat.reduceEqDiff, *]; rfl)) | (with_reducible first | refine cw_t ?_ | refine cw_f ?_) | refine cw_if (fun hb => ?_) (fun hb => ?_) | (refine r_ret (vs := ?_) ?_ ?_; rotate_left 1; (· simp only [resV, ev, Zb, reduceIte, Nat.reduceEqDiff, Zj, *]; rfl)))
  refine aw_for [0, 1, 6, 7] (fun k T h' => h' = h ∧ T 8 = .int .i64 k ∧ (l.take k).findIdx? p = none) l.length (k0 := 0) (Nat.zero_le _) ⟨rfl, rfl, rfl⟩ ?_
  rintro k T h' hk hR ⟨rfl, h11, hall⟩
  simp only [Z37, Z38, Z39, implies_true, and_true, stp, ev, ZB, reduceIte, Nat.reduceEqDiff, Z2x, Z13, Zy] at hR
  rcases Nat.lt_or_ge k l.length with hkn | hkn
  · have h1 : (k : Int) < l.length := by omega
    obtain ⟨a, row, rfl, hrl, hrt, hld0⟩ := hrow k hkn
    have hpk := hp l[k] (List.getElem_mem hkn) row hrt
    obtain ⟨x, y, z, rfl, q1, q2, q3⟩ := hrt
    have hld := hld0 _ hI
    have f1 := q1.flat
    have f2 := q2.flat
    have f3 := q3.flat
    clear hrow hld0
    repeat' (first | ((with_reducible refine eq_go ?_); simp only [stp, ev, ZB, reduceIte, Nat.reduceEqDiff, Z2x, Z13, Zy, ldv, idxA, blt, lenV, Z10, ZH, Zg, Ze, Z14, Zw, Z33, Nat.reduceAdd, Nat.reduceMul, Nat.reduceLeDiff, splice, newB, vcs, Ty.t3, Ty.t68, Ty.t86, Ty.t95, *]; rfl) | (with_reducible first | refine aw_then ?_ | refine aw_skip ?_ | refine aw_ret ?_ | refine aw_exit ?_ | refine aw_block ?_ | refine xr_reg (by decide +kernel) ?_ | refine xr_nil ?_ | refine k_norm ?_ | refine k_ret ?_ | refine k_exit ?_ | refine b_norm ?_ | refine b_ret ?_ | refine b_exit ?_ | refine b_past (by decide) ?_) | (refine xr_do (v := ?_) (h' := ?_) (by exact rfl) ?_ ?_; rotate_left 2) | (refine xr_st (v := ?_) (h' := ?_) (by exact rfl) ?_ ?_; rotate_left 2) | (refine aw_c (b := ?_) (by decide) ?_ ?_; rotate_left 1; (· simp only [ev, Zb, reduceIte, Nat.reduceEqDiff, *]; rfl)) | (with_reducible first | refine cw_t ?_ | refine cw_f ?_) | refine cw_if (fun hb => ?_) (fun hb => ?_) | (refine r_ret (vs := ?_) ?_ ?_; rotate_left 1; (· simp only [resV, ev, Zb, reduceIte, Nat.reduceEqDiff, Zj, *]; rfl)))
    refine xr_cl (f := g) (fs := fs) (cs := cs) (args := ?_) (K := ?_) ?_ ?_ ?_ ?_ ?_
    rotate_left 2
    · simp only [stp, ev, ZB, reduceIte, Nat.reduceEqDiff, Z2x, Z13, Zy, ldv, idxA, blt, lenV, Z10, ZH, Zg, Ze, Z14, Zw, Z33, Nat.reduceAdd, Nat.reduceMul, Nat.reduceLeDiff, splice, newB, vcs, Ty.t3, Ty.t68, Ty.t86, Ty.t95, *]
    · exact hg
    · simp only [stp, ev, ZB, reduceIte, Nat.reduceEqDiff, Z2x, Z13, Zy, ldv, idxA, blt, lenV, Z10, ZH, Zg, Ze, Z14, Zw, Z33, Nat.reduceAdd, Nat.reduceMul, Nat.reduceLeDiff, splice, newB, vcs, Ty.t3, Ty.t68, Ty.t86, Ty.t95, *]; rfl
    · exact hpk
    rintro _ _ ⟨rfl, rfl⟩
    repeat' (first | ((with_reducible refine eq_go ?_); simp only [stp, ev, ZB, reduceIte, Nat.reduceEqDiff, Z2x, Z13, Zy, ldv, idxA, blt, lenV, Z10, ZH, Zg, Ze, Z14, Zw, Z33, Nat.reduceAdd, Nat.reduceMul, Nat.reduceLeDiff, splice, newB, vcs, Ty.t3, Ty.t68, Ty.t86, Ty.t95, *]; rfl) | (with_reducible first | refine aw_then ?_ | refine aw_skip ?_ | refine aw_ret ?_ | refine aw_exit ?_ | refine aw_block ?_ | refine xr_reg (by decide +kernel) ?_ | refine xr_nil ?_ | refine k_norm ?_ | refine k_ret ?_ | refine k_exit ?_ | refine b_norm ?_ | refine b_ret ?_ | refine b_exit ?_ | refine b_past (by decide) ?_) | (refine xr_do (v := ?_) (h' := ?_) (by exact rfl) ?_ ?_; rotate_left 2) | (refine xr_st (v := ?_) (h' := ?_) (by exact rfl) ?_ ?_; rotate_left 2) | (refine aw_c (b := ?_) (by decide) ?_ ?_; rotate_left 1; (· simp only [ev, Zb, reduceIte, Nat.reduceEqDiff, *]; rfl)) | (with_reducible first | refine cw_t ?_ | refine cw_f ?_) | refine cw_if (fun hb => ?_) (fun hb => ?_) | (refine r_ret (vs := ?_) ?_ ?_; rotate_left 1; (· simp only [resV, ev, Zb, reduceIte, Nat.reduceEqDiff, Zj, *]; rfl)))
    · refine ⟨?_, rfl⟩
      rw [idxOf_hit hkn hall (by simpa using hb)]; rfl
    refine ⟨by first | assumption | omega, ?_, ?_⟩
    · simp only [Z37, Z38, Z39, implies_true, and_true, ZB, stp, ev, reduceIte, Nat.reduceEqDiff, Z2x, Z13, Zy, *]
    refine ⟨rfl, ?_, ?_⟩
    · simp only [Zb, reduceIte, Nat.reduceEqDiff]
      rw [wrap_id (by omega)]; rfl
    · rw [← List.take_append_getElem hkn, List.findIdx?_append, hall]
      simp [List.findIdx?_cons, hb]
  · have h1 : ¬ (k : Int) < l.length := by omega
    repeat' (first | ((with_reducible refine eq_go ?_); simp only [stp, ev, ZB, reduceIte, Nat.reduceEqDiff, Z2x, Z13, Zy, ldv, idxA, blt, lenV, Z10, ZH, Zg, Ze, Z14, Zw, Z33, Nat.reduceAdd, Nat.reduceMul, Nat.reduceLeDiff, splice, newB, vcs, Ty.t3, Ty.t68, Ty.t86, Ty.t95, *]; rfl) | (with_reducible first | refine aw_then ?_ | refine aw_skip ?_ | refine aw_ret ?_ | refine aw_exit ?_ | refine aw_block ?_ | refine xr_reg (by decide +kernel) ?_ | refine xr_nil ?_ | refine k_norm ?_ | refine k_ret ?_ | refine k_exit ?_ | refine b_norm ?_ | refine b_ret ?_ | refine b_exit ?_ | refine b_past (by decide) ?_) | (refine xr_do (v := ?_) (h' := ?_) (by exact rfl) ?_ ?_; rotate_left 2) | (refine xr_st (v := ?_) (h' := ?_) (by exact rfl) ?_ ?_; rotate_left 2) | (refine aw_c (b := ?_) (by decide) ?_ ?_; rotate_left 1; (· simp only [ev, Zb, reduceIte, Nat.reduceEqDiff, *]; rfl)) | (with_reducible first | refine cw_t ?_ | refine cw_f ?_) | refine cw_if (fun hb => ?_) (fun hb => ?_) | (refine r_ret (vs := ?_) ?_ ?_; rotate_left 1; (· simp only [resV, ev, Zb, reduceIte, Nat.reduceEqDiff, Zj, *]; rfl)))
    refine ⟨?_, rfl⟩
    rw [List.take_of_length_le hkn] at hall
    simp only [oneOf, idxOf, hall]
end Go.Proofs.Ytmjhfklmlcnofaa.Am
namespace Go.Proofs.Ytmjhfklmlcnofaa.Am
open Go Go.Proofs
set_option linter.unusedVariables false
set_option linter.unusedSimpArgs false
set_option maxRecDepth 100000
set_option maxHeartbeats 8000000
theorem anyTr_ok (l : List Tr) (p : Tr → Bool) (v : Value) (g : FuncId) (fs cs : Array Value) (I h : Heap) (hI : Sub I h) (hs : RTrs I v l) (hg : callOk Try.prog g = true)
    (hl : l.length ≤ 1048576) (hp : ∀ t ∈ l, ∀ row, RTr I row t → ACalls Try.prog 0 g (fs ++ #[.agg row.toArray] ++ cs) h fun v h' => v = .bool (p t) ∧ h' = h) :
    ACalls Try.prog 0 94 #[v, .func (.func g) fs cs] h
    fun v h' => v = .bool (l.any p) ∧ h' = h := by
  have hfl := hs.flat
  refine Z36 Try.func94 rfl Try.ntmps94 (by simp) (by dsimp only [Try.f94]) ?_
  repeat' (first | ((with_reducible refine eq_go ?_); simp only [stp, ev, ZB, reduceIte, Nat.reduceEqDiff, Z2x, Z13, Zy, blt, lenV, Z10, Z3, Z2, Zf, Zg, Ze, Z1, Z0, Z14, Zw, Ty.t3, Ty.t68, Ty.t86, Ty.t95, Ty.t127, *]; rfl) | (with_reducible first | refine aw_then ?_ | refine aw_skip ?_ | refine aw_ret ?_ | refine aw_exit ?_ | refine aw_block ?_ | refine xr_reg (by decide +kernel) ?_ | refine xr_nil ?_ | refine k_norm ?_ | refine k_ret ?_ | refine k_exit ?_ | refine b_norm ?_ | refine b_ret ?_ | refine b_exit ?_ | refine b_past (by decide) ?_) | (refine Ty.c102 (args := ?_) (K := ?_) ?_ ?_ ?_; rotate_left 2) | (refine xr_do (v := ?_) (h' := ?_) (by exact rfl) ?_ ?_; rotate_left 2) | (refine xr_st (v := ?_) (h' := ?_) (by exact rfl) ?_ ?_; rotate_left 2) | (refine aw_c (b := ?_) (by decide) ?_ ?_; rotate_left 1; (· simp only [ev, Zb, reduceIte, Nat.reduceEqDiff, *]; rfl)) | (with_reducible first | refine cw_t ?_ | refine cw_f ?_) | refine cw_if (fun hb => ?_) (fun hb => ?_) | (refine r_ret (vs := ?_) ?_ ?_; rotate_left 1; (· simp only [resV, ev, Zb, reduceIte, Nat.reduceEqDiff, Zj, *]; rfl)) | ((with_reducible refine idxTr_ok ?_ ?_ _ _ _ _ ?_ _ ?_ ?_ ?_ ?_ ?_); rotate_left 3; (· assumption); (· assumption); (· assumption); (· first | omega | (simp only [Z2]; omega)); (· assumption)) | ((with_reducible refine Z2w ?_); rintro _ _ ⟨rfl, hh⟩; replace hh := hh.symm; subst hh))
  refine ⟨?_, rfl⟩
  rw [idxOf_any]; rfl
theorem any_not {α : Type} (p : α → Bool) (l : List α) : (!l.any fun x => !p x) = l.all p := by
  rw [List.not_any_eq_all_not]; simp
theorem goodNet_ok (n : NetM) (vt : Value) (I h : Heap) (hI : Sub I h) (hs : RTrs I vt n.trans) (hsm : n.small) :
    ACalls Try.prog 0 87 #[.agg #[.int .i64 n.places, vt]] h
    fun v h' => v = .bool (netOk n) ∧ h' = h := by
  refine acalls_pure (.inl rfl) ?_
  have hfl := hs.flat
  obtain ⟨b, c, rfl, hc, _⟩ := hs.form
  have hlen := hsm.1
  by_cases hp : 1 ≤ n.places ∧ n.places ≤ 16
  · refine Z36 Try.func87 rfl Try.ntmps87 (by simp) (by dsimp only [Try.f87]) ?_
    repeat' (first | ((with_reducible refine eq_go ?_); simp only [stp, ev, ZB, reduceIte, Nat.reduceEqDiff, Z2x, Z13, Zy, ldv, fldA, blt, lenV, Z10, ZH, Zg, Ze, Z14, Zw, Z33, Nat.reduceAdd, Nat.reduceMul, Nat.reduceLeDiff, splice, newB, vcs, Ty.t3, Ty.t68, Ty.t70, Ty.t86, Ty.t95, Ty.t127, *]; rfl) | (with_reducible first | refine aw_then ?_ | refine aw_skip ?_ | refine aw_ret ?_ | refine aw_exit ?_ | refine aw_block ?_ | refine xr_reg (by decide +kernel) ?_ | refine xr_nil ?_ | refine k_norm ?_ | refine k_ret ?_ | refine k_exit ?_ | refine b_norm ?_ | refine b_ret ?_ | refine b_exit ?_ | refine b_past (by decide) ?_) | (refine Ty.c53 (args := ?_) (K := ?_) ?_ ?_ ?_; rotate_left 2) | (refine Ty.c94 (args := ?_) (K := ?_) ?_ ?_ ?_; rotate_left 2) | (refine Ty.c95 (args := ?_) (K := ?_) ?_ ?_ ?_; rotate_left 2) | (refine xr_do (v := ?_) (h' := ?_) (by exact rfl) ?_ ?_; rotate_left 2) | (refine xr_st (v := ?_) (h' := ?_) (by exact rfl) ?_ ?_; rotate_left 2) | (refine xr_g (b := ?_) (by exact rfl) ?_ ?_; rotate_left 1; (· simp only [ev, Zb, reduceIte, Nat.reduceEqDiff, Z8, Z5, *]; rfl)) | (with_reducible first | refine gw_tt ?_ | refine gw_ff ?_ | refine gw_tf ?_ | refine gw_ft ?_ | refine gw_un ?_) | refine gw_if (fun hb => ?_) (fun hb => ?_) | (refine aw_c (b := ?_) (by decide) ?_ ?_; rotate_left 1; (· simp only [ev, Zb, reduceIte, Nat.reduceEqDiff, *]; rfl)) | (with_reducible first | refine cw_t ?_ | refine cw_f ?_) | refine cw_if (fun hb => ?_) (fun hb => ?_) | (refine r_ret (vs := ?_) ?_ ?_; rotate_left 1; (· simp only [resV, ev, Zb, reduceIte, Nat.reduceEqDiff, Zj, *]; rfl)) | (with_reducible exact within_ok _ _ _ _) | ((with_reducible refine anyTr_ok n.trans (fun t => !trOk n.places t) _ _ _ _ I _ ?_ ?_ ?_ ?_ ?_); (· exact hI.app _); (· assumption); (· exact Ty.ok95); (· assumption); (· exact fun t ht row hr => goodNet1_ok n.places _ t row I _ _ (hI.app _) (fun h2 s => s.load (by simp only [Z20, Z1q]; rfl)) hr (hsm.2 t ht) (by omega) hfl)) | ((with_reducible refine goodNet1_ok _ _ ?_ _ ?_ _ _ ?_); rotate_left 2; (· assumption)) | ((with_reducible refine Z2w ?_); rintro _ _ ⟨rfl, hh⟩; replace hh := hh.symm; subst hh))
    all_goals refine ⟨?_, _, rfl⟩
    all_goals simp only [oneOf, netOk, any_not, *, Z2b, Z1g, Z17, Bool.true_and, Bool.false_and]
  · refine Z36 Try.func87 rfl Try.ntmps87 (by simp) (by dsimp only [Try.f87]) ?_
    repeat' (first | ((with_reducible refine eq_go ?_); simp only [stp, ev, ZB, reduceIte, Nat.reduceEqDiff, Z2x, Z13, Zy, ldv, fldA, blt, lenV, Z10, ZH, Zg, Ze, Z14, Zw, Z33, Nat.reduceAdd, Nat.reduceMul, Nat.reduceLeDiff, splice, newB, vcs, Ty.t3, Ty.t68, Ty.t70, Ty.t86, Ty.t95, Ty.t127, *]; rfl) | (with_reducible first | refine aw_then ?_ | refine aw_skip ?_ | refine aw_ret ?_ | refine aw_exit ?_ | refine aw_block ?_ | refine xr_reg (by decide +kernel) ?_ | refine xr_nil ?_ | refine k_norm ?_ | refine k_ret ?_ | refine k_exit ?_ | refine b_norm ?_ | refine b_ret ?_ | refine b_exit ?_ | refine b_past (by decide) ?_) | (refine Ty.c53 (args := ?_) (K := ?_) ?_ ?_ ?_; rotate_left 2) | (refine Ty.c94 (args := ?_) (K := ?_) ?_ ?_ ?_; rotate_left 2) | (refine Ty.c95 (args := ?_) (K := ?_) ?_ ?_ ?_; rotate_left 2) | (refine xr_do (v := ?_) (h' := ?_) (by exact rfl) ?_ ?_; rotate_left 2) | (refine xr_st (v := ?_) (h' := ?_) (by exact rfl) ?_ ?_; rotate_left 2) | (refine xr_g (b := ?_) (by exact rfl) ?_ ?_; rotate_left 1; (· simp only [ev, Zb, reduceIte, Nat.reduceEqDiff, Z8, Z5, *]; rfl)) | (with_reducible first | refine gw_tt ?_ | refine gw_ff ?_ | refine gw_tf ?_ | refine gw_ft ?_ | refine gw_un ?_) | refine gw_if (fun hb => ?_) (fun hb => ?_) | (refine aw_c (b := ?_) (by decide) ?_ ?_; rotate_left 1; (· simp only [ev, Zb, reduceIte, Nat.reduceEqDiff, *]; rfl)) | (with_reducible first | refine cw_t ?_ | refine cw_f ?_) | refine cw_if (fun hb => ?_) (fun hb => ?_) | (refine r_ret (vs := ?_) ?_ ?_; rotate_left 1; (· simp only [resV, ev, Zb, reduceIte, Nat.reduceEqDiff, Zj, *]; rfl)) | (with_reducible exact within_ok _ _ _ _) | ((with_reducible refine anyTr_ok n.trans (fun t => !trOk n.places t) _ _ _ _ I _ ?_ ?_ ?_ ?_ ?_); (· exact hI.app _); (· assumption); (· exact Ty.ok95); (· assumption); (· exact fun t ht row hr => goodNet1_ok n.places _ t row I _ _ (hI.app _) (fun h2 s => s.load (by simp only [Z20, Z1q]; rfl)) hr (hsm.2 t ht) (by omega) hfl)) | ((with_reducible refine goodNet1_ok _ _ ?_ _ ?_ _ _ ?_); rotate_left 2; (· assumption)) | ((with_reducible refine Z2w ?_); rintro _ _ ⟨rfl, hh⟩; replace hh := hh.symm; subst hh))
    all_goals refine ⟨?_, _, rfl⟩
    all_goals simp only [oneOf, netOk, any_not, *, Z1g, Z17, Bool.true_and, Bool.false_and]
theorem l1Places_ok (n : Int) (h : Heap) : ACalls Try.prog 0 92 #[.int .i64 n] h fun v h' => v = .bool (decide (1 ≤ n ∧ n ≤ 16)) ∧ h' = h := by
  refine Z36 Try.func92 rfl Try.ntmps92 (by simp) (by dsimp only [Try.f92]) ?_
  repeat' (first | ((with_reducible refine eq_go ?_); simp only [stp, ev, ZB, reduceIte, Nat.reduceEqDiff, Z2x, Z13, Zy, blt, lenV, Z10, Z3, Z2, Zf, Zg, Ze, Z1, Z0, Z14, Zw, Ty.t3, *]; rfl) | (with_reducible first | refine aw_then ?_ | refine aw_skip ?_ | refine aw_ret ?_ | refine aw_exit ?_ | refine aw_block ?_ | refine xr_reg (by decide +kernel) ?_ | refine xr_nil ?_ | refine k_norm ?_ | refine k_ret ?_ | refine k_exit ?_ | refine b_norm ?_ | refine b_ret ?_ | refine b_exit ?_ | refine b_past (by decide) ?_) | (refine Ty.c40 (args := ?_) (K := ?_) ?_ ?_ ?_; rotate_left 2) | (refine xr_do (v := ?_) (h' := ?_) (by exact rfl) ?_ ?_; rotate_left 2) | (refine xr_st (v := ?_) (h' := ?_) (by exact rfl) ?_ ?_; rotate_left 2) | (refine aw_c (b := ?_) (by decide) ?_ ?_; rotate_left 1; (· simp only [ev, Zb, reduceIte, Nat.reduceEqDiff, *]; rfl)) | (with_reducible first | refine cw_t ?_ | refine cw_f ?_) | refine cw_if (fun hb => ?_) (fun hb => ?_) | (refine r_ret (vs := ?_) ?_ ?_; rotate_left 1; (· simp only [resV, ev, Zb, reduceIte, Nat.reduceEqDiff, Zj, *]; rfl)) | (with_reducible exact l1In_ok _ _ _ _) | ((with_reducible refine Z2w ?_); rintro _ _ ⟨rfl, hh⟩; replace hh := hh.symm; subst hh))
  exact ⟨rfl, rfl⟩
theorem specGoodNet_ok (n : NetM) (vt : Value) (I h : Heap) (hI : Sub I h) (hs : RTrs I vt n.trans) (hsm : n.small) :
    ACalls Try.prog 0 78 #[.agg #[.int .i64 n.places, vt]] h
    fun v h' => v = .bool (netOk n) ∧ h' = h := by
  refine acalls_pure (.inl rfl) ?_
  have hfl := hs.flat
  obtain ⟨b, c, rfl, hc, hrow⟩ := hs.form
  have hlen := hsm.1
  by_cases hp : 1 ≤ n.places ∧ n.places ≤ 16
  · have hw : IntKind.i64.wrap (n.places - 1) = n.places - 1 := wrap_id (by omega)
    have hpt : decide (1 ≤ n.places ∧ n.places ≤ 16) = true := decide_eq_true hp
    refine Z36 Try.func78 rfl Try.ntmps78 (by simp) (by dsimp only [Try.f78]) ?_
    repeat' (first | ((with_reducible refine eq_go ?_); simp only [stp, ev, ZB, reduceIte, Nat.reduceEqDiff, Z2x, Z13, Zy, ldv, stv, vcs, fldA, idxA, blt, lenV, Z10, ZH, Zg, Ze, Z14, Zw, Z33, Nat.reduceAdd, Nat.reduceMul, Nat.reduceLeDiff, splice, newB, Ty.t3, Ty.t68, Ty.t70, Ty.t86, Ty.t95, *]; rfl) | (with_reducible first | refine aw_then ?_ | refine aw_skip ?_ | refine aw_ret ?_ | refine aw_exit ?_ | refine aw_block ?_ | refine xr_reg (by decide +kernel) ?_ | refine xr_nil ?_ | refine k_norm ?_ | refine k_ret ?_ | refine k_exit ?_ | refine b_norm ?_ | refine b_ret ?_ | refine b_exit ?_ | refine b_past (by decide) ?_) | (refine Ty.c58 (args := ?_) (K := ?_) ?_ ?_ ?_; rotate_left 2) | (refine Ty.c92 (args := ?_) (K := ?_) ?_ ?_ ?_; rotate_left 2) | (refine xr_do (v := ?_) (h' := ?_) (by exact rfl) ?_ ?_; rotate_left 2) | (refine xr_st (v := ?_) (h' := ?_) (by exact rfl) ?_ ?_; rotate_left 2) | (refine xr_g (b := ?_) (by exact rfl) ?_ ?_; rotate_left 1; (· simp only [ev, Zb, reduceIte, Nat.reduceEqDiff, Z8, Z5, *]; rfl)) | (with_reducible first | refine gw_tt ?_ | refine gw_ff ?_ | refine gw_tf ?_ | refine gw_ft ?_ | refine gw_un ?_) | refine gw_if (fun hb => ?_) (fun hb => ?_) | (refine aw_c (b := ?_) (by decide) ?_ ?_; rotate_left 1; (· simp only [ev, Zb, reduceIte, Nat.reduceEqDiff, *]; rfl)) | (with_reducible first | refine cw_t ?_ | refine cw_f ?_) | refine cw_if (fun hb => ?_) (fun hb => ?_) | (refine r_ret (vs := ?_) ?_ ?_; rotate_left 1; (· simp only [resV, ev, Zb, reduceIte, Nat.reduceEqDiff, Zj, *]; rfl)) | ((with_reducible refine l1Rising_ok ?_ _ _ _ _ ?_ ?_); rotate_left 1; (· first | assumption | exact Sl.sub ‹_› (by first | assumption | exact Sub.refl _ | exact Sub.app ‹_› _ | exact Sub.app (Sub.refl _) _)); (· first | omega | (simp only [Z2]; omega))) | (with_reducible exact l1Places_ok _ _) | ((with_reducible refine Z2w ?_); rintro _ _ ⟨rfl, hh⟩; replace hh := hh.symm; subst hh))
    · refine ⟨?_, _, rfl⟩
      have : decide ((n.trans.length : Int) ≤ 24) = false := by simp only [decide_eq_true_eq, decide_eq_false_iff_not] at hb ⊢; omega
      simp only [oneOf, netOk, this, hpt, Bool.true_and, Bool.false_and]
    have h24 : decide ((n.trans.length : Int) ≤ 24) = true := by simp only [decide_eq_true_eq, decide_eq_false_iff_not] at hb ⊢; omega
    refine aw_for [1, 16, 17] (fun k T h' => (∃ L, h' = h ++ (⟨2, 1, [.int .i64 n.places, .slice b n.trans.length c]⟩ :: L)) ∧ T 18 = .int .i64 k ∧ (n.trans.take k).all (trOk n.places) = true) n.trans.length (k0 := 0) (Nat.zero_le _) ⟨⟨[], rfl⟩, rfl, rfl⟩ ?_
    rintro k T h' hk hR ⟨⟨L, rfl⟩, h11, hall⟩
    simp only [Z37, Z38, Z39, implies_true, and_true, stp, ev, ZB, reduceIte, Nat.reduceEqDiff, Z2x, Z13, Zy] at hR
    rcases Nat.lt_or_ge k n.trans.length with hkn | hkn
    · have h1 : (k : Int) < n.trans.length := by omega
      obtain ⟨a, row, rfl, hrl, hrt, hld0⟩ := hrow k hkn
      obtain ⟨x, y, z, rfl, q1, q2, q3⟩ := hrt
      obtain ⟨s1, s2, s3⟩ := hsm.2 n.trans[k] (List.getElem_mem hkn)
      have hld := fun L => hld0 _ (hI.app L)
      have f1 := q1.flat
      have f2 := q2.flat
      have f3 := q3.flat
      obtain ⟨x1, y1, rfl, z1, _⟩ := _root_.id q1
      rw [ints_length] at *
      have hgood : ∀ b, trOk n.places n.trans[k] = b → (n.trans.take (k + 1)).all (trOk n.places) = b := fun b hb => by
        rw [← List.take_append_getElem hkn, List.all_append, hall, ← hb]; simp
      have hbad : trOk n.places n.trans[k] = false → n.trans.all (trOk n.places) = false := fun q => List.all_eq_false.2 ⟨n.trans[k], List.getElem_mem _, by simpa using q⟩
      clear hrow hld0
      generalize n.trans[k] = t at *
      repeat' (first | ((with_reducible refine eq_go ?_); simp only [stp, ev, ZB, reduceIte, Nat.reduceEqDiff, Z2x, Z13, Zy, ldv, stv, vcs, fldA, idxA, blt, lenV, Z10, ZH, Zg, Ze, Z14, Zw, Z33, Nat.reduceAdd, Nat.reduceMul, Nat.reduceLeDiff, splice, newB, Ty.t3, Ty.t68, Ty.t70, Ty.t86, Ty.t95, *]; rfl) | (with_reducible first | refine aw_then ?_ | refine aw_skip ?_ | refine aw_ret ?_ | refine aw_exit ?_ | refine aw_block ?_ | refine xr_reg (by decide +kernel) ?_ | refine xr_nil ?_ | refine k_norm ?_ | refine k_ret ?_ | refine k_exit ?_ | refine b_norm ?_ | refine b_ret ?_ | refine b_exit ?_ | refine b_past (by decide) ?_) | (refine Ty.c58 (args := ?_) (K := ?_) ?_ ?_ ?_; rotate_left 2) | (refine Ty.c92 (args := ?_) (K := ?_) ?_ ?_ ?_; rotate_left 2) | (refine xr_do (v := ?_) (h' := ?_) (by exact rfl) ?_ ?_; rotate_left 2) | (refine xr_st (v := ?_) (h' := ?_) (by exact rfl) ?_ ?_; rotate_left 2) | (refine xr_g (b := ?_) (by exact rfl) ?_ ?_; rotate_left 1; (· simp only [ev, Zb, reduceIte, Nat.reduceEqDiff, Z8, Z5, *]; rfl)) | (with_reducible first | refine gw_tt ?_ | refine gw_ff ?_ | refine gw_tf ?_ | refine gw_ft ?_ | refine gw_un ?_) | refine gw_if (fun hb => ?_) (fun hb => ?_) | (refine aw_c (b := ?_) (by decide) ?_ ?_; rotate_left 1; (· simp only [ev, Zb, reduceIte, Nat.reduceEqDiff, *]; rfl)) | (with_reducible first | refine cw_t ?_ | refine cw_f ?_) | refine cw_if (fun hb => ?_) (fun hb => ?_) | (refine r_ret (vs := ?_) ?_ ?_; rotate_left 1; (· simp only [resV, ev, Zb, reduceIte, Nat.reduceEqDiff, Zj, *]; rfl)) | ((with_reducible refine l1Rising_ok ?_ _ _ _ _ ?_ ?_); rotate_left 1; (· first | assumption | exact Sl.sub ‹_› (by first | assumption | exact Sub.refl _ | exact Sub.app ‹_› _ | exact Sub.app (Sub.refl _) _)); (· first | omega | (simp only [Z2]; omega))) | (with_reducible exact l1Places_ok _ _) | ((with_reducible refine Z2w ?_); rintro _ _ ⟨rfl, hh⟩; replace hh := hh.symm; subst hh))
      iterate 4
        · refine ⟨?_, _, rfl⟩
          rw [show netOk n = false from ?_]; rfl
          simp only [netOk]
          rw [hbad ?_, Bool.and_false, Bool.and_false]
          simp only [trOk]
          (try simp only [decide_eq_true_eq, decide_eq_false_iff_not, Int.natCast_eq_zero] at *)
          simp_all
      refine ⟨by first | assumption | omega, ?_, ?_⟩
      · simp only [Z37, Z38, Z39, implies_true, and_true, ZB, stp, ev, reduceIte, Nat.reduceEqDiff, Z2x, Z13, Zy, *]
      refine ⟨⟨_, rfl⟩, ?_, ?_⟩
      · simp only [Zb, reduceIte, Nat.reduceEqDiff]
        rw [wrap_id (by omega)]; rfl
      · refine hgood true ?_
        simp only [trOk]
        (try simp only [decide_eq_true_eq, decide_eq_false_iff_not, Int.natCast_eq_zero] at *)
        simp_all
    · have h1 : ¬ (k : Int) < n.trans.length := by omega
      repeat' (first | ((with_reducible refine eq_go ?_); simp only [stp, ev, ZB, reduceIte, Nat.reduceEqDiff, Z2x, Z13, Zy, ldv, stv, vcs, fldA, idxA, blt, lenV, Z10, ZH, Zg, Ze, Z14, Zw, Z33, Nat.reduceAdd, Nat.reduceMul, Nat.reduceLeDiff, splice, newB, Ty.t3, Ty.t68, Ty.t70, Ty.t86, Ty.t95, *]; rfl) | (with_reducible first | refine aw_then ?_ | refine aw_skip ?_ | refine aw_ret ?_ | refine aw_exit ?_ | refine aw_block ?_ | refine xr_reg (by decide +kernel) ?_ | refine xr_nil ?_ | refine k_norm ?_ | refine k_ret ?_ | refine k_exit ?_ | refine b_norm ?_ | refine b_ret ?_ | refine b_exit ?_ | refine b_past (by decide) ?_) | (refine Ty.c58 (args := ?_) (K := ?_) ?_ ?_ ?_; rotate_left 2) | (refine Ty.c92 (args := ?_) (K := ?_) ?_ ?_ ?_; rotate_left 2) | (refine xr_do (v := ?_) (h' := ?_) (by exact rfl) ?_ ?_; rotate_left 2) | (refine xr_st (v := ?_) (h' := ?_) (by exact rfl) ?_ ?_; rotate_left 2) | (refine xr_g (b := ?_) (by exact rfl) ?_ ?_; rotate_left 1; (· simp only [ev, Zb, reduceIte, Nat.reduceEqDiff, Z8, Z5, *]; rfl)) | (with_reducible first | refine gw_tt ?_ | refine gw_ff ?_ | refine gw_tf ?_ | refine gw_ft ?_ | refine gw_un ?_) | refine gw_if (fun hb => ?_) (fun hb => ?_) | (refine aw_c (b := ?_) (by decide) ?_ ?_; rotate_left 1; (· simp only [ev, Zb, reduceIte, Nat.reduceEqDiff, *]; rfl)) | (with_reducible first | refine cw_t ?_ | refine cw_f ?_) | refine cw_if (fun hb => ?_) (fun hb => ?_) | (refine r_ret (vs := ?_) ?_ ?_; rotate_left 1; (· simp only [resV, ev, Zb, reduceIte, Nat.reduceEqDiff, Zj, *]; rfl)) | ((with_reducible refine l1Rising_ok ?_ _ _ _ _ ?_ ?_); rotate_left 1; (· first | assumption | exact Sl.sub ‹_› (by first | assumption | exact Sub.refl _ | exact Sub.app ‹_› _ | exact Sub.app (Sub.refl _) _)); (· first | omega | (simp only [Z2]; omega))) | (with_reducible exact l1Places_ok _ _) | ((with_reducible refine Z2w ?_); rintro _ _ ⟨rfl, hh⟩; replace hh := hh.symm; subst hh))
      refine ⟨?_, _, rfl⟩
      rw [List.take_of_length_le hkn] at hall
      simp only [oneOf, netOk, hall, h24, hpt, Z1d]
  · have hpf : decide (1 ≤ n.places ∧ n.places ≤ 16) = false := decide_eq_false hp
    clear hrow
    refine Z36 Try.func78 rfl Try.ntmps78 (by simp) (by dsimp only [Try.f78]) ?_
    repeat' (first | ((with_reducible refine eq_go ?_); simp only [stp, ev, ZB, reduceIte, Nat.reduceEqDiff, Z2x, Z13, Zy, ldv, stv, vcs, fldA, idxA, blt, lenV, Z10, ZH, Zg, Ze, Z14, Zw, Z33, Nat.reduceAdd, Nat.reduceMul, Nat.reduceLeDiff, splice, newB, Ty.t3, Ty.t68, Ty.t70, Ty.t86, Ty.t95, *]; rfl) | (with_reducible first | refine aw_then ?_ | refine aw_skip ?_ | refine aw_ret ?_ | refine aw_exit ?_ | refine aw_block ?_ | refine xr_reg (by decide +kernel) ?_ | refine xr_nil ?_ | refine k_norm ?_ | refine k_ret ?_ | refine k_exit ?_ | refine b_norm ?_ | refine b_ret ?_ | refine b_exit ?_ | refine b_past (by decide) ?_) | (refine Ty.c58 (args := ?_) (K := ?_) ?_ ?_ ?_; rotate_left 2) | (refine Ty.c92 (args := ?_) (K := ?_) ?_ ?_ ?_; rotate_left 2) | (refine xr_do (v := ?_) (h' := ?_) (by exact rfl) ?_ ?_; rotate_left 2) | (refine xr_st (v := ?_) (h' := ?_) (by exact rfl) ?_ ?_; rotate_left 2) | (refine xr_g (b := ?_) (by exact rfl) ?_ ?_; rotate_left 1; (· simp only [ev, Zb, reduceIte, Nat.reduceEqDiff, Z8, Z5, *]; rfl)) | (with_reducible first | refine gw_tt ?_ | refine gw_ff ?_ | refine gw_tf ?_ | refine gw_ft ?_ | refine gw_un ?_) | refine gw_if (fun hb => ?_) (fun hb => ?_) | (refine aw_c (b := ?_) (by decide) ?_ ?_; rotate_left 1; (· simp only [ev, Zb, reduceIte, Nat.reduceEqDiff, *]; rfl)) | (with_reducible first | refine cw_t ?_ | refine cw_f ?_) | refine cw_if (fun hb => ?_) (fun hb => ?_) | (refine r_ret (vs := ?_) ?_ ?_; rotate_left 1; (· simp only [resV, ev, Zb, reduceIte, Nat.reduceEqDiff, Zj, *]; rfl)) | ((with_reducible refine l1Rising_ok ?_ _ _ _ _ ?_ ?_); rotate_left 1; (· first | assumption | exact Sl.sub ‹_› (by first | assumption | exact Sub.refl _ | exact Sub.app ‹_› _ | exact Sub.app (Sub.refl _) _)); (· first | omega | (simp only [Z2]; omega))) | (with_reducible exact l1Places_ok _ _) | ((with_reducible refine Z2w ?_); rintro _ _ ⟨rfl, hh⟩; replace hh := hh.symm; subst hh))
    refine ⟨?_, _, rfl⟩
    simp only [oneOf, netOk, hpf, Bool.false_and]
end Go.Proofs.Ytmjhfklmlcnofaa.Am
namespace Go.Proofs.Ytmjhfklmlcnofaa.Am
open Go Go.Proofs
set_option linter.unusedVariables false
set_option linter.unusedSimpArgs false
set_option maxRecDepth 100000
set_option maxHeartbeats 8000000
def bools (l : List Bool) : List Value := l.map .bool
theorem bools_af (l : List Bool) : ∀ x ∈ bools l, af1 x = true := by
  intro x hx; obtain ⟨b, _, rfl⟩ := List.mem_map.1 hx; rfl
theorem bools_len (l : List Bool) : (bools l).length = l.length := by simp [bools]
theorem bools_set (l : List Bool) (i : Nat) (b : Bool) : (bools l).set i (.bool b) = bools (l.set i b) := by simp [bools, List.map_set]
theorem bools_get (l : List Bool) {i : Nat} (h : i < l.length) : (bools l)[i]? = some (.bool (l.getD i false)) := by
  simp [bools, List.getD_eq_getElem?_getD, List.getElem?_eq_getElem h]
theorem bools_zeros (n : Nat) : zeros [.bool false] n = bools (List.replicate n false) := by
  induction n with
  | zero => rfl
  | succ n ih => simp [zeros, bools, List.replicate_succ] at *
theorem idxInt_ok (l : List Int) (p : Int → Bool) (v : Value) (g : FuncId) (fs cs : Array Value) (h : Heap) (hs : Sl h v 1 (ints l)) (hg : callOk Try.prog g = true)
    (hl : l.length ≤ 1048576) (hp : ∀ x ∈ l, ACalls Try.prog 0 g (fs ++ #[.int .i64 x] ++ cs) h fun v h' => v = .bool (p x) ∧ h' = h) :
    ACalls Try.prog 0 105 #[v, .func (.func g) fs cs] h
    fun v h' => v = .int .i64 (idxOf p l) ∧ h' = h := by
  obtain ⟨b, c, rfl, hc, hrow⟩ := hs
  rw [ints_length] at *
  refine Z36 Try.func105 rfl Try.ntmps105 (by simp) (by dsimp only [Try.f105]) ?_
  repeat' (first | ((with_reducible refine eq_go ?_); simp only [stp, ev, ZB, reduceIte, Nat.reduceEqDiff, Z2x, Z13, Zy, ldv, idxA, blt, lenV, Z10, ZH, Zg, Ze, Z14, Zw, Z33, Nat.reduceAdd, Nat.reduceMul, Nat.reduceLeDiff, splice, newB, vcs, Ty.t3, Ty.t86, *]; rfl) | (with_reducible first | refine aw_then ?_ | refine aw_skip ?_ | refine aw_ret ?_ | refine aw_exit ?_ | refine aw_block ?_ | refine xr_reg (by decide +kernel) ?_ | refine xr_nil ?_ | refine k_norm ?_ | refine k_ret ?_ | refine k_exit ?_ | refine b_norm ?_ | refine b_ret ?_ | refine b_exit ?_ | refine b_past (by decide) ?_) | (refine xr_do (v := ?_) (h' := ?_) (by exact rfl) ?_ ?_; rotate_left 2) | (refine xr_st (v := ?_) (h' := ?_) (by exact rfl) ?_ ?_; rotate_left 2) | (refine aw_c (b := ?_) (by decide) ?_ ?_; rotate_left 1; (· simp only [ev, Zb, reduceIte, Nat.reduceEqDiff, *]; rfl)) | (with_reducible first | refine cw_t ?_ | refine cw_f ?_) | refine cw_if (fun hb => ?_) (fun hb => ?_) | (refine r_ret (vs := ?_) ?_ ?_; rotate_left 1; (· simp only [resV, ev, Zb, reduceIte, Nat.reduceEqDiff, Zj, *]; rfl)))
  refine aw_for [0, 1, 6, 7] (fun k T h' => h' = h ∧ T 8 = .int .i64 k ∧ (l.take k).findIdx? p = none) l.length (k0 := 0) (Nat.zero_le _) ⟨rfl, rfl, rfl⟩ ?_
  rintro k T h' hk hR ⟨rfl, h11, hall⟩
  simp only [Z37, Z38, Z39, implies_true, and_true, stp, ev, ZB, reduceIte, Nat.reduceEqDiff, Z2x, Z13, Zy] at hR
  rcases Nat.lt_or_ge k l.length with hkn | hkn
  · have h1 : (k : Int) < l.length := by omega
    obtain ⟨a, rfl, hld⟩ := Sl.row hrow (k := k) (by simpa [ints] using hkn)
    simp only [ints, List.getElem_map] at hld
    have hgc := getC_of_load hld
    have hpk := hp l[k] (List.getElem_mem hkn)
    clear hrow
    repeat' (first | ((with_reducible refine eq_go ?_); simp only [stp, ev, ZB, reduceIte, Nat.reduceEqDiff, Z2x, Z13, Zy, ldv, idxA, blt, lenV, Z10, ZH, Zg, Ze, Z14, Zw, Z33, Nat.reduceAdd, Nat.reduceMul, Nat.reduceLeDiff, splice, newB, vcs, Ty.t3, Ty.t86, *]; rfl) | (with_reducible first | refine aw_then ?_ | refine aw_skip ?_ | refine aw_ret ?_ | refine aw_exit ?_ | refine aw_block ?_ | refine xr_reg (by decide +kernel) ?_ | refine xr_nil ?_ | refine k_norm ?_ | refine k_ret ?_ | refine k_exit ?_ | refine b_norm ?_ | refine b_ret ?_ | refine b_exit ?_ | refine b_past (by decide) ?_) | (refine xr_do (v := ?_) (h' := ?_) (by exact rfl) ?_ ?_; rotate_left 2) | (refine xr_st (v := ?_) (h' := ?_) (by exact rfl) ?_ ?_; rotate_left 2) | (refine aw_c (b := ?_) (by decide) ?_ ?_; rotate_left 1; (· simp only [ev, Zb, reduceIte, Nat.reduceEqDiff, *]; rfl)) | (with_reducible first | refine cw_t ?_ | refine cw_f ?_) | refine cw_if (fun hb => ?_) (fun hb => ?_) | (refine r_ret (vs := ?_) ?_ ?_; rotate_left 1; (· simp only [resV, ev, Zb, reduceIte, Nat.reduceEqDiff, Zj, *]; rfl)))
    refine xr_cl (f := g) (fs := fs) (cs := cs) (args := ?_) (K := ?_) ?_ ?_ ?_ ?_ ?_
    rotate_left 2
    · simp only [stp, ev, ZB, reduceIte, Nat.reduceEqDiff, Z2x, Z13, Zy, ldv, idxA, blt, lenV, Z10, ZH, Zg, Ze, Z14, Zw, Z33, Nat.reduceAdd, Nat.reduceMul, Nat.reduceLeDiff, splice, newB, vcs, Ty.t3, Ty.t86, *]
    · exact hg
    · simp only [stp, ev, ZB, reduceIte, Nat.reduceEqDiff, Z2x, Z13, Zy, ldv, idxA, blt, lenV, Z10, ZH, Zg, Ze, Z14, Zw, Z33, Nat.reduceAdd, Nat.reduceMul, Nat.reduceLeDiff, splice, newB, vcs, Ty.t3, Ty.t86, *]; rfl
    · exact hpk
    rintro _ _ ⟨rfl, rfl⟩
    repeat' (first | ((with_reducible refine eq_go ?_); simp only [stp, ev, ZB, reduceIte, Nat.reduceEqDiff, Z2x, Z13, Zy, ldv, idxA, blt, lenV, Z10, ZH, Zg, Ze, Z14, Zw, Z33, Nat.reduceAdd, Nat.reduceMul, Nat.reduceLeDiff, splice, newB, vcs, Ty.t3, Ty.t86, *]; rfl) | (with_reducible first | refine aw_then ?_ | refine aw_skip ?_ | refine aw_ret ?_ | refine aw_exit ?_ | refine aw_block ?_ | refine xr_reg (by decide +kernel) ?_ | refine xr_nil ?_ | refine k_norm ?_ | refine k_ret ?_ | refine k_exit ?_ | refine b_norm ?_ | refine b_ret ?_ | refine b_exit ?_ | refine b_past (by decide) ?_) | (refine xr_do (v := ?_) (h' := ?_) (by exact rfl) ?_ ?_; rotate_left 2) | (refine xr_st (v := ?_) (h' := ?_) (by exact rfl) ?_ ?_; rotate_left 2) | (refine aw_c (b := ?_) (by decide) ?_ ?_; rotate_left 1; (· simp only [ev, Zb, reduceIte, Nat.reduceEqDiff, *]; rfl)) | (with_reducible first | refine cw_t ?_ | refine cw_f ?_) | refine cw_if (fun hb => ?_) (fun hb => ?_) | (refine r_ret (vs := ?_) ?_ ?_; rotate_left 1; (· simp only [resV, ev, Zb, reduceIte, Nat.reduceEqDiff, Zj, *]; rfl)))
    · refine ⟨?_, rfl⟩
      rw [idxOf_hit hkn hall (by simpa using hb)]; rfl
    refine ⟨by first | assumption | omega, ?_, ?_⟩
    · simp only [Z37, Z38, Z39, implies_true, and_true, ZB, stp, ev, reduceIte, Nat.reduceEqDiff, Z2x, Z13, Zy, *]
    refine ⟨rfl, ?_, ?_⟩
    · simp only [Zb, reduceIte, Nat.reduceEqDiff]
      rw [wrap_id (by omega)]; rfl
    · rw [← List.take_append_getElem hkn, List.findIdx?_append, hall]
      simp [List.findIdx?_cons, hb]
  · have h1 : ¬ (k : Int) < l.length := by omega
    clear hrow
    repeat' (first | ((with_reducible refine eq_go ?_); simp only [stp, ev, ZB, reduceIte, Nat.reduceEqDiff, Z2x, Z13, Zy, ldv, idxA, blt, lenV, Z10, ZH, Zg, Ze, Z14, Zw, Z33, Nat.reduceAdd, Nat.reduceMul, Nat.reduceLeDiff, splice, newB, vcs, Ty.t3, Ty.t86, *]; rfl) | (with_reducible first | refine aw_then ?_ | refine aw_skip ?_ | refine aw_ret ?_ | refine aw_exit ?_ | refine aw_block ?_ | refine xr_reg (by decide +kernel) ?_ | refine xr_nil ?_ | refine k_norm ?_ | refine k_ret ?_ | refine k_exit ?_ | refine b_norm ?_ | refine b_ret ?_ | refine b_exit ?_ | refine b_past (by decide) ?_) | (refine xr_do (v := ?_) (h' := ?_) (by exact rfl) ?_ ?_; rotate_left 2) | (refine xr_st (v := ?_) (h' := ?_) (by exact rfl) ?_ ?_; rotate_left 2) | (refine aw_c (b := ?_) (by decide) ?_ ?_; rotate_left 1; (· simp only [ev, Zb, reduceIte, Nat.reduceEqDiff, *]; rfl)) | (with_reducible first | refine cw_t ?_ | refine cw_f ?_) | refine cw_if (fun hb => ?_) (fun hb => ?_) | (refine r_ret (vs := ?_) ?_ ?_; rotate_left 1; (· simp only [resV, ev, Zb, reduceIte, Nat.reduceEqDiff, Zj, *]; rfl)))
    refine ⟨?_, rfl⟩
    rw [List.take_of_length_le hkn] at hall
    simp only [oneOf, idxOf, hall]
theorem anyInt_ok (l : List Int) (p : Int → Bool) (v : Value) (g : FuncId) (fs cs : Array Value) (h : Heap) (hs : Sl h v 1 (ints l)) (hg : callOk Try.prog g = true)
    (hl : l.length ≤ 1048576) (hp : ∀ x ∈ l, ACalls Try.prog 0 g (fs ++ #[.int .i64 x] ++ cs) h fun v h' => v = .bool (p x) ∧ h' = h) :
    ACalls Try.prog 0 103 #[v, .func (.func g) fs cs] h
    fun v h' => v = .bool (l.any p) ∧ h' = h := by
  have hfl := hs.flat
  refine Z36 Try.func103 rfl Try.ntmps103 (by simp) (by dsimp only [Try.f103]) ?_
  repeat' (first | ((with_reducible refine eq_go ?_); simp only [stp, ev, ZB, reduceIte, Nat.reduceEqDiff, Z2x, Z13, Zy, blt, lenV, Z10, Z3, Z2, Zf, Zg, Ze, Z1, Z0, Z14, Zw, Ty.t3, Ty.t61, Ty.t86, *]; rfl) | (with_reducible first | refine aw_then ?_ | refine aw_skip ?_ | refine aw_ret ?_ | refine aw_exit ?_ | refine aw_block ?_ | refine xr_reg (by decide +kernel) ?_ | refine xr_nil ?_ | refine k_norm ?_ | refine k_ret ?_ | refine k_exit ?_ | refine b_norm ?_ | refine b_ret ?_ | refine b_exit ?_ | refine b_past (by decide) ?_) | (refine Ty.c105 (args := ?_) (K := ?_) ?_ ?_ ?_; rotate_left 2) | (refine xr_do (v := ?_) (h' := ?_) (by exact rfl) ?_ ?_; rotate_left 2) | (refine xr_st (v := ?_) (h' := ?_) (by exact rfl) ?_ ?_; rotate_left 2) | (refine aw_c (b := ?_) (by decide) ?_ ?_; rotate_left 1; (· simp only [ev, Zb, reduceIte, Nat.reduceEqDiff, *]; rfl)) | (with_reducible first | refine cw_t ?_ | refine cw_f ?_) | refine cw_if (fun hb => ?_) (fun hb => ?_) | (refine r_ret (vs := ?_) ?_ ?_; rotate_left 1; (· simp only [resV, ev, Zb, reduceIte, Nat.reduceEqDiff, Zj, *]; rfl)) | ((with_reducible refine idxInt_ok ?_ ?_ _ _ _ _ _ ?_ ?_ ?_ ?_); rotate_left 2; (· assumption); (· assumption); (· first | omega | (simp only [Z2]; omega)); (· assumption)) | ((with_reducible refine Z2w ?_); rintro _ _ ⟨rfl, hh⟩; replace hh := hh.symm; subst hh))
  refine ⟨?_, rfl⟩
  rw [idxOf_any]; rfl
theorem indexInt_ok (l : List Int) (x : Int) (v : Value) (h : Heap) (hs : Sl h v 1 (ints l)) (hl : l.length ≤ 1048576) :
    ACalls Try.prog 0 93 #[v, .int .i64 x] h
    fun v h' => v = .int .i64 (idxOf (fun y => decide (x = y)) l) ∧ h' = h := by
  obtain ⟨b, c, rfl, hc, hrow⟩ := hs
  rw [ints_length] at *
  refine Z36 Try.func93 rfl Try.ntmps93 (by simp) (by dsimp only [Try.f93]) ?_
  repeat' (first | ((with_reducible refine eq_go ?_); simp only [stp, ev, ZB, reduceIte, Nat.reduceEqDiff, Z2x, Z13, Zy, ldv, idxA, blt, lenV, Z10, ZH, Zg, Ze, Z14, Zw, Z33, Nat.reduceAdd, Nat.reduceMul, Nat.reduceLeDiff, splice, newB, vcs, Ty.t3, Ty.t86, *]; rfl) | (with_reducible first | refine aw_then ?_ | refine aw_skip ?_ | refine aw_ret ?_ | refine aw_exit ?_ | refine aw_block ?_ | refine xr_reg (by decide +kernel) ?_ | refine xr_nil ?_ | refine k_norm ?_ | refine k_ret ?_ | refine k_exit ?_ | refine b_norm ?_ | refine b_ret ?_ | refine b_exit ?_ | refine b_past (by decide) ?_) | (refine xr_do (v := ?_) (h' := ?_) (by exact rfl) ?_ ?_; rotate_left 2) | (refine xr_st (v := ?_) (h' := ?_) (by exact rfl) ?_ ?_; rotate_left 2) | (refine aw_c (b := ?_) (by decide) ?_ ?_; rotate_left 1; (· simp only [ev, Zb, reduceIte, Nat.reduceEqDiff, *]; rfl)) | (with_reducible first | refine cw_t ?_ | refine cw_f ?_) | refine cw_if (fun hb => ?_) (fun hb => ?_) | (refine r_ret (vs := ?_) ?_ ?_; rotate_left 1; (· simp only [resV, ev, Zb, reduceIte, Nat.reduceEqDiff, Zj, *]; rfl)))
  refine aw_for [0, 1, 6, 7] (fun k T h' => h' = h ∧ T 8 = .int .i64 k ∧ (l.take k).findIdx? (fun y => decide (x = y)) = none) l.length (k0 := 0) (Nat.zero_le _) ⟨rfl, rfl, rfl⟩ ?_
  rintro k T h' hk hR ⟨rfl, h11, hall⟩
  simp only [Z37, Z38, Z39, implies_true, and_true, stp, ev, ZB, reduceIte, Nat.reduceEqDiff, Z2x, Z13, Zy] at hR
  rcases Nat.lt_or_ge k l.length with hkn | hkn
  · have h1 : (k : Int) < l.length := by omega
    obtain ⟨a, rfl, hld⟩ := Sl.row hrow (k := k) (by simpa [ints] using hkn)
    simp only [ints, List.getElem_map] at hld
    have hgc := getC_of_load hld
    clear hrow
    repeat' (first | ((with_reducible refine eq_go ?_); simp only [stp, ev, ZB, reduceIte, Nat.reduceEqDiff, Z2x, Z13, Zy, ldv, idxA, blt, lenV, Z10, ZH, Zg, Ze, Z14, Zw, Z33, Nat.reduceAdd, Nat.reduceMul, Nat.reduceLeDiff, splice, newB, vcs, Ty.t3, Ty.t86, *]; rfl) | (with_reducible first | refine aw_then ?_ | refine aw_skip ?_ | refine aw_ret ?_ | refine aw_exit ?_ | refine aw_block ?_ | refine xr_reg (by decide +kernel) ?_ | refine xr_nil ?_ | refine k_norm ?_ | refine k_ret ?_ | refine k_exit ?_ | refine b_norm ?_ | refine b_ret ?_ | refine b_exit ?_ | refine b_past (by decide) ?_) | (refine xr_do (v := ?_) (h' := ?_) (by exact rfl) ?_ ?_; rotate_left 2) | (refine xr_st (v := ?_) (h' := ?_) (by exact rfl) ?_ ?_; rotate_left 2) | (refine aw_c (b := ?_) (by decide) ?_ ?_; rotate_left 1; (· simp only [ev, Zb, reduceIte, Nat.reduceEqDiff, *]; rfl)) | (with_reducible first | refine cw_t ?_ | refine cw_f ?_) | refine cw_if (fun hb => ?_) (fun hb => ?_) | (refine r_ret (vs := ?_) ?_ ?_; rotate_left 1; (· simp only [resV, ev, Zb, reduceIte, Nat.reduceEqDiff, Zj, *]; rfl)))
    · refine ⟨?_, rfl⟩
      rw [idxOf_hit hkn hall (by simpa using hb)]; rfl
    refine ⟨by first | assumption | omega, ?_, ?_⟩
    · simp only [Z37, Z38, Z39, implies_true, and_true, ZB, stp, ev, reduceIte, Nat.reduceEqDiff, Z2x, Z13, Zy, *]
    refine ⟨rfl, ?_, ?_⟩
    · simp only [Zb, reduceIte, Nat.reduceEqDiff]
      rw [wrap_id (by omega)]; rfl
    · rw [← List.take_append_getElem hkn, List.findIdx?_append, hall]
      simp only [decide_eq_false_iff_not] at hb
      simp [List.findIdx?_cons, hb]
  · have h1 : ¬ (k : Int) < l.length := by omega
    clear hrow
    repeat' (first | ((with_reducible refine eq_go ?_); simp only [stp, ev, ZB, reduceIte, Nat.reduceEqDiff, Z2x, Z13, Zy, ldv, idxA, blt, lenV, Z10, ZH, Zg, Ze, Z14, Zw, Z33, Nat.reduceAdd, Nat.reduceMul, Nat.reduceLeDiff, splice, newB, vcs, Ty.t3, Ty.t86, *]; rfl) | (with_reducible first | refine aw_then ?_ | refine aw_skip ?_ | refine aw_ret ?_ | refine aw_exit ?_ | refine aw_block ?_ | refine xr_reg (by decide +kernel) ?_ | refine xr_nil ?_ | refine k_norm ?_ | refine k_ret ?_ | refine k_exit ?_ | refine b_norm ?_ | refine b_ret ?_ | refine b_exit ?_ | refine b_past (by decide) ?_) | (refine xr_do (v := ?_) (h' := ?_) (by exact rfl) ?_ ?_; rotate_left 2) | (refine xr_st (v := ?_) (h' := ?_) (by exact rfl) ?_ ?_; rotate_left 2) | (refine aw_c (b := ?_) (by decide) ?_ ?_; rotate_left 1; (· simp only [ev, Zb, reduceIte, Nat.reduceEqDiff, *]; rfl)) | (with_reducible first | refine cw_t ?_ | refine cw_f ?_) | refine cw_if (fun hb => ?_) (fun hb => ?_) | (refine r_ret (vs := ?_) ?_ ?_; rotate_left 1; (· simp only [resV, ev, Zb, reduceIte, Nat.reduceEqDiff, Zj, *]; rfl)))
    refine ⟨?_, rfl⟩
    rw [List.take_of_length_le hkn] at hall
    simp only [oneOf, idxOf, hall]
def hasI (l : List Int) (x : Int) : Bool := l.any fun y => decide (x = y)
theorem containsInt_ok (l : List Int) (x : Int) (v : Value) (h : Heap) (hs : Sl h v 1 (ints l)) (hl : l.length ≤ 1048576) :
    ACalls Try.prog 0 86 #[v, .int .i64 x] h
    fun v h' => v = .bool (hasI l x) ∧ h' = h := by
  have hfl := hs.flat
  refine Z36 Try.func86 rfl Try.ntmps86 (by simp) (by dsimp only [Try.f86]) ?_
  repeat' (first | ((with_reducible refine eq_go ?_); simp only [stp, ev, ZB, reduceIte, Nat.reduceEqDiff, Z2x, Z13, Zy, blt, lenV, Z10, Z3, Z2, Zf, Zg, Ze, Z1, Z0, Z14, Zw, Ty.t3, Ty.t86, *]; rfl) | (with_reducible first | refine aw_then ?_ | refine aw_skip ?_ | refine aw_ret ?_ | refine aw_exit ?_ | refine aw_block ?_ | refine xr_reg (by decide +kernel) ?_ | refine xr_nil ?_ | refine k_norm ?_ | refine k_ret ?_ | refine k_exit ?_ | refine b_norm ?_ | refine b_ret ?_ | refine b_exit ?_ | refine b_past (by decide) ?_) | (refine Ty.c93 (args := ?_) (K := ?_) ?_ ?_ ?_; rotate_left 2) | (refine xr_do (v := ?_) (h' := ?_) (by exact rfl) ?_ ?_; rotate_left 2) | (refine xr_st (v := ?_) (h' := ?_) (by exact rfl) ?_ ?_; rotate_left 2) | (refine aw_c (b := ?_) (by decide) ?_ ?_; rotate_left 1; (· simp only [ev, Zb, reduceIte, Nat.reduceEqDiff, *]; rfl)) | (with_reducible first | refine cw_t ?_ | refine cw_f ?_) | refine cw_if (fun hb => ?_) (fun hb => ?_) | (refine r_ret (vs := ?_) ?_ ?_; rotate_left 1; (· simp only [resV, ev, Zb, reduceIte, Nat.reduceEqDiff, Zj, *]; rfl)) | ((with_reducible refine indexInt_ok ?_ _ _ _ ?_ ?_); rotate_left 1; (· first | assumption | exact Sl.sub ‹_› (by first | assumption | exact Sub.refl _ | exact Sub.app ‹_› _ | exact Sub.app (Sub.refl _) _)); (· first | omega | (simp only [Z2]; omega))) | ((with_reducible refine Z2w ?_); rintro _ _ ⟨rfl, hh⟩; replace hh := hh.symm; subst hh))
  refine ⟨?_, rfl⟩
  rw [idxOf_any]; rfl
theorem l1Has_ok (l : List Int) (x : Int) (v : Value) (h : Heap) (hs : Sl h v 1 (ints l)) (hl : l.length ≤ 1048576) :
    ACalls Try.prog 0 57 #[v, .int .i64 x] h
    fun v h' => v = .bool (hasI l x) ∧ h' = h := by
  obtain ⟨b, c, rfl, hc, hrow⟩ := hs
  rw [ints_length] at *
  refine Z36 Try.func57 rfl Try.ntmps57 (by simp) (by dsimp only [Try.f57]) ?_
  repeat' (first | ((with_reducible refine eq_go ?_); simp only [stp, ev, ZB, reduceIte, Nat.reduceEqDiff, Z2x, Z13, Zy, ldv, idxA, blt, lenV, Z10, ZH, Zg, Ze, Z14, Zw, Z33, Nat.reduceAdd, Nat.reduceMul, Nat.reduceLeDiff, splice, newB, vcs, Ty.t3, Ty.t86, *]; rfl) | (with_reducible first | refine aw_then ?_ | refine aw_skip ?_ | refine aw_ret ?_ | refine aw_exit ?_ | refine aw_block ?_ | refine xr_reg (by decide +kernel) ?_ | refine xr_nil ?_ | refine k_norm ?_ | refine k_ret ?_ | refine k_exit ?_ | refine b_norm ?_ | refine b_ret ?_ | refine b_exit ?_ | refine b_past (by decide) ?_) | (refine xr_do (v := ?_) (h' := ?_) (by exact rfl) ?_ ?_; rotate_left 2) | (refine xr_st (v := ?_) (h' := ?_) (by exact rfl) ?_ ?_; rotate_left 2) | (refine aw_c (b := ?_) (by decide) ?_ ?_; rotate_left 1; (· simp only [ev, Zb, reduceIte, Nat.reduceEqDiff, *]; rfl)) | (with_reducible first | refine cw_t ?_ | refine cw_f ?_) | refine cw_if (fun hb => ?_) (fun hb => ?_) | (refine r_ret (vs := ?_) ?_ ?_; rotate_left 1; (· simp only [resV, ev, Zb, reduceIte, Nat.reduceEqDiff, Zj, *]; rfl)))
  refine aw_for [1, 7, 8] (fun k T h' => h' = h ∧ T 9 = .int .i64 k ∧ (l.take k).any (fun y => decide (x = y)) = false) l.length (k0 := 0) (Nat.zero_le _) ⟨rfl, rfl, rfl⟩ ?_
  rintro k T h' hk hR ⟨rfl, h11, hall⟩
  simp only [Z37, Z38, Z39, implies_true, and_true, stp, ev, ZB, reduceIte, Nat.reduceEqDiff, Z2x, Z13, Zy] at hR
  rcases Nat.lt_or_ge k l.length with hkn | hkn
  · have h1 : (k : Int) < l.length := by omega
    obtain ⟨a, rfl, hld⟩ := Sl.row hrow (k := k) (by simpa [ints] using hkn)
    simp only [ints, List.getElem_map] at hld
    have hgc := getC_of_load hld
    clear hrow
    repeat' (first | ((with_reducible refine eq_go ?_); simp only [stp, ev, ZB, reduceIte, Nat.reduceEqDiff, Z2x, Z13, Zy, ldv, idxA, blt, lenV, Z10, ZH, Zg, Ze, Z14, Zw, Z33, Nat.reduceAdd, Nat.reduceMul, Nat.reduceLeDiff, splice, newB, vcs, Ty.t3, Ty.t86, *]; rfl) | (with_reducible first | refine aw_then ?_ | refine aw_skip ?_ | refine aw_ret ?_ | refine aw_exit ?_ | refine aw_block ?_ | refine xr_reg (by decide +kernel) ?_ | refine xr_nil ?_ | refine k_norm ?_ | refine k_ret ?_ | refine k_exit ?_ | refine b_norm ?_ | refine b_ret ?_ | refine b_exit ?_ | refine b_past (by decide) ?_) | (refine xr_do (v := ?_) (h' := ?_) (by exact rfl) ?_ ?_; rotate_left 2) | (refine xr_st (v := ?_) (h' := ?_) (by exact rfl) ?_ ?_; rotate_left 2) | (refine aw_c (b := ?_) (by decide) ?_ ?_; rotate_left 1; (· simp only [ev, Zb, reduceIte, Nat.reduceEqDiff, *]; rfl)) | (with_reducible first | refine cw_t ?_ | refine cw_f ?_) | refine cw_if (fun hb => ?_) (fun hb => ?_) | (refine r_ret (vs := ?_) ?_ ?_; rotate_left 1; (· simp only [resV, ev, Zb, reduceIte, Nat.reduceEqDiff, Zj, *]; rfl)))
    · refine ⟨?_, rfl⟩
      have : hasI l x = true := List.any_eq_true.2 ⟨l[k], List.getElem_mem _, by simp only [decide_eq_true_eq] at hb ⊢; omega⟩
      rw [this]; rfl
    refine ⟨by first | assumption | omega, ?_, ?_⟩
    · simp only [Z37, Z38, Z39, implies_true, and_true, ZB, stp, ev, reduceIte, Nat.reduceEqDiff, Z2x, Z13, Zy, *]
    refine ⟨rfl, ?_, ?_⟩
    · simp only [Zb, reduceIte, Nat.reduceEqDiff]
      rw [wrap_id (by omega)]; rfl
    · rw [← List.take_append_getElem hkn, List.any_append, hall]
      simp only [decide_eq_false_iff_not] at hb
      simp; omega
  · have h1 : ¬ (k : Int) < l.length := by omega
    clear hrow
    repeat' (first | ((with_reducible refine eq_go ?_); simp only [stp, ev, ZB, reduceIte, Nat.reduceEqDiff, Z2x, Z13, Zy, ldv, idxA, blt, lenV, Z10, ZH, Zg, Ze, Z14, Zw, Z33, Nat.reduceAdd, Nat.reduceMul, Nat.reduceLeDiff, splice, newB, vcs, Ty.t3, Ty.t86, *]; rfl) | (with_reducible first | refine aw_then ?_ | refine aw_skip ?_ | refine aw_ret ?_ | refine aw_exit ?_ | refine aw_block ?_ | refine xr_reg (by decide +kernel) ?_ | refine xr_nil ?_ | refine k_norm ?_ | refine k_ret ?_ | refine k_exit ?_ | refine b_norm ?_ | refine b_ret ?_ | refine b_exit ?_ | refine b_past (by decide) ?_) | (refine xr_do (v := ?_) (h' := ?_) (by exact rfl) ?_ ?_; rotate_left 2) | (refine xr_st (v := ?_) (h' := ?_) (by exact rfl) ?_ ?_; rotate_left 2) | (refine aw_c (b := ?_) (by decide) ?_ ?_; rotate_left 1; (· simp only [ev, Zb, reduceIte, Nat.reduceEqDiff, *]; rfl)) | (with_reducible first | refine cw_t ?_ | refine cw_f ?_) | refine cw_if (fun hb => ?_) (fun hb => ?_) | (refine r_ret (vs := ?_) ?_ ?_; rotate_left 1; (· simp only [resV, ev, Zb, reduceIte, Nat.reduceEqDiff, Zj, *]; rfl)))
    refine ⟨?_, rfl⟩
    rw [List.take_of_length_le hkn] at hall
    simp only [oneOf, hasI, hall]
/-! ### the search -/
structure St where
  ps : List Bool
  ts : List Bool
  ch : Bool
def anyAt (ps : List Bool) (l : List Int) : Bool := l.any fun p => ps.getD p.toNat false
def setAll (ps : List Bool) (l : List Int) : List Bool := l.foldl (fun a p => a.set p.toNat true) ps
def Tr.src (b : Bool) (t : Tr) : List Int := if b then t.out else t.inn
def Tr.dst (b : Bool) (t : Tr) : List Int := if b then t.inn else t.out
def Tr.nil : Tr := ⟨[], [], []⟩
def rStep (b : Bool) (t : Tr) (i : Nat) (s : St) : St := if (s.ts.getD i false || !anyAt s.ps (t.src b)) = true then s else ⟨setAll s.ps (t.dst b), s.ts.set i true, true⟩
def sweepK (b : Bool) (l : List Tr) (s : St) : Nat → St
  | 0 => s
  | k + 1 => rStep b (l.getD k Tr.nil) k (sweepK b l s k)
def reachF (b : Bool) (l : List Tr) : Nat → List Bool × List Bool → List Bool × List Bool
  | 0, s => s
  | f + 1, s => if (sweepK b l ⟨s.1, s.2, false⟩ l.length).ch = true then reachF b l f ((sweepK b l ⟨s.1, s.2, false⟩ l.length).ps, (sweepK b l ⟨s.1, s.2, false⟩ l.length).ts)
    else ((sweepK b l ⟨s.1, s.2, false⟩ l.length).ps, (sweepK b l ⟨s.1, s.2, false⟩ l.length).ts)
def reach (b : Bool) (n : NetM) (place : Int) : List Bool × List Bool :=
  reachF b n.trans (n.trans.length + 1) ((List.replicate n.places.toNat false).set place.toNat true, List.replicate n.trans.length false)
def cnt (ts : List Bool) : Nat := (ts.filter (fun x => !x)).length
theorem setAll_len (l : List Int) : ∀ ps : List Bool, (setAll ps l).length = ps.length := by
  unfold setAll
  induction l with
  | nil => intro ps; rfl
  | cons p l ih => intro ps; rw [List.foldl_cons, ih, List.length_set]
theorem setAll_snoc (ps : List Bool) {l : List Int} {k : Nat} (hk : k < l.length) : setAll ps (l.take (k + 1)) = (setAll ps (l.take k)).set l[k].toNat true := by
  unfold setAll
  rw [← List.take_append_getElem hk, List.foldl_append]; rfl
theorem cnt_set : ∀ (ts : List Bool) (i : Nat), i < ts.length → ts.getD i false = false → cnt (ts.set i true) + 1 = cnt ts
  | [], i, h, _ => by simp at h
  | x :: ts, 0, _, h => by
      have : x = false := by simpa using h
      subst this; simp [cnt]
  | x :: ts, i + 1, h, hi => by
      have := cnt_set ts i (by simpa using h) (by simpa using hi)
      simp only [cnt, Za, List.filter_cons] at this ⊢
      split
      all_goals (try simp only [Z3])
      all_goals omega
theorem rStep_len (b : Bool) (t : Tr) (i : Nat) (s : St) : (rStep b t i s).ps.length = s.ps.length ∧ (rStep b t i s).ts.length = s.ts.length := by
  unfold rStep
  split
  · exact ⟨rfl, rfl⟩
  · exact ⟨setAll_len _ _, List.length_set⟩
theorem sweep_len (b : Bool) (l : List Tr) (s : St) : ∀ k, (sweepK b l s k).ps.length = s.ps.length ∧ (sweepK b l s k).ts.length = s.ts.length
  | 0 => ⟨rfl, rfl⟩
  | k + 1 => by
      have h1 := sweep_len b l s k
      have h2 := rStep_len b (l.getD k Tr.nil) k (sweepK b l s k)
      exact ⟨h2.1.trans h1.1, h2.2.trans h1.2⟩
theorem sweep_cnt (b : Bool) (l : List Tr) (s : St) (hs : s.ch = false) : ∀ k, k ≤ s.ts.length → cnt (sweepK b l s k).ts + (if (sweepK b l s k).ch = true then 1 else 0) ≤ cnt s.ts
  | 0, _ => by simp [sweepK, hs]
  | k + 1, hk => by
      have h1 := sweep_cnt b l s hs k (by omega)
      have h2 := (sweep_len b l s k).2
      simp only [sweepK, rStep]
      split
      · exact h1
      · rename_i hn
        simp only [Bool.or_eq_true, not_or, Bool.not_eq_true] at hn
        have := cnt_set (sweepK b l s k).ts k (by omega) hn.1
        simp only [Z2x]
        split at h1 <;> omega
theorem cnt_le (ts : List Bool) : cnt ts ≤ ts.length := List.length_filter_le _ _
theorem reachF_len (b : Bool) (l : List Tr) : ∀ (f : Nat) (s : List Bool × List Bool), (reachF b l f s).1.length = s.1.length ∧ (reachF b l f s).2.length = s.2.length
  | 0, s => ⟨rfl, rfl⟩
  | f + 1, s => by
      have h1 := sweep_len b l ⟨s.1, s.2, false⟩ l.length
      simp only [reachF]
      split
      · have h2 := reachF_len b l f ((sweepK b l ⟨s.1, s.2, false⟩ l.length).ps, (sweepK b l ⟨s.1, s.2, false⟩ l.length).ts)
        exact ⟨h2.1.trans h1.1, h2.2.trans h1.2⟩
      · exact h1
theorem allIn_mem {l : List Int} {lo hi : Int} (h : allIn l lo hi = true) : ∀ p ∈ l, lo ≤ p ∧ p ≤ hi := fun p hp => by simpa using List.all_eq_true.1 h p hp
theorem rise_mem {l : List Int} {lo hi : Int} (h : rise l lo hi = true) : ∀ p ∈ l, lo ≤ p ∧ p ≤ hi := by
  simp only [rise, Bool.and_eq_true] at h; exact allIn_mem h.2
theorem trOk_range {p : Int} {t : Tr} (h : trOk p t = true) : (∀ x ∈ t.inn, 0 ≤ x ∧ x ≤ p - 1) ∧ ∀ x ∈ t.out, 0 ≤ x ∧ x ≤ p - 1 := by
  simp only [trOk, Bool.and_eq_true] at h
  exact ⟨rise_mem h.2.1, rise_mem h.2.2.1⟩
theorem reached1_ok (ps : List Bool) (p : Int) (H : Heap) (id idp c : Nat) (h0 : getC H id 0 = some (.slice (some ⟨idp, 0, none⟩) ps.length c)) (hb : H[idp]? = some ⟨2, 1, bools ps⟩) (hp : 0 ≤ p ∧ p < (ps.length : Int)) :
    ACalls Try.prog 0 104 #[.int .i64 p, .pointer (some ⟨id, 0, none⟩)] H fun v h' => v = .bool (ps.getD p.toNat false) ∧ h' = H := by
  obtain ⟨k, rfl⟩ : ∃ k : Nat, p = k := ⟨p.toNat, by omega⟩
  have hk : k < ps.length := by omega
  have hgc : getC H idp (0 + k * 1) = some (.bool (ps.getD k false)) := by
    unfold getC; rw [hb]; simp only [Zf, Nat.mul_one, or_true, Z2x]; exact bools_get ps hk
  rw [Zf] at hgc
  have h1 : (k : Int) < ps.length := by omega
  refine Z36 Try.func104 rfl Try.ntmps104 (by simp) (by dsimp only [Try.f104]) ?_
  repeat' (first | ((with_reducible refine eq_go ?_); simp only [stp, ev, ZB, reduceIte, Nat.reduceEqDiff, Z2x, Z13, Zy, ldv, idxA, ZH, Z33, Nat.reduceAdd, Nat.reduceMul, Nat.reduceLeDiff, splice, newB, vcs, Ty.t4, Ty.t114, *]; rfl) | (with_reducible first | refine aw_then ?_ | refine aw_skip ?_ | refine aw_ret ?_ | refine aw_exit ?_ | refine aw_block ?_ | refine xr_reg (by decide +kernel) ?_ | refine xr_nil ?_ | refine k_norm ?_ | refine k_ret ?_ | refine k_exit ?_ | refine b_norm ?_ | refine b_ret ?_ | refine b_exit ?_ | refine b_past (by decide) ?_) | (refine xr_do (v := ?_) (h' := ?_) (by exact rfl) ?_ ?_; rotate_left 2) | (refine xr_st (v := ?_) (h' := ?_) (by exact rfl) ?_ ?_; rotate_left 2) | (refine aw_c (b := ?_) (by decide) ?_ ?_; rotate_left 1; (· simp only [ev, Zb, reduceIte, Nat.reduceEqDiff, *]; rfl)) | (with_reducible first | refine cw_t ?_ | refine cw_f ?_) | refine cw_if (fun hb => ?_) (fun hb => ?_) | (refine r_ret (vs := ?_) ?_ ?_; rotate_left 1; (· simp only [resV, ev, Zb, reduceIte, Nat.reduceEqDiff, Zj, *]; rfl)))
  exact ⟨rfl, rfl⟩
theorem bsz (n : Nat) : (List.replicate n false).length = n := List.length_replicate
theorem implReached_ok (n : NetM) (vt : Value) (I h : Heap) (place : Int) (back : Bool) (hI : Sub I h) (hs : RTrs I vt n.trans) (hsm : n.small) (hok : netOk n = true) (hp : 0 ≤ place ∧ place ≤ n.places - 1) :
    ACalls Try.prog 0 97 #[.agg #[.int .i64 n.places, vt], .int .i64 place, .bool back] h
    fun v h' => v = .tuple #[.slice (some ⟨h.length, 0, some 0⟩) n.places.toNat n.places.toNat, .slice (some ⟨h.length + 1, 0, some 0⟩) n.trans.length n.trans.length] ∧
      h' = h ++ [⟨2, 1, bools (reach back n place).1⟩, ⟨2, 1, bools (reach back n place).2⟩] := by
  refine acalls_canon _ _ ?_
  have hfl := hs.flat
  obtain ⟨b, c, rfl, hc, hrow⟩ := hs.form
  have hlen := hsm.1
  simp only [netOk, Bool.and_eq_true, decide_eq_true_eq, List.all_eq_true] at hok
  obtain ⟨hpl, h24, hall⟩ := hok
  have hid2 : IdsP (fun id => id < (h ++ [(⟨2, 1, [.int .i64 n.places, .slice b n.trans.length c]⟩ : Blk)]).length) (.slice b n.trans.length c) := hs.ids.mono fun id hid => by have := hI.1; simp; omega
  obtain ⟨P, hP⟩ : ∃ P : Nat, n.places = P := ⟨n.places.toNat, by omega⟩
  rw [hP] at hid2
  obtain ⟨q, rfl⟩ : ∃ q : Nat, place = q := ⟨place.toNat, by omega⟩
  have hqP : q + 1 ≤ P := by omega
  have hqP1 : (q : Int) < P := by omega
  have hmk : ∀ (H : Heap) (m : Nat), m ≤ 1048576 → mkS Try.prog 114 H (.int .i64 m) (.int .i64 m) = some (.slice (some ⟨H.length, 0, none⟩) m m, H ++ [⟨2, 1, bools (List.replicate m false)⟩]) := fun H m hm => by
    rw [mkS_eq Ty.sl114 Ty.zc4 Ty.by4 (by omega) (by omega), bools_zeros]; rfl
  have hmk1 := fun H => hmk H P (by omega)
  have hmk2 := fun H => hmk H n.trans.length (by omega)
  refine Z36 Try.func97 rfl Try.ntmps97 (by simp) (by dsimp only [Try.f97]) ?_
  repeat' (first | (with_reducible first | refine aw_parkR 1 ?_) | ((with_reducible refine eq_go ?_); simp only [stp, ev, ZB, reduceIte, Nat.reduceEqDiff, Z2x, Z13, Zy, binV_bool_neq, binV_bool_eql, Ty.un4, ldv, stv, vcs, fldA, idxA, blt, lenV, Z10, ZH, Zg, Ze, Z14, Zw, Z33, Nat.reduceAdd, Nat.reduceMul, Nat.reduceLeDiff, splice, newB, Ty.t3, Ty.t4, Ty.t61, Ty.t68, Ty.t70, Ty.t86, Ty.t95, Ty.t114, *]; rfl) | (with_reducible first | refine aw_then ?_ | refine aw_skip ?_ | refine aw_ret ?_ | refine aw_exit ?_ | refine aw_block ?_ | refine xr_reg (by decide +kernel) ?_ | refine xr_nil ?_ | refine k_norm ?_ | refine k_ret ?_ | refine k_exit ?_ | refine b_norm ?_ | refine b_ret ?_ | refine b_exit ?_ | refine b_past (by decide) ?_ | refine xd_nil ?_) | (refine Ty.c103 (args := ?_) (K := ?_) ?_ ?_ ?_; rotate_left 2) | (refine Ty.d103 (args := ?_) (v := ?_) ?_ (by decide +kernel) ?_ ?_; rotate_left 2) | (refine xr_do (v := ?_) (h' := ?_) (by exact rfl) ?_ ?_; rotate_left 2) | (refine xr_st (v := ?_) (h' := ?_) (by exact rfl) ?_ ?_; rotate_left 2) | refine xd_reg (ms := [0, 1, 3, 0, 8, 24, 56, 0, 135, 511]) Ty.mx (by decide +kernel) (by decide +kernel) ?_ | refine xd_reg (ms := [0, 1, 0, 4, 3, 31]) Ty.mx (by decide +kernel) (by decide +kernel) ?_ | (refine xd_do (v := ?_) (by exact rfl) (by decide +kernel) ?_ ?_; rotate_left 1) | (refine xr_g (b := ?_) (by exact rfl) ?_ ?_; rotate_left 1; (· simp only [ev, Zb, reduceIte, Nat.reduceEqDiff, Z8, Z5, *]; rfl)) | (refine xd_g (b := ?_) (by exact rfl) ?_ ?_; rotate_left 1; (· simp only [ev, Zb, reduceIte, Nat.reduceEqDiff, Z8, Z5, *]; rfl)) | (with_reducible first | refine gw_tt ?_ | refine gw_ff ?_ | refine gw_tf ?_ | refine gw_ft ?_ | refine gw_un ?_) | refine gw_if (fun hb => ?_) (fun hb => ?_) | (refine aw_c (b := ?_) (by decide) ?_ ?_; rotate_left 1; (· simp only [ev, Zb, reduceIte, Nat.reduceEqDiff, *]; rfl)) | (with_reducible first | refine cw_t ?_ | refine cw_f ?_) | refine cw_if (fun hb => ?_) (fun hb => ?_) | (refine r_ret (vs := ?_) ?_ ?_; rotate_left 1; (· simp only [resV, ev, Zb, reduceIte, Nat.reduceEqDiff, Zj, *]; rfl)) | ((with_reducible refine anyInt_ok ?_ (fun p => kps.getD p.toNat false) _ _ _ _ _ ?_ ?_ ?_ ?_); rotate_left 1; (· first | assumption | exact Sl.sub ‹_› (by first | assumption | exact Sub.refl _ | exact Sub.app ‹_› _ | exact Sub.app (Sub.refl _) _)); (· exact Ty.ok104); (· first | omega | (simp only [Z2]; omega)); (· first | exact fun p hp => reached1_ok kps p _ _ _ _ (by simp only [Z32, Z2r, Z2q]; rw [← hl1]; rfl) (by simp only [get_at]; rfl) (by have := hri p hp; omega) | exact fun p hp => reached1_ok kps p _ _ _ _ (by simp only [Z32, Z2r, Z2q]; rw [← hl1]; rfl) (by simp only [get_at]; rfl) (by have := hro p hp; omega))) | ((with_reducible refine Z2w ?_); rintro _ _ ⟨rfl, hh⟩; replace hh := hh.symm; subst hh))
  refine ⟨?_⟩
  refine xq_reg (ms := [0, 1, 3, 0, 8, 24, 56, 0, 135, 511]) Ty.mx (by decide +kernel) (by decide +kernel) [[], [], [], [], [], [], [], [], [h.length + 3], []] ?_
  refine xq_val (v := ?_) [] rfl (by intro i s e hi ho id q1 q2; rcases i with _ | _ | _ | _ | _ | _ | _ | _ | _ | _ | _ | i <;> first | exact absurd ho (by decide) | (simp at hi; done) | (simp at hi ⊢; omega)) (by intro i hi hne ho id hid; rcases i with _ | _ | _ | _ | _ | _ | _ | _ | _ | _ | _ | i <;> first | exact absurd ho (by decide) | exact absurd rfl hne | (simp at hid; done) | (simp at hid ⊢; omega) | (simp at hi; done) | (simp at hi; omega)) ?_ ?_ ?_
  rotate_left 2
  · simp only [stp, ev, ZB, reduceIte, Nat.reduceEqDiff, Z2x, Z13, Zy, binV_bool_neq, binV_bool_eql, Ty.un4, ldv, stv, vcs, fldA, idxA, blt, lenV, Z10, ZH, Zg, Ze, Z14, Zw, Z33, Nat.reduceAdd, Nat.reduceMul, Nat.reduceLeDiff, splice, newB, Ty.t3, Ty.t4, Ty.t61, Ty.t68, Ty.t70, Ty.t86, Ty.t95, Ty.t114, *]; rfl
  rotate_left 1
  · exact (by intro i s e hi ho; first | exact ids_plain rfl | (refine hid2.mono fun id q => ?_; rcases i with _ | _ | _ | _ | _ | _ | _ | _ | _ | _ | _ | i <;> first | exact absurd ho (by decide) | (simp at hi; done) | (simp at hi q ⊢; omega)) | (refine .ptr _ ?_; rcases i with _ | _ | _ | _ | _ | _ | _ | _ | _ | _ | _ | i <;> first | exact absurd ho (by decide) | (simp at hi; done) | (simp at hi ⊢; omega)) | (refine .slice _ _ _ ?_; rcases i with _ | _ | _ | _ | _ | _ | _ | _ | _ | _ | _ | i <;> first | exact absurd ho (by decide) | (simp at hi; done) | (simp at hi ⊢; omega)))
  refine xq_val (v := ?_) [] rfl (by intro i s e hi ho id q1 q2; rcases i with _ | _ | _ | _ | _ | _ | _ | _ | _ | _ | _ | i <;> first | exact absurd ho (by decide) | (simp at hi; done) | (simp at hi ⊢; omega)) (by intro i hi hne ho id hid; rcases i with _ | _ | _ | _ | _ | _ | _ | _ | _ | _ | _ | i <;> first | exact absurd ho (by decide) | exact absurd rfl hne | (simp at hid; done) | (simp at hid ⊢; omega) | (simp at hi; done) | (simp at hi; omega)) ?_ ?_ ?_
  rotate_left 2
  · simp only [stp, ev, ZB, reduceIte, Nat.reduceEqDiff, Z2x, Z13, Zy, binV_bool_neq, binV_bool_eql, Ty.un4, ldv, stv, vcs, fldA, idxA, blt, lenV, Z10, ZH, Zg, Ze, Z14, Zw, Z33, Nat.reduceAdd, Nat.reduceMul, Nat.reduceLeDiff, splice, newB, Ty.t3, Ty.t4, Ty.t61, Ty.t68, Ty.t70, Ty.t86, Ty.t95, Ty.t114, *]; rfl
  rotate_left 1
  · exact (by intro i s e hi ho; first | exact ids_plain rfl | (refine hid2.mono fun id q => ?_; rcases i with _ | _ | _ | _ | _ | _ | _ | _ | _ | _ | _ | i <;> first | exact absurd ho (by decide) | (simp at hi; done) | (simp at hi q ⊢; omega)) | (refine .ptr _ ?_; rcases i with _ | _ | _ | _ | _ | _ | _ | _ | _ | _ | _ | i <;> first | exact absurd ho (by decide) | (simp at hi; done) | (simp at hi ⊢; omega)) | (refine .slice _ _ _ ?_; rcases i with _ | _ | _ | _ | _ | _ | _ | _ | _ | _ | _ | i <;> first | exact absurd ho (by decide) | (simp at hi; done) | (simp at hi ⊢; omega)))
  refine xq_mk [⟨2, 1, bools (List.replicate P false)⟩] (v := .slice (some ⟨h.length + 1, 0, none⟩) P P) rfl ?_ (by intro i s e hi; first | (refine .ptr _ ?_; rcases i with _ | _ | _ | _ | _ | _ | _ | _ | _ | _ | _ | i <;> first | (simp at hi; done) | (simp at hi ⊢; omega)) | (refine .slice _ _ _ ?_; rcases i with _ | _ | _ | _ | _ | _ | _ | _ | _ | _ | _ | i <;> first | (simp at hi; done) | (simp at hi ⊢; omega))) ?_ ?_
  · intro V hV; simp only [stp, ev, ZB, reduceIte, Nat.reduceEqDiff, Z2x, Z13, Zy, binV_bool_neq, binV_bool_eql, Ty.un4, ldv, stv, vcs, fldA, idxA, blt, lenV, Z10, ZH, Zg, Ze, Z14, Zw, Z33, Nat.reduceAdd, Nat.reduceMul, Nat.reduceLeDiff, splice, newB, Ty.t3, Ty.t4, Ty.t61, Ty.t68, Ty.t70, Ty.t86, Ty.t95, Ty.t114, *]
  · intro b hb x hx; simp only [List.mem_singleton] at hb; subst hb; exact bools_af _ x hx
  refine xq_val (v := ?_) [h.length + 1, h.length + 3] rfl (by intro i s e hi ho id q1 q2; rcases i with _ | _ | _ | _ | _ | _ | _ | _ | _ | _ | _ | i <;> first | exact absurd ho (by decide) | (simp at hi; done) | (simp at hi ⊢; omega)) (by intro i hi hne ho id hid; rcases i with _ | _ | _ | _ | _ | _ | _ | _ | _ | _ | _ | i <;> first | exact absurd ho (by decide) | exact absurd rfl hne | (simp at hid; done) | (simp at hid ⊢; omega) | (simp at hi; done) | (simp at hi; omega)) ?_ ?_ ?_
  rotate_left 2
  · simp only [Z2c, Z23, List.set_nil]; simp only [stp, ev, ZB, reduceIte, Nat.reduceEqDiff, Z2x, Z13, Zy, binV_bool_neq, binV_bool_eql, Ty.un4, ldv, stv, vcs, fldA, idxA, blt, lenV, Z10, ZH, Zg, Ze, Z14, Zw, Z33, Nat.reduceAdd, Nat.reduceMul, Nat.reduceLeDiff, splice, newB, Ty.t3, Ty.t4, Ty.t61, Ty.t68, Ty.t70, Ty.t86, Ty.t95, Ty.t114, *]; rfl
  rotate_left 1
  · exact (by intro i s e hi ho; first | exact ids_plain rfl | (refine hid2.mono fun id q => ?_; rcases i with _ | _ | _ | _ | _ | _ | _ | _ | _ | _ | _ | i <;> first | exact absurd ho (by decide) | (simp at hi; done) | (simp at hi q ⊢; omega)) | (refine .ptr _ ?_; rcases i with _ | _ | _ | _ | _ | _ | _ | _ | _ | _ | _ | i <;> first | exact absurd ho (by decide) | (simp at hi; done) | (simp at hi ⊢; omega)) | (refine .slice _ _ _ ?_; rcases i with _ | _ | _ | _ | _ | _ | _ | _ | _ | _ | _ | i <;> first | exact absurd ho (by decide) | (simp at hi; done) | (simp at hi ⊢; omega)))
  refine xq_val (v := ?_) [h.length + 1, h.length + 3] rfl (by intro i s e hi ho id q1 q2; rcases i with _ | _ | _ | _ | _ | _ | _ | _ | _ | _ | _ | i <;> first | exact absurd ho (by decide) | (simp at hi; done) | (simp at hi ⊢; omega)) (by intro i hi hne ho id hid; rcases i with _ | _ | _ | _ | _ | _ | _ | _ | _ | _ | _ | i <;> first | exact absurd ho (by decide) | exact absurd rfl hne | (simp at hid; done) | (simp at hid ⊢; omega) | (simp at hi; done) | (simp at hi; omega)) ?_ ?_ ?_
  rotate_left 2
  · simp only [Z2c, Z23, List.set_nil]; simp only [stp, ev, ZB, reduceIte, Nat.reduceEqDiff, Z2x, Z13, Zy, binV_bool_neq, binV_bool_eql, Ty.un4, ldv, stv, vcs, fldA, idxA, blt, lenV, Z10, ZH, Zg, Ze, Z14, Zw, Z33, Nat.reduceAdd, Nat.reduceMul, Nat.reduceLeDiff, splice, newB, Ty.t3, Ty.t4, Ty.t61, Ty.t68, Ty.t70, Ty.t86, Ty.t95, Ty.t114, *]; rfl
  rotate_left 1
  · exact (by intro i s e hi ho; first | exact ids_plain rfl | (refine hid2.mono fun id q => ?_; rcases i with _ | _ | _ | _ | _ | _ | _ | _ | _ | _ | _ | i <;> first | exact absurd ho (by decide) | (simp at hi; done) | (simp at hi q ⊢; omega)) | (refine .ptr _ ?_; rcases i with _ | _ | _ | _ | _ | _ | _ | _ | _ | _ | _ | i <;> first | exact absurd ho (by decide) | (simp at hi; done) | (simp at hi ⊢; omega)) | (refine .slice _ _ _ ?_; rcases i with _ | _ | _ | _ | _ | _ | _ | _ | _ | _ | _ | i <;> first | exact absurd ho (by decide) | (simp at hi; done) | (simp at hi ⊢; omega)))
  refine xq_val (v := ?_) [h.length + 1, h.length + 3] rfl (by intro i s e hi ho id q1 q2; rcases i with _ | _ | _ | _ | _ | _ | _ | _ | _ | _ | _ | i <;> first | exact absurd ho (by decide) | (simp at hi; done) | (simp at hi ⊢; omega)) (by intro i hi hne ho id hid; rcases i with _ | _ | _ | _ | _ | _ | _ | _ | _ | _ | _ | i <;> first | exact absurd ho (by decide) | exact absurd rfl hne | (simp at hid; done) | (simp at hid ⊢; omega) | (simp at hi; done) | (simp at hi; omega)) ?_ ?_ ?_
  rotate_left 2
  · simp only [Z2c, Z23, List.set_nil]; simp only [stp, ev, ZB, reduceIte, Nat.reduceEqDiff, Z2x, Z13, Zy, binV_bool_neq, binV_bool_eql, Ty.un4, ldv, stv, vcs, fldA, idxA, blt, lenV, Z10, ZH, Zg, Ze, Z14, Zw, Z33, Nat.reduceAdd, Nat.reduceMul, Nat.reduceLeDiff, splice, newB, Ty.t3, Ty.t4, Ty.t61, Ty.t68, Ty.t70, Ty.t86, Ty.t95, Ty.t114, *]; rfl
  rotate_left 1
  · exact (by intro i s e hi ho; first | exact ids_plain rfl | (refine hid2.mono fun id q => ?_; rcases i with _ | _ | _ | _ | _ | _ | _ | _ | _ | _ | _ | i <;> first | exact absurd ho (by decide) | (simp at hi; done) | (simp at hi q ⊢; omega)) | (refine .ptr _ ?_; rcases i with _ | _ | _ | _ | _ | _ | _ | _ | _ | _ | _ | i <;> first | exact absurd ho (by decide) | (simp at hi; done) | (simp at hi ⊢; omega)) | (refine .slice _ _ _ ?_; rcases i with _ | _ | _ | _ | _ | _ | _ | _ | _ | _ | _ | i <;> first | exact absurd ho (by decide) | (simp at hi; done) | (simp at hi ⊢; omega)))
  refine xq_mk [⟨2, 1, bools (List.replicate n.trans.length false)⟩] (v := .slice (some ⟨h.length + 2, 0, none⟩) n.trans.length n.trans.length) rfl ?_ (by intro i s e hi; first | (refine .ptr _ ?_; rcases i with _ | _ | _ | _ | _ | _ | _ | _ | _ | _ | _ | i <;> first | (simp at hi; done) | (simp at hi ⊢; omega)) | (refine .slice _ _ _ ?_; rcases i with _ | _ | _ | _ | _ | _ | _ | _ | _ | _ | _ | i <;> first | (simp at hi; done) | (simp at hi ⊢; omega))) ?_ ?_
  · intro V hV; simp only [stp, ev, ZB, reduceIte, Nat.reduceEqDiff, Z2x, Z13, Zy, binV_bool_neq, binV_bool_eql, Ty.un4, ldv, stv, vcs, fldA, idxA, blt, lenV, Z10, ZH, Zg, Ze, Z14, Zw, Z33, Nat.reduceAdd, Nat.reduceMul, Nat.reduceLeDiff, splice, newB, Ty.t3, Ty.t4, Ty.t61, Ty.t68, Ty.t70, Ty.t86, Ty.t95, Ty.t114, *]
  · intro b hb x hx; simp only [List.mem_singleton] at hb; subst hb; exact bools_af _ x hx
  refine xq_mk [⟨2, 1, [.slice none 0 0]⟩] (v := .pointer (some ⟨h.length + 3, 0, none⟩)) rfl ?_ (by intro i s e hi; first | (refine .ptr _ ?_; rcases i with _ | _ | _ | _ | _ | _ | _ | _ | _ | _ | _ | i <;> first | (simp at hi; done) | (simp at hi ⊢; omega)) | (refine .slice _ _ _ ?_; rcases i with _ | _ | _ | _ | _ | _ | _ | _ | _ | _ | _ | i <;> first | (simp at hi; done) | (simp at hi ⊢; omega))) ?_ ?_
  · intro V hV; simp only [stp, ev, ZB, reduceIte, Nat.reduceEqDiff, Z2x, Z13, Zy, binV_bool_neq, binV_bool_eql, Ty.un4, ldv, stv, vcs, fldA, idxA, blt, lenV, Z10, ZH, Zg, Ze, Z14, Zw, Z33, Nat.reduceAdd, Nat.reduceMul, Nat.reduceLeDiff, splice, newB, Ty.t3, Ty.t4, Ty.t61, Ty.t68, Ty.t70, Ty.t86, Ty.t95, Ty.t114, *]
  · intro b hb x hx; simp only [List.mem_singleton] at hb; subst hb; simp only [List.mem_singleton] at hx; subst hx; rfl
  refine xq_st [h.length + 2] (a := ⟨h.length + 3, 0, none⟩) (b0 := ⟨2, 1, [.slice none 0 0]⟩) (l := [.slice (some ⟨h.length + 1, 0, none⟩) P P]) ?_ ?_ ?_ ?_ rfl (by simp) rfl (by simp) (by intro i s e hi ho id q1 q2; rcases i with _ | _ | _ | _ | _ | _ | _ | _ | _ | _ | _ | i <;> first | exact absurd ho (by decide) | (simp at hi; done) | (simp at hi ⊢; omega)) (by intro i hi hne ho id hid; rcases i with _ | _ | _ | _ | _ | _ | _ | _ | _ | _ | _ | i <;> first | exact absurd ho (by decide) | exact absurd rfl hne | (simp at hid; done) | (simp at hid ⊢; omega) | (simp at hi; done) | (simp at hi; omega)) ?_ ?_
  · simp only [stp, ev, ZB, reduceIte, Nat.reduceEqDiff, Z2x, Z13, Zy, binV_bool_neq, binV_bool_eql, Ty.un4, ldv, stv, vcs, fldA, idxA, blt, lenV, Z10, ZH, Zg, Ze, Z14, Zw, Z33, Nat.reduceAdd, Nat.reduceMul, Nat.reduceLeDiff, splice, newB, Ty.t3, Ty.t4, Ty.t61, Ty.t68, Ty.t70, Ty.t86, Ty.t95, Ty.t114, *]
  · simp only [stp, ev, ZB, reduceIte, Nat.reduceEqDiff, Z2x, Z13, Zy, binV_bool_neq, binV_bool_eql, Ty.un4, ldv, stv, vcs, fldA, idxA, blt, lenV, Z10, ZH, Zg, Ze, Z14, Zw, Z33, Nat.reduceAdd, Nat.reduceMul, Nat.reduceLeDiff, splice, newB, Ty.t3, Ty.t4, Ty.t61, Ty.t68, Ty.t70, Ty.t86, Ty.t95, Ty.t114, *]
  · simp only [stp, ev, ZB, reduceIte, Nat.reduceEqDiff, Z2x, Z13, Zy, binV_bool_neq, binV_bool_eql, Ty.un4, ldv, stv, vcs, fldA, idxA, blt, lenV, Z10, ZH, Zg, Ze, Z14, Zw, Z33, Nat.reduceAdd, Nat.reduceMul, Nat.reduceLeDiff, splice, newB, Ty.t3, Ty.t4, Ty.t61, Ty.t68, Ty.t70, Ty.t86, Ty.t95, Ty.t114, *]
  · simp only [Z7, get_at]; rfl
  · intro i s e hi ho u hu
    simp only [splice, Z9, List.mem_singleton] at hu
    subst hu
    refine .slice _ _ _ ?_
    (rcases i with _ | _ | _ | _ | _ | _ | _ | _ | _ | _ | _ | i <;> first | exact absurd ho (by decide) | (simp at hi; done) | (simp at hi ⊢; omega))
  simp only [Z1y, Z7]
  refine xq_val (v := ?_) [] rfl (by intro i s e hi ho id q1 q2; rcases i with _ | _ | _ | _ | _ | _ | _ | _ | _ | _ | _ | i <;> first | exact absurd ho (by decide) | (simp at hi; done) | (simp at hi ⊢; omega)) (by intro i hi hne ho id hid; rcases i with _ | _ | _ | _ | _ | _ | _ | _ | _ | _ | _ | i <;> first | exact absurd ho (by decide) | exact absurd rfl hne | (simp at hid; done) | (simp at hid ⊢; omega) | (simp at hi; done) | (simp at hi; omega)) ?_ ?_ ?_
  rotate_left 2
  · simp only [stp, ev, ZB, reduceIte, Nat.reduceEqDiff, Z2x, Z13, Zy, binV_bool_neq, binV_bool_eql, Ty.un4, ldv, stv, vcs, fldA, idxA, blt, lenV, Z10, ZH, Zg, Ze, Z14, Zw, Z33, Nat.reduceAdd, Nat.reduceMul, Nat.reduceLeDiff, splice, newB, Ty.t3, Ty.t4, Ty.t61, Ty.t68, Ty.t70, Ty.t86, Ty.t95, Ty.t114, *]; rfl
  rotate_left 1
  · exact (by intro i s e hi ho; first | exact ids_plain rfl | (refine hid2.mono fun id q => ?_; rcases i with _ | _ | _ | _ | _ | _ | _ | _ | _ | _ | _ | i <;> first | exact absurd ho (by decide) | (simp at hi; done) | (simp at hi q ⊢; omega)) | (refine .ptr _ ?_; rcases i with _ | _ | _ | _ | _ | _ | _ | _ | _ | _ | _ | i <;> first | exact absurd ho (by decide) | (simp at hi; done) | (simp at hi ⊢; omega)) | (refine .slice _ _ _ ?_; rcases i with _ | _ | _ | _ | _ | _ | _ | _ | _ | _ | _ | i <;> first | exact absurd ho (by decide) | (simp at hi; done) | (simp at hi ⊢; omega)))
  refine xq_nil ?_
  repeat' (first | ((with_reducible refine eq_go ?_); simp only [stp, ev, ZB, reduceIte, Nat.reduceEqDiff, Z2x, Z13, Zy, binV_bool_neq, binV_bool_eql, Ty.un4, ldv, stv, vcs, fldA, idxA, blt, lenV, Z10, ZH, Zg, Ze, Z14, Zw, Z33, Nat.reduceAdd, Nat.reduceMul, Nat.reduceLeDiff, splice, newB, Ty.t3, Ty.t4, Ty.t61, Ty.t68, Ty.t70, Ty.t86, Ty.t95, Ty.t114, Nat.mul_one, bools_len, List.length_replicate, bools_set, *]; rfl) | (with_reducible first | refine aw_then ?_ | refine aw_skip ?_ | refine aw_ret ?_ | refine aw_exit ?_ | refine aw_block ?_ | refine xr_reg (by decide +kernel) ?_ | refine xr_nil ?_ | refine k_norm ?_ | refine k_ret ?_ | refine k_exit ?_ | refine b_norm ?_ | refine b_ret ?_ | refine b_exit ?_ | refine b_past (by decide) ?_ | refine xd_nil ?_) | (refine Ty.c103 (args := ?_) (K := ?_) ?_ ?_ ?_; rotate_left 2) | (refine Ty.d103 (args := ?_) (v := ?_) ?_ (by decide +kernel) ?_ ?_; rotate_left 2) | (refine xr_do (v := ?_) (h' := ?_) (by exact rfl) ?_ ?_; rotate_left 2) | (refine xr_st (v := ?_) (h' := ?_) (by exact rfl) ?_ ?_; rotate_left 2) | refine xd_reg (ms := [0, 1, 3, 0, 8, 24, 56, 0, 135, 511]) Ty.mx (by decide +kernel) (by decide +kernel) ?_ | refine xd_reg (ms := [0, 1, 0, 4, 3, 31]) Ty.mx (by decide +kernel) (by decide +kernel) ?_ | (refine xd_do (v := ?_) (by exact rfl) (by decide +kernel) ?_ ?_; rotate_left 1) | (refine xr_g (b := ?_) (by exact rfl) ?_ ?_; rotate_left 1; (· simp only [ev, Zb, reduceIte, Nat.reduceEqDiff, Z8, Z5, *]; rfl)) | (refine xd_g (b := ?_) (by exact rfl) ?_ ?_; rotate_left 1; (· simp only [ev, Zb, reduceIte, Nat.reduceEqDiff, Z8, Z5, *]; rfl)) | (with_reducible first | refine gw_tt ?_ | refine gw_ff ?_ | refine gw_tf ?_ | refine gw_ft ?_ | refine gw_un ?_) | refine gw_if (fun hb => ?_) (fun hb => ?_) | (refine aw_c (b := ?_) (by decide) ?_ ?_; rotate_left 1; (· simp only [ev, Zb, reduceIte, Nat.reduceEqDiff, *]; rfl)) | (with_reducible first | refine cw_t ?_ | refine cw_f ?_) | refine cw_if (fun hb => ?_) (fun hb => ?_) | (refine r_ret (vs := ?_) ?_ ?_; rotate_left 1; (· simp only [resV, ev, Zb, reduceIte, Nat.reduceEqDiff, Zj, *]; rfl)) | ((with_reducible refine anyInt_ok ?_ (fun p => kps.getD p.toNat false) _ _ _ _ _ ?_ ?_ ?_ ?_); rotate_left 1; (· first | assumption | exact Sl.sub ‹_› (by first | assumption | exact Sub.refl _ | exact Sub.app ‹_› _ | exact Sub.app (Sub.refl _) _)); (· exact Ty.ok104); (· first | omega | (simp only [Z2]; omega)); (· first | exact fun p hp => reached1_ok kps p _ _ _ _ (by simp only [Z32, Z2r, Z2q]; rw [← hl1]; rfl) (by simp only [get_at]; rfl) (by have := hri p hp; omega) | exact fun p hp => reached1_ok kps p _ _ _ _ (by simp only [Z32, Z2r, Z2q]; rw [← hl1]; rfl) (by simp only [get_at]; rfl) (by have := hro p hp; omega))) | ((with_reducible refine Z2w ?_); rintro _ _ ⟨rfl, hh⟩; replace hh := hh.symm; subst hh))
  refine aw_loop (n := n.trans.length + 2) (fun m T h' => ∃ (s : St) (f : Nat) (L : Heap), h' = h ++ ⟨2, 1, [.int .i64 P, .slice b n.trans.length c]⟩ :: ⟨2, 1, bools s.ps⟩ :: ⟨2, 1, bools s.ts⟩ :: ⟨2, 1, [.slice (some ⟨h.length + 1, 0, none⟩) P P]⟩ :: L ∧
      T 10 = .bool s.ch ∧ T 2 = .bool back ∧ T 3 = .pointer (some ⟨h.length, 0, none⟩) ∧ T 8 = .pointer (some ⟨h.length + 3, 0, none⟩) ∧ T 9 = .slice (some ⟨h.length + 2, 0, none⟩) n.trans.length n.trans.length ∧
      s.ps.length = P ∧ s.ts.length = n.trans.length ∧ (s.ch = true → reachF back n.trans f (s.ps, s.ts) = reach back n q ∧ cnt s.ts < f ∧ f + 1 ≤ m) ∧ (s.ch = false → (s.ps, s.ts) = reach back n q))
    ⟨⟨(List.replicate P false).set q true, List.replicate n.trans.length false, true⟩, n.trans.length + 1, [], rfl, rfl, rfl, rfl, rfl, rfl, by simp, by simp, fun _ => ⟨by simp only [reach, hP, Zq], Nat.lt_succ_of_le (by have := cnt_le (List.replicate n.trans.length false); rw [bsz] at this; exact this), by omega⟩, fun q => by cases q⟩ ?_
  clear hmk hmk1 hmk2
  rintro m T h' ⟨⟨ps, ts, ch⟩, f, L, rfl, h10, h2, h3, h8, h9, hps, hts, hc1, hc2⟩
  simp only at h10 hps hts hc1 hc2 ⊢
  cases ch
  · have hR0 := hc2 rfl
    clear hc1 hc2
    repeat' (first | ((with_reducible refine eq_go ?_); simp only [stp, ev, ZB, reduceIte, Nat.reduceEqDiff, Z2x, Z13, Zy, binV_bool_neq, binV_bool_eql, Ty.un4, ldv, stv, vcs, fldA, idxA, blt, lenV, Z10, ZH, Zg, Ze, Z14, Zw, Z33, Nat.reduceAdd, Nat.reduceMul, Nat.reduceLeDiff, splice, newB, Ty.t3, Ty.t4, Ty.t61, Ty.t68, Ty.t70, Ty.t86, Ty.t95, Ty.t114, *]; rfl) | (with_reducible first | refine aw_then ?_ | refine aw_skip ?_ | refine aw_ret ?_ | refine aw_exit ?_ | refine aw_block ?_ | refine xr_reg (by decide +kernel) ?_ | refine xr_nil ?_ | refine k_norm ?_ | refine k_ret ?_ | refine k_exit ?_ | refine b_norm ?_ | refine b_ret ?_ | refine b_exit ?_ | refine b_past (by decide) ?_ | refine xd_nil ?_) | (refine Ty.c103 (args := ?_) (K := ?_) ?_ ?_ ?_; rotate_left 2) | (refine Ty.d103 (args := ?_) (v := ?_) ?_ (by decide +kernel) ?_ ?_; rotate_left 2) | (refine xr_do (v := ?_) (h' := ?_) (by exact rfl) ?_ ?_; rotate_left 2) | (refine xr_st (v := ?_) (h' := ?_) (by exact rfl) ?_ ?_; rotate_left 2) | refine xd_reg (ms := [0, 1, 3, 0, 8, 24, 56, 0, 135, 511]) Ty.mx (by decide +kernel) (by decide +kernel) ?_ | refine xd_reg (ms := [0, 1, 0, 4, 3, 31]) Ty.mx (by decide +kernel) (by decide +kernel) ?_ | (refine xd_do (v := ?_) (by exact rfl) (by decide +kernel) ?_ ?_; rotate_left 1) | (refine xr_g (b := ?_) (by exact rfl) ?_ ?_; rotate_left 1; (· simp only [ev, Zb, reduceIte, Nat.reduceEqDiff, Z8, Z5, *]; rfl)) | (refine xd_g (b := ?_) (by exact rfl) ?_ ?_; rotate_left 1; (· simp only [ev, Zb, reduceIte, Nat.reduceEqDiff, Z8, Z5, *]; rfl)) | (with_reducible first | refine gw_tt ?_ | refine gw_ff ?_ | refine gw_tf ?_ | refine gw_ft ?_ | refine gw_un ?_) | refine gw_if (fun hb => ?_) (fun hb => ?_) | (refine aw_c (b := ?_) (by decide) ?_ ?_; rotate_left 1; (· simp only [ev, Zb, reduceIte, Nat.reduceEqDiff, *]; rfl)) | (with_reducible first | refine cw_t ?_ | refine cw_f ?_) | refine cw_if (fun hb => ?_) (fun hb => ?_) | (refine r_ret (vs := ?_) ?_ ?_; rotate_left 1; (· simp only [resV, ev, Zb, reduceIte, Nat.reduceEqDiff, Zj, *]; rfl)) | ((with_reducible refine anyInt_ok ?_ (fun p => kps.getD p.toNat false) _ _ _ _ _ ?_ ?_ ?_ ?_); rotate_left 1; (· first | assumption | exact Sl.sub ‹_› (by first | assumption | exact Sub.refl _ | exact Sub.app ‹_› _ | exact Sub.app (Sub.refl _) _)); (· exact Ty.ok104); (· first | omega | (simp only [Z2]; omega)); (· first | exact fun p hp => reached1_ok kps p _ _ _ _ (by simp only [Z32, Z2r, Z2q]; rw [← hl1]; rfl) (by simp only [get_at]; rfl) (by have := hri p hp; omega) | exact fun p hp => reached1_ok kps p _ _ _ _ (by simp only [Z32, Z2r, Z2q]; rw [← hl1]; rfl) (by simp only [get_at]; rfl) (by have := hro p hp; omega))) | ((with_reducible refine Z2w ?_); rintro _ _ ⟨rfl, hh⟩; replace hh := hh.symm; subst hh))
    rw [← hR0]
    exact ⟨_, [1, 2], rfl, Inj.two (by decide), rfl, BsOk.cons rfl (bools_af _) rfl (BsOk.cons rfl (bools_af _) rfl (BsOk.nil _ _)), RVl.tuple (l := [_, _]) (l' := [_, _]) ⟨by rw [hP, Zq]; exact .sl 0 1 _ _ 1 _ _ rfl rfl (by rw [bools_len, hps, Nat.mul_one]) (Z4 _) (.inl ⟨rfl, rfl⟩), .sl 1 2 _ _ 1 _ _ rfl rfl (by rw [bools_len, hts, Nat.mul_one]) (Z4 _) (.inl ⟨rfl, rfl⟩), trivial⟩⟩
  · obtain ⟨hf1, hf2, hf3⟩ := hc1 rfl
    clear hc1 hc2
    obtain ⟨f, rfl⟩ : ∃ g, f = g + 1 := ⟨f - 1, by omega⟩
    repeat' (first | ((with_reducible refine eq_go ?_); simp only [stp, ev, ZB, reduceIte, Nat.reduceEqDiff, Z2x, Z13, Zy, binV_bool_neq, binV_bool_eql, Ty.un4, ldv, stv, vcs, fldA, idxA, blt, lenV, Z10, ZH, Zg, Ze, Z14, Zw, Z33, Nat.reduceAdd, Nat.reduceMul, Nat.reduceLeDiff, splice, newB, Ty.t3, Ty.t4, Ty.t61, Ty.t68, Ty.t70, Ty.t86, Ty.t95, Ty.t114, *]; rfl) | (with_reducible first | refine aw_then ?_ | refine aw_skip ?_ | refine aw_ret ?_ | refine aw_exit ?_ | refine aw_block ?_ | refine xr_reg (by decide +kernel) ?_ | refine xr_nil ?_ | refine k_norm ?_ | refine k_ret ?_ | refine k_exit ?_ | refine b_norm ?_ | refine b_ret ?_ | refine b_exit ?_ | refine b_past (by decide) ?_ | refine xd_nil ?_) | (refine Ty.c103 (args := ?_) (K := ?_) ?_ ?_ ?_; rotate_left 2) | (refine Ty.d103 (args := ?_) (v := ?_) ?_ (by decide +kernel) ?_ ?_; rotate_left 2) | (refine xr_do (v := ?_) (h' := ?_) (by exact rfl) ?_ ?_; rotate_left 2) | (refine xr_st (v := ?_) (h' := ?_) (by exact rfl) ?_ ?_; rotate_left 2) | refine xd_reg (ms := [0, 1, 3, 0, 8, 24, 56, 0, 135, 511]) Ty.mx (by decide +kernel) (by decide +kernel) ?_ | refine xd_reg (ms := [0, 1, 0, 4, 3, 31]) Ty.mx (by decide +kernel) (by decide +kernel) ?_ | (refine xd_do (v := ?_) (by exact rfl) (by decide +kernel) ?_ ?_; rotate_left 1) | (refine xr_g (b := ?_) (by exact rfl) ?_ ?_; rotate_left 1; (· simp only [ev, Zb, reduceIte, Nat.reduceEqDiff, Z8, Z5, *]; rfl)) | (refine xd_g (b := ?_) (by exact rfl) ?_ ?_; rotate_left 1; (· simp only [ev, Zb, reduceIte, Nat.reduceEqDiff, Z8, Z5, *]; rfl)) | (with_reducible first | refine gw_tt ?_ | refine gw_ff ?_ | refine gw_tf ?_ | refine gw_ft ?_ | refine gw_un ?_) | refine gw_if (fun hb => ?_) (fun hb => ?_) | (refine aw_c (b := ?_) (by decide) ?_ ?_; rotate_left 1; (· simp only [ev, Zb, reduceIte, Nat.reduceEqDiff, *]; rfl)) | (with_reducible first | refine cw_t ?_ | refine cw_f ?_) | refine cw_if (fun hb => ?_) (fun hb => ?_) | (refine r_ret (vs := ?_) ?_ ?_; rotate_left 1; (· simp only [resV, ev, Zb, reduceIte, Nat.reduceEqDiff, Zj, *]; rfl)) | ((with_reducible refine anyInt_ok ?_ (fun p => kps.getD p.toNat false) _ _ _ _ _ ?_ ?_ ?_ ?_); rotate_left 1; (· first | assumption | exact Sl.sub ‹_› (by first | assumption | exact Sub.refl _ | exact Sub.app ‹_› _ | exact Sub.app (Sub.refl _) _)); (· exact Ty.ok104); (· first | omega | (simp only [Z2]; omega)); (· first | exact fun p hp => reached1_ok kps p _ _ _ _ (by simp only [Z32, Z2r, Z2q]; rw [← hl1]; rfl) (by simp only [get_at]; rfl) (by have := hri p hp; omega) | exact fun p hp => reached1_ok kps p _ _ _ _ (by simp only [Z32, Z2r, Z2q]; rw [← hl1]; rfl) (by simp only [get_at]; rfl) (by have := hro p hp; omega))) | ((with_reducible refine Z2w ?_); rintro _ _ ⟨rfl, hh⟩; replace hh := hh.symm; subst hh))
    refine aw_for [2, 3, 8, 9, 29, 30] (fun k T h' => ∃ (L : Heap), h' = h ++ ⟨2, 1, [.int .i64 P, .slice b n.trans.length c]⟩ :: ⟨2, 1, bools (sweepK back n.trans ⟨ps, ts, false⟩ k).ps⟩ :: ⟨2, 1, bools (sweepK back n.trans ⟨ps, ts, false⟩ k).ts⟩ :: ⟨2, 1, [.slice (some ⟨h.length + 1, 0, none⟩) P P]⟩ :: L ∧
      T 10 = .bool (sweepK back n.trans ⟨ps, ts, false⟩ k).ch ∧ T 31 = .int .i64 k) n.trans.length (k0 := 0) (Nat.zero_le _) ⟨L, rfl, rfl, rfl⟩ ?_
    rintro k T h' hk hR ⟨L, rfl, h10, h31⟩
    simp only [Z37, Z38, Z39, implies_true, and_true, stp, ev, ZB, reduceIte, Nat.reduceEqDiff, Z2x, Z13, Zy] at hR
    have hsl := sweep_len back n.trans ⟨ps, ts, false⟩ k
    have hsn : sweepK back n.trans ⟨ps, ts, false⟩ (k + 1) = rStep back (n.trans.getD k Tr.nil) k (sweepK back n.trans ⟨ps, ts, false⟩ k) := rfl
    rcases Nat.lt_or_ge k n.trans.length with hkn | hkn
    · have h1 : (k : Int) < n.trans.length := by omega
      obtain ⟨a, row, rfl, hrl, hrt, hld0⟩ := hrow k hkn
      obtain ⟨x, y, z, rfl, q1, q2, q3⟩ := hrt
      obtain ⟨s1, s2, s3⟩ := hsm.2 n.trans[k] (List.getElem_mem hkn)
      have htok := hall _ (List.getElem_mem hkn)
      have hld := fun L => hld0 _ (hI.app L)
      have f1 := q1.flat
      have f2 := q2.flat
      have f3 := q3.flat
      obtain ⟨hri, hro⟩ := trOk_range htok
      rw [hP] at hri hro
      obtain ⟨x1, x2, rfl, x3, xrow⟩ := _root_.id q1
      obtain ⟨y1, y2, rfl, y3, yrow⟩ := _root_.id q2
      simp only [ints_length] at hld f1 f2 x3 y3 q1 q2
      clear hrow hld0 htok
      rw [show n.trans.getD k Tr.nil = n.trans[k] by rw [List.getD_eq_getElem?_getD, List.getElem?_eq_getElem hkn]; rfl] at hsn
      generalize n.trans[k] = t at *
      generalize sweepK back n.trans ⟨ps, ts, false⟩ k = sk at *
      generalize sweepK back n.trans ⟨ps, ts, false⟩ (k + 1) = sk1 at *
      obtain ⟨kps, kts, kch⟩ := sk
      simp only at hsl h10 hsn
      obtain ⟨hl1, hl2⟩ := hsl
      rw [hps] at hl1
      rw [hts] at hl2
      have hgk : (bools kts)[k]? = some (.bool (kts.getD k false)) := bools_get kts (by omega)
      have hkl : k + 1 ≤ n.trans.length := by omega
      cases back
      case' false =>
        simp only [rStep, Tr.src, Tr.dst, Bool.false_eq_true, if_false, Z2x] at hsn
        generalize t.out = dl at *
        generalize y1 = d1 at *
        generalize y2 = d2 at *
        have drow := yrow
        have hrd := hro
      case' true =>
        simp only [rStep, Tr.src, Tr.dst, Bool.false_eq_true, if_false, Z2x] at hsn
        generalize t.inn = dl at *
        generalize x1 = d1 at *
        generalize x2 = d2 at *
        have drow := xrow
        have hrd := hri
      all_goals
        repeat' (first | (with_reducible first | refine aw_parkR 12 ?_) | ((with_reducible refine eq_go ?_); simp only [stp, ev, ZB, reduceIte, Nat.reduceEqDiff, Z2x, Z13, Zy, binV_bool_neq, binV_bool_eql, Ty.un4, ldv, stv, vcs, fldA, idxA, blt, lenV, Z10, ZH, Zg, Ze, Z14, Zw, Z33, Nat.reduceAdd, Nat.reduceMul, Nat.reduceLeDiff, splice, newB, Ty.t3, Ty.t4, Ty.t61, Ty.t68, Ty.t70, Ty.t86, Ty.t95, Ty.t114, Nat.mul_one, bools_len, List.length_replicate, bools_set, *]; rfl) | (with_reducible first | refine aw_then ?_ | refine aw_skip ?_ | refine aw_ret ?_ | refine aw_exit ?_ | refine aw_block ?_ | refine xr_reg (by decide +kernel) ?_ | refine xr_nil ?_ | refine k_norm ?_ | refine k_ret ?_ | refine k_exit ?_ | refine b_norm ?_ | refine b_ret ?_ | refine b_exit ?_ | refine b_past (by decide) ?_ | refine xd_nil ?_) | (refine Ty.c103 (args := ?_) (K := ?_) ?_ ?_ ?_; rotate_left 2) | (refine Ty.d103 (args := ?_) (v := ?_) ?_ (by decide +kernel) ?_ ?_; rotate_left 2) | (refine xr_do (v := ?_) (h' := ?_) (by exact rfl) ?_ ?_; rotate_left 2) | (refine xr_st (v := ?_) (h' := ?_) (by exact rfl) ?_ ?_; rotate_left 2) | refine xd_reg (ms := [0, 1, 3, 0, 8, 24, 56, 0, 135, 511]) Ty.mx (by decide +kernel) (by decide +kernel) ?_ | refine xd_reg (ms := [0, 1, 0, 4, 3, 31]) Ty.mx (by decide +kernel) (by decide +kernel) ?_ | (refine xd_do (v := ?_) (by exact rfl) (by decide +kernel) ?_ ?_; rotate_left 1) | (refine xr_g (b := ?_) (by exact rfl) ?_ ?_; rotate_left 1; (· simp only [ev, Zb, reduceIte, Nat.reduceEqDiff, Z8, Z5, *]; rfl)) | (refine xd_g (b := ?_) (by exact rfl) ?_ ?_; rotate_left 1; (· simp only [ev, Zb, reduceIte, Nat.reduceEqDiff, Z8, Z5, *]; rfl)) | (with_reducible first | refine gw_tt ?_ | refine gw_ff ?_ | refine gw_tf ?_ | refine gw_ft ?_ | refine gw_un ?_) | refine gw_if (fun hb => ?_) (fun hb => ?_) | (refine aw_c (b := ?_) (by decide) ?_ ?_; rotate_left 1; (· simp only [ev, Zb, reduceIte, Nat.reduceEqDiff, *]; rfl)) | (with_reducible first | refine cw_t ?_ | refine cw_f ?_) | refine cw_if (fun hb => ?_) (fun hb => ?_) | (refine r_ret (vs := ?_) ?_ ?_; rotate_left 1; (· simp only [resV, ev, Zb, reduceIte, Nat.reduceEqDiff, Zj, *]; rfl)) | ((with_reducible refine anyInt_ok ?_ (fun p => kps.getD p.toNat false) _ _ _ _ _ ?_ ?_ ?_ ?_); rotate_left 1; (· first | assumption | exact Sl.sub ‹_› (by first | assumption | exact Sub.refl _ | exact Sub.app ‹_› _ | exact Sub.app (Sub.refl _) _)); (· exact Ty.ok104); (· first | omega | (simp only [Z2]; omega)); (· first | exact fun p hp => reached1_ok kps p _ _ _ _ (by simp only [Z32, Z2r, Z2q]; rw [← hl1]; rfl) (by simp only [get_at]; rfl) (by have := hri p hp; omega) | exact fun p hp => reached1_ok kps p _ _ _ _ (by simp only [Z32, Z2r, Z2q]; rw [← hl1]; rfl) (by simp only [get_at]; rfl) (by have := hro p hp; omega))) | ((with_reducible refine Z2w ?_); rintro _ _ ⟨rfl, hh⟩; replace hh := hh.symm; subst hh))
        refine ⟨?_⟩
        rcases Bool.eq_false_or_eq_true (kts.getD k false) with htk | htk
        · rw [htk] at hgk hsn
          simp only [Bool.true_or, Z2x] at hsn
          subst hsn
          repeat' (first | ((with_reducible refine eq_go ?_); simp only [stp, ev, ZB, reduceIte, Nat.reduceEqDiff, Z2x, Z13, Zy, binV_bool_neq, binV_bool_eql, Ty.un4, ldv, stv, vcs, fldA, idxA, blt, lenV, Z10, ZH, Zg, Ze, Z14, Zw, Z33, Nat.reduceAdd, Nat.reduceMul, Nat.reduceLeDiff, splice, newB, Ty.t3, Ty.t4, Ty.t61, Ty.t68, Ty.t70, Ty.t86, Ty.t95, Ty.t114, Nat.mul_one, bools_len, List.length_replicate, bools_set, *]; rfl) | (with_reducible first | refine aw_then ?_ | refine aw_skip ?_ | refine aw_ret ?_ | refine aw_exit ?_ | refine aw_block ?_ | refine xr_reg (by decide +kernel) ?_ | refine xr_nil ?_ | refine k_norm ?_ | refine k_ret ?_ | refine k_exit ?_ | refine b_norm ?_ | refine b_ret ?_ | refine b_exit ?_ | refine b_past (by decide) ?_ | refine xd_nil ?_) | (refine Ty.c103 (args := ?_) (K := ?_) ?_ ?_ ?_; rotate_left 2) | (refine Ty.d103 (args := ?_) (v := ?_) ?_ (by decide +kernel) ?_ ?_; rotate_left 2) | (refine xr_do (v := ?_) (h' := ?_) (by exact rfl) ?_ ?_; rotate_left 2) | (refine xr_st (v := ?_) (h' := ?_) (by exact rfl) ?_ ?_; rotate_left 2) | refine xd_reg (ms := [0, 1, 3, 0, 8, 24, 56, 0, 135, 511]) Ty.mx (by decide +kernel) (by decide +kernel) ?_ | refine xd_reg (ms := [0, 1, 0, 4, 3, 31]) Ty.mx (by decide +kernel) (by decide +kernel) ?_ | (refine xd_do (v := ?_) (by exact rfl) (by decide +kernel) ?_ ?_; rotate_left 1) | (refine xr_g (b := ?_) (by exact rfl) ?_ ?_; rotate_left 1; (· simp only [ev, Zb, reduceIte, Nat.reduceEqDiff, Z8, Z5, *]; rfl)) | (refine xd_g (b := ?_) (by exact rfl) ?_ ?_; rotate_left 1; (· simp only [ev, Zb, reduceIte, Nat.reduceEqDiff, Z8, Z5, *]; rfl)) | (with_reducible first | refine gw_tt ?_ | refine gw_ff ?_ | refine gw_tf ?_ | refine gw_ft ?_ | refine gw_un ?_) | refine gw_if (fun hb => ?_) (fun hb => ?_) | (refine aw_c (b := ?_) (by decide) ?_ ?_; rotate_left 1; (· simp only [ev, Zb, reduceIte, Nat.reduceEqDiff, *]; rfl)) | (with_reducible first | refine cw_t ?_ | refine cw_f ?_) | refine cw_if (fun hb => ?_) (fun hb => ?_) | (refine r_ret (vs := ?_) ?_ ?_; rotate_left 1; (· simp only [resV, ev, Zb, reduceIte, Nat.reduceEqDiff, Zj, *]; rfl)) | ((with_reducible refine anyInt_ok ?_ (fun p => kps.getD p.toNat false) _ _ _ _ _ ?_ ?_ ?_ ?_); rotate_left 1; (· first | assumption | exact Sl.sub ‹_› (by first | assumption | exact Sub.refl _ | exact Sub.app ‹_› _ | exact Sub.app (Sub.refl _) _)); (· exact Ty.ok104); (· first | omega | (simp only [Z2]; omega)); (· first | exact fun p hp => reached1_ok kps p _ _ _ _ (by simp only [Z32, Z2r, Z2q]; rw [← hl1]; rfl) (by simp only [get_at]; rfl) (by have := hri p hp; omega) | exact fun p hp => reached1_ok kps p _ _ _ _ (by simp only [Z32, Z2r, Z2q]; rw [← hl1]; rfl) (by simp only [get_at]; rfl) (by have := hro p hp; omega))) | ((with_reducible refine Z2w ?_); rintro _ _ ⟨rfl, hh⟩; replace hh := hh.symm; subst hh))
          refine ⟨by first | assumption | omega, ?_, ?_⟩
          · simp only [Z37, Z38, Z39, implies_true, and_true, ZB, stp, ev, reduceIte, Nat.reduceEqDiff, Z2x, Z13, Zy, *]
          refine ⟨_, rfl, ?_, ?_⟩
          · simp only [Zb, reduceIte, Nat.reduceEqDiff, h10]
          · simp only [Zb, reduceIte, Nat.reduceEqDiff]
            rw [wrap_id (by omega)]; rfl
        · rw [htk] at hgk hsn
          simp only [Bool.false_or] at hsn
          repeat' (first | ((with_reducible refine eq_go ?_); simp only [stp, ev, ZB, reduceIte, Nat.reduceEqDiff, Z2x, Z13, Zy, binV_bool_neq, binV_bool_eql, Ty.un4, ldv, stv, vcs, fldA, idxA, blt, lenV, Z10, ZH, Zg, Ze, Z14, Zw, Z33, Nat.reduceAdd, Nat.reduceMul, Nat.reduceLeDiff, splice, newB, Ty.t3, Ty.t4, Ty.t61, Ty.t68, Ty.t70, Ty.t86, Ty.t95, Ty.t114, Nat.mul_one, bools_len, List.length_replicate, bools_set, *]; rfl) | (with_reducible first | refine aw_then ?_ | refine aw_skip ?_ | refine aw_ret ?_ | refine aw_exit ?_ | refine aw_block ?_ | refine xr_reg (by decide +kernel) ?_ | refine xr_nil ?_ | refine k_norm ?_ | refine k_ret ?_ | refine k_exit ?_ | refine b_norm ?_ | refine b_ret ?_ | refine b_exit ?_ | refine b_past (by decide) ?_ | refine xd_nil ?_) | (refine Ty.c103 (args := ?_) (K := ?_) ?_ ?_ ?_; rotate_left 2) | (refine Ty.d103 (args := ?_) (v := ?_) ?_ (by decide +kernel) ?_ ?_; rotate_left 2) | (refine xr_do (v := ?_) (h' := ?_) (by exact rfl) ?_ ?_; rotate_left 2) | (refine xr_st (v := ?_) (h' := ?_) (by exact rfl) ?_ ?_; rotate_left 2) | refine xd_reg (ms := [0, 1, 3, 0, 8, 24, 56, 0, 135, 511]) Ty.mx (by decide +kernel) (by decide +kernel) ?_ | refine xd_reg (ms := [0, 1, 0, 4, 3, 31]) Ty.mx (by decide +kernel) (by decide +kernel) ?_ | (refine xd_do (v := ?_) (by exact rfl) (by decide +kernel) ?_ ?_; rotate_left 1) | (refine xr_g (b := ?_) (by exact rfl) ?_ ?_; rotate_left 1; (· simp only [ev, Zb, reduceIte, Nat.reduceEqDiff, Z8, Z5, *]; rfl)) | (refine xd_g (b := ?_) (by exact rfl) ?_ ?_; rotate_left 1; (· simp only [ev, Zb, reduceIte, Nat.reduceEqDiff, Z8, Z5, *]; rfl)) | (with_reducible first | refine gw_tt ?_ | refine gw_ff ?_ | refine gw_tf ?_ | refine gw_ft ?_ | refine gw_un ?_) | refine gw_if (fun hb => ?_) (fun hb => ?_) | (refine aw_c (b := ?_) (by decide) ?_ ?_; rotate_left 1; (· simp only [ev, Zb, reduceIte, Nat.reduceEqDiff, *]; rfl)) | (with_reducible first | refine cw_t ?_ | refine cw_f ?_) | refine cw_if (fun hb => ?_) (fun hb => ?_) | (refine r_ret (vs := ?_) ?_ ?_; rotate_left 1; (· simp only [resV, ev, Zb, reduceIte, Nat.reduceEqDiff, Zj, *]; rfl)) | ((with_reducible refine anyInt_ok ?_ (fun p => kps.getD p.toNat false) _ _ _ _ _ ?_ ?_ ?_ ?_); rotate_left 1; (· first | assumption | exact Sl.sub ‹_› (by first | assumption | exact Sub.refl _ | exact Sub.app ‹_› _ | exact Sub.app (Sub.refl _) _)); (· exact Ty.ok104); (· first | omega | (simp only [Z2]; omega)); (· first | exact fun p hp => reached1_ok kps p _ _ _ _ (by simp only [Z32, Z2r, Z2q]; rw [← hl1]; rfl) (by simp only [get_at]; rfl) (by have := hri p hp; omega) | exact fun p hp => reached1_ok kps p _ _ _ _ (by simp only [Z32, Z2r, Z2q]; rw [← hl1]; rfl) (by simp only [get_at]; rfl) (by have := hro p hp; omega))) | ((with_reducible refine Z2w ?_); rintro _ _ ⟨rfl, hh⟩; replace hh := hh.symm; subst hh))
          · rw [if_pos (by simpa only [anyAt] using hb)] at hsn
            subst hsn
            refine ⟨by first | assumption | omega, ?_, ?_⟩
            · simp only [Z37, Z38, Z39, implies_true, and_true, ZB, stp, ev, reduceIte, Nat.reduceEqDiff, Z2x, Z13, Zy, *]
            refine ⟨_, rfl, ?_, ?_⟩
            · simp only [Zb, reduceIte, Nat.reduceEqDiff, h10]
            · simp only [Zb, reduceIte, Nat.reduceEqDiff]
              rw [wrap_id (by omega)]; rfl
          · rw [if_neg (by rw [anyAt, hb]; simp)] at hsn
            subst hsn
            refine aw_for [2, 3, 8, 9, 10, 29, 30, 31, 56, 57] (fun i T h' => (∃ (L : Heap), h' = h ++ ⟨2, 1, [.int .i64 P, .slice (some a) n.trans.length c]⟩ :: ⟨2, 1, bools (setAll kps (dl.take i))⟩ :: ⟨2, 1, bools (kts.set k true)⟩ :: ⟨2, 1, [.slice (some ⟨h.length + 1, 0, none⟩) P P]⟩ :: L) ∧ T 58 = .int .i64 i) dl.length (k0 := 0) (Nat.zero_le _) ⟨⟨_, rfl⟩, rfl⟩ ?_
            clear hgk htk
            rintro i T h' hi hR ⟨⟨L, rfl⟩, h58⟩
            simp only [Z37, Z38, Z39, implies_true, and_true, stp, ev, ZB, reduceIte, Nat.reduceEqDiff, Z2x, Z13, Zy] at hR
            rcases Nat.lt_or_ge i dl.length with hin | hin
            · have h1n : (i : Int) < dl.length := by omega
              obtain ⟨ad, rfl, hgp0⟩ := sl_get (e := 1) drow i hin
              rw [Nat.mul_one] at hgp0
              have hgp := fun L => (hI.app L).get hgp0
              have hmem : dl.getD i 0 ∈ dl := by rw [List.getD_eq_getElem?_getD, List.getElem?_eq_getElem hin]; exact List.getElem_mem _
              have hrp := hrd _ hmem
              have hsn := setAll_snoc kps hin
              have hli : dl[i] = dl.getD i 0 := by rw [List.getD_eq_getElem?_getD, List.getElem?_eq_getElem hin]; rfl
              rw [hli] at hsn
              clear hmem hli
              generalize dl.getD i 0 = p at *
              obtain ⟨p, rfl⟩ : ∃ p' : Nat, p = p' := ⟨p.toNat, by omega⟩
              have hp1 : p + 1 ≤ P := by omega
              have hp2 : (p : Int) < P := by omega
              have hpl := setAll_len (dl.take i) kps
              rw [Zq] at hsn
              repeat' (first | ((with_reducible refine eq_go ?_); simp only [stp, ev, ZB, reduceIte, Nat.reduceEqDiff, Z2x, Z13, Zy, binV_bool_neq, binV_bool_eql, Ty.un4, ldv, stv, vcs, fldA, idxA, blt, lenV, Z10, ZH, Zg, Ze, Z14, Zw, Z33, Nat.reduceAdd, Nat.reduceMul, Nat.reduceLeDiff, splice, newB, Ty.t3, Ty.t4, Ty.t61, Ty.t68, Ty.t70, Ty.t86, Ty.t95, Ty.t114, Nat.mul_one, bools_len, List.length_replicate, bools_set, *]; rfl) | (with_reducible first | refine aw_then ?_ | refine aw_skip ?_ | refine aw_ret ?_ | refine aw_exit ?_ | refine aw_block ?_ | refine xr_reg (by decide +kernel) ?_ | refine xr_nil ?_ | refine k_norm ?_ | refine k_ret ?_ | refine k_exit ?_ | refine b_norm ?_ | refine b_ret ?_ | refine b_exit ?_ | refine b_past (by decide) ?_ | refine xd_nil ?_) | (refine Ty.c103 (args := ?_) (K := ?_) ?_ ?_ ?_; rotate_left 2) | (refine Ty.d103 (args := ?_) (v := ?_) ?_ (by decide +kernel) ?_ ?_; rotate_left 2) | (refine xr_do (v := ?_) (h' := ?_) (by exact rfl) ?_ ?_; rotate_left 2) | (refine xr_st (v := ?_) (h' := ?_) (by exact rfl) ?_ ?_; rotate_left 2) | refine xd_reg (ms := [0, 1, 3, 0, 8, 24, 56, 0, 135, 511]) Ty.mx (by decide +kernel) (by decide +kernel) ?_ | refine xd_reg (ms := [0, 1, 0, 4, 3, 31]) Ty.mx (by decide +kernel) (by decide +kernel) ?_ | (refine xd_do (v := ?_) (by exact rfl) (by decide +kernel) ?_ ?_; rotate_left 1) | (refine xr_g (b := ?_) (by exact rfl) ?_ ?_; rotate_left 1; (· simp only [ev, Zb, reduceIte, Nat.reduceEqDiff, Z8, Z5, *]; rfl)) | (refine xd_g (b := ?_) (by exact rfl) ?_ ?_; rotate_left 1; (· simp only [ev, Zb, reduceIte, Nat.reduceEqDiff, Z8, Z5, *]; rfl)) | (with_reducible first | refine gw_tt ?_ | refine gw_ff ?_ | refine gw_tf ?_ | refine gw_ft ?_ | refine gw_un ?_) | refine gw_if (fun hb => ?_) (fun hb => ?_) | (refine aw_c (b := ?_) (by decide) ?_ ?_; rotate_left 1; (· simp only [ev, Zb, reduceIte, Nat.reduceEqDiff, *]; rfl)) | (with_reducible first | refine cw_t ?_ | refine cw_f ?_) | refine cw_if (fun hb => ?_) (fun hb => ?_) | (refine r_ret (vs := ?_) ?_ ?_; rotate_left 1; (· simp only [resV, ev, Zb, reduceIte, Nat.reduceEqDiff, Zj, *]; rfl)) | ((with_reducible refine anyInt_ok ?_ (fun p => kps.getD p.toNat false) _ _ _ _ _ ?_ ?_ ?_ ?_); rotate_left 1; (· first | assumption | exact Sl.sub ‹_› (by first | assumption | exact Sub.refl _ | exact Sub.app ‹_› _ | exact Sub.app (Sub.refl _) _)); (· exact Ty.ok104); (· first | omega | (simp only [Z2]; omega)); (· first | exact fun p hp => reached1_ok kps p _ _ _ _ (by simp only [Z32, Z2r, Z2q]; rw [← hl1]; rfl) (by simp only [get_at]; rfl) (by have := hri p hp; omega) | exact fun p hp => reached1_ok kps p _ _ _ _ (by simp only [Z32, Z2r, Z2q]; rw [← hl1]; rfl) (by simp only [get_at]; rfl) (by have := hro p hp; omega))) | ((with_reducible refine Z2w ?_); rintro _ _ ⟨rfl, hh⟩; replace hh := hh.symm; subst hh))
              refine ⟨by first | assumption | omega, ?_, ?_⟩
              · simp only [Z37, Z38, Z39, implies_true, and_true, ZB, stp, ev, reduceIte, Nat.reduceEqDiff, Z2x, Z13, Zy, *]
              refine ⟨⟨L, by rw [hsn]⟩, ?_⟩
              · simp only [Zb, reduceIte, Nat.reduceEqDiff]
                rw [wrap_id (by omega)]; rfl
            · have h1n : ¬ (i : Int) < dl.length := by omega
              rw [List.take_of_length_le hin]
              repeat' (first | ((with_reducible refine eq_go ?_); simp only [stp, ev, ZB, reduceIte, Nat.reduceEqDiff, Z2x, Z13, Zy, binV_bool_neq, binV_bool_eql, Ty.un4, ldv, stv, vcs, fldA, idxA, blt, lenV, Z10, ZH, Zg, Ze, Z14, Zw, Z33, Nat.reduceAdd, Nat.reduceMul, Nat.reduceLeDiff, splice, newB, Ty.t3, Ty.t4, Ty.t61, Ty.t68, Ty.t70, Ty.t86, Ty.t95, Ty.t114, Nat.mul_one, bools_len, List.length_replicate, bools_set, *]; rfl) | (with_reducible first | refine aw_then ?_ | refine aw_skip ?_ | refine aw_ret ?_ | refine aw_exit ?_ | refine aw_block ?_ | refine xr_reg (by decide +kernel) ?_ | refine xr_nil ?_ | refine k_norm ?_ | refine k_ret ?_ | refine k_exit ?_ | refine b_norm ?_ | refine b_ret ?_ | refine b_exit ?_ | refine b_past (by decide) ?_ | refine xd_nil ?_) | (refine Ty.c103 (args := ?_) (K := ?_) ?_ ?_ ?_; rotate_left 2) | (refine Ty.d103 (args := ?_) (v := ?_) ?_ (by decide +kernel) ?_ ?_; rotate_left 2) | (refine xr_do (v := ?_) (h' := ?_) (by exact rfl) ?_ ?_; rotate_left 2) | (refine xr_st (v := ?_) (h' := ?_) (by exact rfl) ?_ ?_; rotate_left 2) | refine xd_reg (ms := [0, 1, 3, 0, 8, 24, 56, 0, 135, 511]) Ty.mx (by decide +kernel) (by decide +kernel) ?_ | refine xd_reg (ms := [0, 1, 0, 4, 3, 31]) Ty.mx (by decide +kernel) (by decide +kernel) ?_ | (refine xd_do (v := ?_) (by exact rfl) (by decide +kernel) ?_ ?_; rotate_left 1) | (refine xr_g (b := ?_) (by exact rfl) ?_ ?_; rotate_left 1; (· simp only [ev, Zb, reduceIte, Nat.reduceEqDiff, Z8, Z5, *]; rfl)) | (refine xd_g (b := ?_) (by exact rfl) ?_ ?_; rotate_left 1; (· simp only [ev, Zb, reduceIte, Nat.reduceEqDiff, Z8, Z5, *]; rfl)) | (with_reducible first | refine gw_tt ?_ | refine gw_ff ?_ | refine gw_tf ?_ | refine gw_ft ?_ | refine gw_un ?_) | refine gw_if (fun hb => ?_) (fun hb => ?_) | (refine aw_c (b := ?_) (by decide) ?_ ?_; rotate_left 1; (· simp only [ev, Zb, reduceIte, Nat.reduceEqDiff, *]; rfl)) | (with_reducible first | refine cw_t ?_ | refine cw_f ?_) | refine cw_if (fun hb => ?_) (fun hb => ?_) | (refine r_ret (vs := ?_) ?_ ?_; rotate_left 1; (· simp only [resV, ev, Zb, reduceIte, Nat.reduceEqDiff, Zj, *]; rfl)) | ((with_reducible refine anyInt_ok ?_ (fun p => kps.getD p.toNat false) _ _ _ _ _ ?_ ?_ ?_ ?_); rotate_left 1; (· first | assumption | exact Sl.sub ‹_› (by first | assumption | exact Sub.refl _ | exact Sub.app ‹_› _ | exact Sub.app (Sub.refl _) _)); (· exact Ty.ok104); (· first | omega | (simp only [Z2]; omega)); (· first | exact fun p hp => reached1_ok kps p _ _ _ _ (by simp only [Z32, Z2r, Z2q]; rw [← hl1]; rfl) (by simp only [get_at]; rfl) (by have := hri p hp; omega) | exact fun p hp => reached1_ok kps p _ _ _ _ (by simp only [Z32, Z2r, Z2q]; rw [← hl1]; rfl) (by simp only [get_at]; rfl) (by have := hro p hp; omega))) | ((with_reducible refine Z2w ?_); rintro _ _ ⟨rfl, hh⟩; replace hh := hh.symm; subst hh))
              refine ⟨by first | assumption | omega, ?_, ?_⟩
              · simp only [Z37, Z38, Z39, implies_true, and_true, ZB, stp, ev, reduceIte, Nat.reduceEqDiff, Z2x, Z13, Zy, *]
              refine ⟨_, rfl, ?_, ?_⟩
              · simp only [Zb, reduceIte, Nat.reduceEqDiff, hR]
              · simp only [Zb, reduceIte, Nat.reduceEqDiff, hR]
                rw [wrap_id (by omega)]; rfl
    · have h1 : ¬ (k : Int) < n.trans.length := by omega
      obtain rfl : k = n.trans.length := by omega
      repeat' (first | ((with_reducible refine eq_go ?_); simp only [stp, ev, ZB, reduceIte, Nat.reduceEqDiff, Z2x, Z13, Zy, binV_bool_neq, binV_bool_eql, Ty.un4, ldv, stv, vcs, fldA, idxA, blt, lenV, Z10, ZH, Zg, Ze, Z14, Zw, Z33, Nat.reduceAdd, Nat.reduceMul, Nat.reduceLeDiff, splice, newB, Ty.t3, Ty.t4, Ty.t61, Ty.t68, Ty.t70, Ty.t86, Ty.t95, Ty.t114, *]; rfl) | (with_reducible first | refine aw_then ?_ | refine aw_skip ?_ | refine aw_ret ?_ | refine aw_exit ?_ | refine aw_block ?_ | refine xr_reg (by decide +kernel) ?_ | refine xr_nil ?_ | refine k_norm ?_ | refine k_ret ?_ | refine k_exit ?_ | refine b_norm ?_ | refine b_ret ?_ | refine b_exit ?_ | refine b_past (by decide) ?_ | refine xd_nil ?_) | (refine Ty.c103 (args := ?_) (K := ?_) ?_ ?_ ?_; rotate_left 2) | (refine Ty.d103 (args := ?_) (v := ?_) ?_ (by decide +kernel) ?_ ?_; rotate_left 2) | (refine xr_do (v := ?_) (h' := ?_) (by exact rfl) ?_ ?_; rotate_left 2) | (refine xr_st (v := ?_) (h' := ?_) (by exact rfl) ?_ ?_; rotate_left 2) | refine xd_reg (ms := [0, 1, 3, 0, 8, 24, 56, 0, 135, 511]) Ty.mx (by decide +kernel) (by decide +kernel) ?_ | refine xd_reg (ms := [0, 1, 0, 4, 3, 31]) Ty.mx (by decide +kernel) (by decide +kernel) ?_ | (refine xd_do (v := ?_) (by exact rfl) (by decide +kernel) ?_ ?_; rotate_left 1) | (refine xr_g (b := ?_) (by exact rfl) ?_ ?_; rotate_left 1; (· simp only [ev, Zb, reduceIte, Nat.reduceEqDiff, Z8, Z5, *]; rfl)) | (refine xd_g (b := ?_) (by exact rfl) ?_ ?_; rotate_left 1; (· simp only [ev, Zb, reduceIte, Nat.reduceEqDiff, Z8, Z5, *]; rfl)) | (with_reducible first | refine gw_tt ?_ | refine gw_ff ?_ | refine gw_tf ?_ | refine gw_ft ?_ | refine gw_un ?_) | refine gw_if (fun hb => ?_) (fun hb => ?_) | (refine aw_c (b := ?_) (by decide) ?_ ?_; rotate_left 1; (· simp only [ev, Zb, reduceIte, Nat.reduceEqDiff, *]; rfl)) | (with_reducible first | refine cw_t ?_ | refine cw_f ?_) | refine cw_if (fun hb => ?_) (fun hb => ?_) | (refine r_ret (vs := ?_) ?_ ?_; rotate_left 1; (· simp only [resV, ev, Zb, reduceIte, Nat.reduceEqDiff, Zj, *]; rfl)) | ((with_reducible refine anyInt_ok ?_ (fun p => kps.getD p.toNat false) _ _ _ _ _ ?_ ?_ ?_ ?_); rotate_left 1; (· first | assumption | exact Sl.sub ‹_› (by first | assumption | exact Sub.refl _ | exact Sub.app ‹_› _ | exact Sub.app (Sub.refl _) _)); (· exact Ty.ok104); (· first | omega | (simp only [Z2]; omega)); (· first | exact fun p hp => reached1_ok kps p _ _ _ _ (by simp only [Z32, Z2r, Z2q]; rw [← hl1]; rfl) (by simp only [get_at]; rfl) (by have := hri p hp; omega) | exact fun p hp => reached1_ok kps p _ _ _ _ (by simp only [Z32, Z2r, Z2q]; rw [← hl1]; rfl) (by simp only [get_at]; rfl) (by have := hro p hp; omega))) | ((with_reducible refine Z2w ?_); rintro _ _ ⟨rfl, hh⟩; replace hh := hh.symm; subst hh))
      rcases Bool.eq_false_or_eq_true (sweepK back n.trans ⟨ps, ts, false⟩ n.trans.length).ch with hch | hch
      · refine ⟨f + 1, by omega, sweepK back n.trans ⟨ps, ts, false⟩ n.trans.length, f, _, rfl, ?_, by simp only [Zb, reduceIte, Nat.reduceEqDiff, hR, h2, h3, h8, h9], by simp only [Zb, reduceIte, Nat.reduceEqDiff, hR, h2, h3, h8, h9], by simp only [Zb, reduceIte, Nat.reduceEqDiff, hR, h2, h3, h8, h9], by simp only [Zb, reduceIte, Nat.reduceEqDiff, hR, h2, h3, h8, h9], hsl.1.trans hps, hsl.2.trans hts, fun _ => ⟨?_, ?_, by omega⟩, fun q => by rw [hch] at q; cases q⟩
        · simp only [Zb, reduceIte, Nat.reduceEqDiff, h10]
        · rw [reachF, if_pos hch] at hf1; exact hf1
        · have := sweep_cnt back n.trans ⟨ps, ts, false⟩ rfl n.trans.length (by simp only [hts]; omega)
          rw [if_pos hch] at this
          simp only at this; omega
      · refine ⟨0, by omega, sweepK back n.trans ⟨ps, ts, false⟩ n.trans.length, 0, _, rfl, ?_, by simp only [Zb, reduceIte, Nat.reduceEqDiff, hR, h2, h3, h8, h9], by simp only [Zb, reduceIte, Nat.reduceEqDiff, hR, h2, h3, h8, h9], by simp only [Zb, reduceIte, Nat.reduceEqDiff, hR, h2, h3, h8, h9], by simp only [Zb, reduceIte, Nat.reduceEqDiff, hR, h2, h3, h8, h9], hsl.1.trans hps, hsl.2.trans hts, fun q => (by rw [hch] at q; cases q), fun _ => ?_⟩
        · simp only [Zb, reduceIte, Nat.reduceEqDiff, h10]
        · rw [reachF, if_neg (by rw [hch]; simp)] at hf1; exact hf1
end Go.Proofs.Ytmjhfklmlcnofaa.Am
