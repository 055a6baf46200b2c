/- Walks of the smallest functions. Conditions: none. -/
import Derived.Test.YtiddnhhjlipebaaK3
import Derived.Test.YtiddnhhjlipebaaTy
namespace Go.Proofs.Ytiddnhhjlipebaa.Am
open Go Go.Proofs
set_option linter.unusedVariables false
set_option linter.unusedSimpArgs false
set_option maxRecDepth 100000
set_option maxHeartbeats 8000000
theorem within_ok (n lo hi : Int) (h : Heap) : ACalls Try.prog 0 98 #[.int .i64 n, .int .i64 lo, .int .i64 hi] h
    fun v h' => v = .bool (decide (lo ≤ n ∧ n ≤ hi)) ∧ h' = h := by
  refine Z36 Try.func98 rfl Try.ntmps98 (by simp) (by dsimp only [Try.f98]) ?_
  repeat' (first | ((with_reducible refine eq_go ?_); simp only [stp, ev, ZB, reduceIte, Nat.reduceEqDiff, Z2x, Z13, Zy, Ty.t3, *]; rfl) | (with_reducible first | refine aw_then ?_ | refine aw_skip ?_ | refine aw_ret ?_ | refine aw_exit ?_ | refine aw_block ?_ | refine xr_reg (by decide +kernel) ?_ | refine xr_nil ?_ | refine k_norm ?_ | refine k_ret ?_ | refine k_exit ?_ | refine b_norm ?_ | refine b_ret ?_ | refine b_exit ?_ | refine b_past (by decide) ?_) | (refine xr_do (v := ?_) (h' := ?_) (by exact rfl) ?_ ?_; rotate_left 2) | (refine xr_st (v := ?_) (h' := ?_) (by exact rfl) ?_ ?_; rotate_left 2) | (refine xr_g (b := ?_) (by exact rfl) ?_ ?_; rotate_left 1; (· simp only [ev, Zb, reduceIte, Nat.reduceEqDiff, Z8, Z5, *]; rfl)) | (with_reducible first | refine gw_tt ?_ | refine gw_ff ?_ | refine gw_tf ?_ | refine gw_ft ?_ | refine gw_un ?_) | refine gw_if (fun hb => ?_) (fun hb => ?_) | (refine aw_c (b := ?_) (by decide) ?_ ?_; rotate_left 1; (· simp only [ev, Zb, reduceIte, Nat.reduceEqDiff, *]; rfl)) | (with_reducible first | refine cw_t ?_ | refine cw_f ?_) | refine cw_if (fun hb => ?_) (fun hb => ?_) | (refine r_ret (vs := ?_) ?_ ?_; rotate_left 1; (· simp only [resV, ev, Zb, reduceIte, Nat.reduceEqDiff, Zj, *]; rfl)))
  all_goals refine ⟨?_, rfl⟩
  all_goals simp_all [oneOf]
  all_goals omega
theorem allWithin_ok (l : List Int) (lo hi : Int) (h : Heap) (v : Value) (hs : Sl h v 1 (l.map fun n => [.int .i64 n])) (hb : l.length < 9223372036854775807) :
    ACalls Try.prog 0 120 #[v, .int .i64 lo, .int .i64 hi] h
    fun v h' => v = .bool (l.all fun n => decide (lo ≤ n ∧ n ≤ hi)) ∧ h' = h := by
  obtain ⟨b, c, rfl, hc, hrow⟩ := hs
  refine Z36 Try.func120 rfl Try.ntmps120 (by simp) (by dsimp only [Try.f120]) ?_
  repeat' (first | ((with_reducible refine eq_go ?_); simp only [stp, ev, ZB, reduceIte, Nat.reduceEqDiff, Z2x, Z13, Zy, ldv, idxA, blt, lenV, Z10, ZH, Zg, Ze, Z14, Zw, Z33, Nat.reduceAdd, Nat.reduceMul, Nat.reduceLeDiff, splice, newB, vcs, Ty.t3, Ty.t24, *]; rfl) | (with_reducible first | refine aw_then ?_ | refine aw_skip ?_ | refine aw_ret ?_ | refine aw_exit ?_ | refine aw_block ?_ | refine xr_reg (by decide +kernel) ?_ | refine xr_nil ?_ | refine k_norm ?_ | refine k_ret ?_ | refine k_exit ?_ | refine b_norm ?_ | refine b_ret ?_ | refine b_exit ?_ | refine b_past (by decide) ?_) | (refine Ty.c98 (args := ?_) (K := ?_) ?_ ?_ ?_; rotate_left 2) | (refine xr_do (v := ?_) (h' := ?_) (by exact rfl) ?_ ?_; rotate_left 2) | (refine xr_st (v := ?_) (h' := ?_) (by exact rfl) ?_ ?_; rotate_left 2) | (refine aw_c (b := ?_) (by decide) ?_ ?_; rotate_left 1; (· simp only [ev, Zb, reduceIte, Nat.reduceEqDiff, *]; rfl)) | (with_reducible first | refine cw_t ?_ | refine cw_f ?_) | refine cw_if (fun hb => ?_) (fun hb => ?_) | (refine r_ret (vs := ?_) ?_ ?_; rotate_left 1; (· simp only [resV, ev, Zb, reduceIte, Nat.reduceEqDiff, Zj, *]; rfl)) | (with_reducible exact within_ok _ _ _ _) | ((with_reducible refine Z2w ?_); rintro _ _ ⟨rfl, hh⟩; replace hh := hh.symm; subst hh))
  refine aw_for [1, 2, 9, 10] (fun k T h' => h' = h ∧ T 11 = .int .i64 k ∧ (l.take k).all (fun n => decide (lo ≤ n ∧ n ≤ hi)) = true) l.length (k0 := 0) (Nat.zero_le _) ⟨rfl, rfl, rfl⟩ ?_
  rintro k T h' hk hR ⟨rfl, h11, hall⟩
  simp only [Z37, Z38, Z39, implies_true, and_true, stp, ev, ZB, reduceIte, Nat.reduceEqDiff, Z2x, Z13, Zy] at hR
  rcases Nat.lt_or_ge k l.length with hkn | hkn
  · have h1 : (k : Int) < l.length := by omega
    obtain ⟨a, rfl, hl⟩ := Sl.row hrow (k := k) (by simpa using hkn)
    rw [List.getElem_map] at hl
    have hg := getC_of_load hl
    repeat' (first | ((with_reducible refine eq_go ?_); simp only [stp, ev, ZB, reduceIte, Nat.reduceEqDiff, Z2x, Z13, Zy, ldv, idxA, blt, lenV, Z10, ZH, Zg, Ze, Z14, Zw, Z33, Nat.reduceAdd, Nat.reduceMul, Nat.reduceLeDiff, splice, newB, vcs, Ty.t3, Ty.t24, *]; rfl) | (with_reducible first | refine aw_then ?_ | refine aw_skip ?_ | refine aw_ret ?_ | refine aw_exit ?_ | refine aw_block ?_ | refine xr_reg (by decide +kernel) ?_ | refine xr_nil ?_ | refine k_norm ?_ | refine k_ret ?_ | refine k_exit ?_ | refine b_norm ?_ | refine b_ret ?_ | refine b_exit ?_ | refine b_past (by decide) ?_) | (refine Ty.c98 (args := ?_) (K := ?_) ?_ ?_ ?_; rotate_left 2) | (refine xr_do (v := ?_) (h' := ?_) (by exact rfl) ?_ ?_; rotate_left 2) | (refine xr_st (v := ?_) (h' := ?_) (by exact rfl) ?_ ?_; rotate_left 2) | (refine aw_c (b := ?_) (by decide) ?_ ?_; rotate_left 1; (· simp only [ev, Zb, reduceIte, Nat.reduceEqDiff, *]; rfl)) | (with_reducible first | refine cw_t ?_ | refine cw_f ?_) | refine cw_if (fun hb => ?_) (fun hb => ?_) | (refine r_ret (vs := ?_) ?_ ?_; rotate_left 1; (· simp only [resV, ev, Zb, reduceIte, Nat.reduceEqDiff, Zj, *]; rfl)) | (with_reducible exact within_ok _ _ _ _) | ((with_reducible refine Z2w ?_); rintro _ _ ⟨rfl, hh⟩; replace hh := hh.symm; subst hh))
    · simp only [Bool.not_eq_true', decide_eq_false_iff_not] at hb
      refine ⟨?_, rfl⟩
      have : (l.all fun n => decide (lo ≤ n ∧ n ≤ hi)) = false := List.all_eq_false.2 ⟨l[k], List.getElem_mem _, by simpa using hb⟩
      rw [this]; rfl
    refine ⟨by first | assumption | omega, ?_, ?_⟩
    · simp only [Z37, Z38, Z39, implies_true, and_true, ZB, stp, ev, reduceIte, Nat.reduceEqDiff, Z2x, Z13, Zy, *]
    refine ⟨rfl, ?_, ?_⟩
    · simp only [Zb, reduceIte, Nat.reduceEqDiff]
      rw [wrap_id (by omega)]; rfl
    · rw [← List.take_append_getElem hkn, List.all_append, hall]
      simpa using hb
  · have h1 : ¬ (k : Int) < l.length := by omega
    repeat' (first | ((with_reducible refine eq_go ?_); simp only [stp, ev, ZB, reduceIte, Nat.reduceEqDiff, Z2x, Z13, Zy, ldv, idxA, blt, lenV, Z10, ZH, Zg, Ze, Z14, Zw, Z33, Nat.reduceAdd, Nat.reduceMul, Nat.reduceLeDiff, splice, newB, vcs, Ty.t3, Ty.t24, *]; rfl) | (with_reducible first | refine aw_then ?_ | refine aw_skip ?_ | refine aw_ret ?_ | refine aw_exit ?_ | refine aw_block ?_ | refine xr_reg (by decide +kernel) ?_ | refine xr_nil ?_ | refine k_norm ?_ | refine k_ret ?_ | refine k_exit ?_ | refine b_norm ?_ | refine b_ret ?_ | refine b_exit ?_ | refine b_past (by decide) ?_) | (refine Ty.c98 (args := ?_) (K := ?_) ?_ ?_ ?_; rotate_left 2) | (refine xr_do (v := ?_) (h' := ?_) (by exact rfl) ?_ ?_; rotate_left 2) | (refine xr_st (v := ?_) (h' := ?_) (by exact rfl) ?_ ?_; rotate_left 2) | (refine aw_c (b := ?_) (by decide) ?_ ?_; rotate_left 1; (· simp only [ev, Zb, reduceIte, Nat.reduceEqDiff, *]; rfl)) | (with_reducible first | refine cw_t ?_ | refine cw_f ?_) | refine cw_if (fun hb => ?_) (fun hb => ?_) | (refine r_ret (vs := ?_) ?_ ?_; rotate_left 1; (· simp only [resV, ev, Zb, reduceIte, Nat.reduceEqDiff, Zj, *]; rfl)) | (with_reducible exact within_ok _ _ _ _) | ((with_reducible refine Z2w ?_); rintro _ _ ⟨rfl, hh⟩; replace hh := hh.symm; subst hh))
    refine ⟨?_, rfl⟩
    rw [List.take_of_length_le hkn] at hall
    rw [hall]; rfl
end Go.Proofs.Ytiddnhhjlipebaa.Am
namespace Go.Proofs.Ytiddnhhjlipebaa.Am
open Go Go.Proofs
set_option linter.unusedVariables false
set_option linter.unusedSimpArgs false
set_option maxRecDepth 100000
set_option maxHeartbeats 8000000
structure Item where
  cas : Int
  task : Int
  role : Int
  state : Int
  who : Int
  till : Int
def Item.cells (x : Item) : List Value := [.int .i64 x.cas, .int .i64 x.task, .int .i64 x.role, .int .i64 x.state, .int .i64 x.who, .int .i64 x.till]
theorem isOffer_ok (a b c : Int) (h : Heap) : ACalls Try.prog 0 135 #[.int .i64 a, .int .i64 b, .int .i64 c] h
    fun v h' => v = .bool (decide ((0 ≤ a ∧ a ≤ 9) ∧ (0 ≤ b ∧ b ≤ 5) ∧ (0 ≤ c ∧ c ≤ 3))) ∧ h' = h := by
  refine Z36 Try.func135 rfl Try.ntmps135 (by simp) (by dsimp only [Try.f135]) ?_
  repeat' (first | ((with_reducible refine eq_go ?_); simp only [stp, ev, ZB, reduceIte, Nat.reduceEqDiff, Z2x, Z13, Zy, blt, lenV, Z10, Z3, Z2, Zf, Zg, Ze, Z1, Z0, Z14, Zw, Ty.t3, *]; rfl) | (with_reducible first | refine aw_then ?_ | refine aw_skip ?_ | refine aw_ret ?_ | refine aw_exit ?_ | refine aw_block ?_ | refine xr_reg (by decide +kernel) ?_ | refine xr_nil ?_ | refine k_norm ?_ | refine k_ret ?_ | refine k_exit ?_ | refine b_norm ?_ | refine b_ret ?_ | refine b_exit ?_ | refine b_past (by decide) ?_) | (refine Ty.c98 (args := ?_) (K := ?_) ?_ ?_ ?_; rotate_left 2) | (refine xr_do (v := ?_) (h' := ?_) (by exact rfl) ?_ ?_; rotate_left 2) | (refine xr_st (v := ?_) (h' := ?_) (by exact rfl) ?_ ?_; rotate_left 2) | (refine xr_g (b := ?_) (by exact rfl) ?_ ?_; rotate_left 1; (· simp only [ev, Zb, reduceIte, Nat.reduceEqDiff, Z8, Z5, *]; rfl)) | (with_reducible first | refine gw_tt ?_ | refine gw_ff ?_ | refine gw_tf ?_ | refine gw_ft ?_ | refine gw_un ?_) | refine gw_if (fun hb => ?_) (fun hb => ?_) | (refine aw_c (b := ?_) (by decide) ?_ ?_; rotate_left 1; (· simp only [ev, Zb, reduceIte, Nat.reduceEqDiff, *]; rfl)) | (with_reducible first | refine cw_t ?_ | refine cw_f ?_) | refine cw_if (fun hb => ?_) (fun hb => ?_) | (refine r_ret (vs := ?_) ?_ ?_; rotate_left 1; (· simp only [resV, ev, Zb, reduceIte, Nat.reduceEqDiff, Zj, *]; rfl)) | (with_reducible exact within_ok _ _ _ _) | ((with_reducible refine Z2w ?_); rintro _ _ ⟨rfl, hh⟩; replace hh := hh.symm; subst hh))
  all_goals refine ⟨?_, rfl⟩
  all_goals simp_all [oneOf]
  all_goals omega
theorem isPerson_ok (now who : Int) (people : List Int) (vp vi : Value) (h : Heap) (hp : Sl h vp 1 (people.map fun n => [.int .i64 n])) (hl : people.length ≤ 6) (hi : flat vi = true) :
    ACalls Try.prog 0 97 #[.agg #[.int .i64 now, vp, vi], .int .i64 who] h
    fun v h' => v = .bool (decide (0 ≤ who ∧ who ≤ (people.length : Int) - 1)) ∧ h' = h := by
  refine acalls_pure (.inl rfl) ?_
  obtain ⟨b, c, rfl, hc, hrow⟩ := hp
  refine Z36 Try.func97 rfl Try.ntmps97 (by simp) (by dsimp only [Try.f97]) ?_
  repeat' (first | ((with_reducible refine eq_go ?_); simp only [stp, ev, ZB, reduceIte, Nat.reduceEqDiff, Z2x, Z13, Zy, ldv, fldA, blt, lenV, Z10, ZH, Zg, Ze, Z14, Zw, Z33, Nat.reduceAdd, Nat.reduceMul, Nat.reduceLeDiff, splice, newB, vcs, Ty.t3, Ty.t24, Ty.t56, Ty.t58, Ty.t77, *]; rfl) | (with_reducible first | refine aw_then ?_ | refine aw_skip ?_ | refine aw_ret ?_ | refine aw_exit ?_ | refine aw_block ?_ | refine xr_reg (by decide +kernel) ?_ | refine xr_nil ?_ | refine k_norm ?_ | refine k_ret ?_ | refine k_exit ?_ | refine b_norm ?_ | refine b_ret ?_ | refine b_exit ?_ | refine b_past (by decide) ?_) | (refine Ty.c98 (args := ?_) (K := ?_) ?_ ?_ ?_; rotate_left 2) | (refine xr_do (v := ?_) (h' := ?_) (by exact rfl) ?_ ?_; rotate_left 2) | (refine xr_st (v := ?_) (h' := ?_) (by exact rfl) ?_ ?_; rotate_left 2) | (refine aw_c (b := ?_) (by decide) ?_ ?_; rotate_left 1; (· simp only [ev, Zb, reduceIte, Nat.reduceEqDiff, *]; rfl)) | (with_reducible first | refine cw_t ?_ | refine cw_f ?_) | refine cw_if (fun hb => ?_) (fun hb => ?_) | (refine r_ret (vs := ?_) ?_ ?_; rotate_left 1; (· simp only [resV, ev, Zb, reduceIte, Nat.reduceEqDiff, Zj, *]; rfl)) | (with_reducible exact within_ok _ _ _ _) | ((with_reducible refine Z2w ?_); rintro _ _ ⟨rfl, hh⟩; replace hh := hh.symm; subst hh))
  refine ⟨?_, _, rfl⟩
  rw [wrap_id (by omega)]; rfl
def roleM (p role : Int) : Bool := decide (bits .and .i64 (p.fdiv (2 ^ min role.toNat IntKind.i64.bits)) 1 = 1)
theorem hasRole_ok (now who role : Int) (people : List Int) (vp vi : Value) (h : Heap) (hp : Sl h vp 1 (people.map fun n => [.int .i64 n])) (hi : flat vi = true)
    (hw : 0 ≤ who ∧ who ≤ (people.length : Int) - 1) (hr : 0 ≤ role) :
    ACalls Try.prog 0 99 #[.agg #[.int .i64 now, vp, vi], .int .i64 who, .int .i64 role] h
    fun v h' => v = .bool (roleM (people.getD who.toNat 0) role) ∧ h' = h := by
  refine acalls_pure (.inl rfl) ?_
  obtain ⟨k, rfl⟩ : ∃ k : Nat, who = k := ⟨who.toNat, by omega⟩
  have hk : k < people.length := by omega
  have hk1 : (k : Int) < people.length := by omega
  obtain ⟨b, c, rfl, hc, hrow⟩ := hp
  obtain ⟨a, rfl, hl⟩ := Sl.row hrow (k := k) (by simpa using hk)
  rw [List.getElem_map] at hl
  have hg := getC_old (getC_of_load hl)
  clear hrow
  refine Z36 Try.func99 rfl Try.ntmps99 (by simp) (by dsimp only [Try.f99]) ?_
  repeat' (first | ((with_reducible refine eq_go ?_); simp only [stp, ev, ZB, reduceIte, Nat.reduceEqDiff, Z2x, Z13, Zy, ldv, fldA, idxA, ZH, Z33, Nat.reduceAdd, Nat.reduceMul, Nat.reduceLeDiff, splice, newB, vcs, Ty.t3, Ty.t24, Ty.t56, Ty.t58, Ty.t77, *]; rfl) | (with_reducible first | refine aw_then ?_ | refine aw_skip ?_ | refine aw_ret ?_ | refine aw_exit ?_ | refine aw_block ?_ | refine xr_reg (by decide +kernel) ?_ | refine xr_nil ?_ | refine k_norm ?_ | refine k_ret ?_ | refine k_exit ?_ | refine b_norm ?_ | refine b_ret ?_ | refine b_exit ?_ | refine b_past (by decide) ?_) | (refine xr_do (v := ?_) (h' := ?_) (by exact rfl) ?_ ?_; rotate_left 2) | (refine xr_st (v := ?_) (h' := ?_) (by exact rfl) ?_ ?_; rotate_left 2) | (refine aw_c (b := ?_) (by decide) ?_ ?_; rotate_left 1; (· simp only [ev, Zb, reduceIte, Nat.reduceEqDiff, *]; rfl)) | (with_reducible first | refine cw_t ?_ | refine cw_f ?_) | refine cw_if (fun hb => ?_) (fun hb => ?_) | (refine r_ret (vs := ?_) ?_ ?_; rotate_left 1; (· simp only [resV, ev, Zb, reduceIte, Nat.reduceEqDiff, Zj, *]; rfl)))
  refine ⟨?_, _, rfl⟩
  simp only [oneOf, roleM, Zq, List.getD_eq_getElem?_getD, List.getElem?_eq_getElem hk, Z14]
def itemOk (now : Int) (people : List Int) (x : Item) : Bool :=
  decide ((0 ≤ x.cas ∧ x.cas ≤ 9) ∧ (0 ≤ x.task ∧ x.task ≤ 5) ∧ (0 ≤ x.role ∧ x.role ≤ 3)) &&
  (if x.state = 1 ∨ x.state = 5 then decide (x.who = -1 ∧ x.till = 0)
   else if x.state = 2 then decide (now + 1 ≤ x.till ∧ x.till ≤ now + 10) && (decide (0 ≤ x.who ∧ x.who ≤ (people.length : Int) - 1) && roleM (people.getD x.who.toNat 0) x.role)
   else if x.state = 3 ∨ x.state = 4 then decide (x.till = 0) && (decide (0 ≤ x.who ∧ x.who ≤ (people.length : Int) - 1) && roleM (people.getD x.who.toNat 0) x.role)
   else false)
theorem isItem_ok (now : Int) (people : List Int) (vp vi : Value) (x : Item) (h : Heap) (hp : Sl h vp 1 (people.map fun n => [.int .i64 n])) (hl : people.length ≤ 6) (hi : flat vi = true)
    (hn : 0 ≤ now ∧ now ≤ 10000) :
    ACalls Try.prog 0 123 #[.agg #[.int .i64 now, vp, vi], .agg x.cells.toArray] h
    fun v h' => v = .bool (itemOk now people x) ∧ h' = h := by
  refine acalls_pure (.inl rfl) ?_
  obtain ⟨cas, task, role, state, who, till⟩ := x
  have hf := hp.flat
  have hw1 : IntKind.i64.wrap (now + 1) = now + 1 := wrap_id (by omega)
  have hw2 : IntKind.i64.wrap (now + 10) = now + 10 := wrap_id (by omega)
  simp only [Item.cells]
  refine Z36 Try.func123 rfl Try.ntmps123 (by simp) (by dsimp only [Try.f123]) ?_
  repeat' (first | ((with_reducible refine eq_go ?_); simp only [stp, ev, ZB, reduceIte, Nat.reduceEqDiff, Z2x, Z13, Zy, ldv, fldA, blt, lenV, Z10, ZH, Zg, Ze, Z14, Zw, Z33, Nat.reduceAdd, Nat.reduceMul, Nat.reduceLeDiff, splice, newB, vcs, Ty.t3, Ty.t24, Ty.t56, Ty.t58, Ty.t77, *]; rfl) | (with_reducible first | refine aw_then ?_ | refine aw_skip ?_ | refine aw_ret ?_ | refine aw_exit ?_ | refine aw_block ?_ | refine xr_reg (by decide +kernel) ?_ | refine xr_nil ?_ | refine k_norm ?_ | refine k_ret ?_ | refine k_exit ?_ | refine b_norm ?_ | refine b_ret ?_ | refine b_exit ?_ | refine b_past (by decide) ?_) | (refine Ty.c97 (args := ?_) (K := ?_) ?_ ?_ ?_; rotate_left 2) | (refine Ty.c98 (args := ?_) (K := ?_) ?_ ?_ ?_; rotate_left 2) | (refine Ty.c99 (args := ?_) (K := ?_) ?_ ?_ ?_; rotate_left 2) | (refine Ty.c135 (args := ?_) (K := ?_) ?_ ?_ ?_; rotate_left 2) | (refine xr_do (v := ?_) (h' := ?_) (by exact rfl) ?_ ?_; rotate_left 2) | (refine xr_st (v := ?_) (h' := ?_) (by exact rfl) ?_ ?_; rotate_left 2) | (refine xr_g (b := ?_) (by exact rfl) ?_ ?_; rotate_left 1; (· simp only [ev, Zb, reduceIte, Nat.reduceEqDiff, Z8, Z5, *]; rfl)) | (with_reducible first | refine gw_tt ?_ | refine gw_ff ?_ | refine gw_tf ?_ | refine gw_ft ?_ | refine gw_un ?_) | refine gw_if (fun hb => ?_) (fun hb => ?_) | (refine aw_c (b := ?_) (by decide) ?_ ?_; rotate_left 1; (· simp only [ev, Zb, reduceIte, Nat.reduceEqDiff, *]; rfl)) | (with_reducible first | refine cw_t ?_ | refine cw_f ?_) | refine cw_if (fun hb => ?_) (fun hb => ?_) | (refine r_ret (vs := ?_) ?_ ?_; rotate_left 1; (· simp only [resV, ev, Zb, reduceIte, Nat.reduceEqDiff, Zj, *]; rfl)) | ((with_reducible refine isPerson_ok _ _ ?_ _ _ _ ?_ ?_ ?_); rotate_left 1; (· first | assumption | exact Sl.old (by assumption) _); (· assumption); (· assumption)) | (with_reducible exact within_ok _ _ _ _) | ((with_reducible refine hasRole_ok _ _ _ ?_ _ _ _ ?_ ?_ ?_ ?_); rotate_left 1; (· first | assumption | exact Sl.old (by assumption) _); (· assumption); (· grind); (· grind)) | (with_reducible exact isOffer_ok _ _ _ _) | ((with_reducible refine Z2w ?_); rintro _ _ ⟨rfl, hh⟩; replace hh := hh.symm; subst hh))
  all_goals refine ⟨?_, _, rfl⟩
  all_goals clear hp hf hw1 hw2 hi
  all_goals simp only [oneOf, itemOk, Bool.not_eq_true', Bool.not_eq_false', decide_eq_true_eq, decide_eq_false_iff_not] at *
  all_goals first | (exfalso; omega) | skip
  all_goals simp [*]
  all_goals first | omega | (intros; exfalso; omega)
end Go.Proofs.Ytiddnhhjlipebaa.Am
namespace Go.Proofs.Ytiddnhhjlipebaa.Am
open Go Go.Proofs
set_option linter.unusedVariables false
set_option linter.unusedSimpArgs false
set_option maxRecDepth 100000
set_option maxHeartbeats 8000000
def idxOf {α : Type} (p : α → Bool) (l : List α) : Int := match l.findIdx? p with | some i => i | none => -1
theorem idxOf_any {α : Type} (p : α → Bool) (l : List α) : decide (0 ≤ idxOf p l) = l.any p := by
  rw [← List.findIdx?_isSome]
  unfold idxOf
  cases l.findIdx? p with
  | none => rfl
  | some i => simp
theorem Item.cells_length (x : Item) : x.cells.length = 6 := rfl
theorem Item.cells_flat (x : Item) : x.cells.all flat = true := rfl
theorem Item.cells_take (x : Item) : x.cells.take 6 = x.cells := rfl
theorem indexFunc_ok (items : List Item) (p : Item → Bool) (v : Value) (g : FuncId) (fs cs : Array Value) (h : Heap) (hs : Sl h v 6 (items.map Item.cells)) (hg : callOk Try.prog g = true)
    (hl : items.length ≤ 1048576) (hp : ∀ x ∈ items, ACalls Try.prog 0 g (fs ++ #[.agg x.cells.toArray] ++ cs) h fun v h' => v = .bool (p x) ∧ h' = h) :
    ACalls Try.prog 0 134 #[v, .func (.func g) fs cs] h
    fun v h' => v = .int .i64 (idxOf p items) ∧ h' = h := by
  obtain ⟨b, c, rfl, hc, hrow⟩ := hs
  refine Z36 Try.func134 rfl Try.ntmps134 (by simp) (by dsimp only [Try.f134]) ?_
  repeat' (first | ((with_reducible refine eq_go ?_); simp only [stp, ev, ZB, reduceIte, Nat.reduceEqDiff, Z2x, Z13, Zy, ldv, idxA, blt, lenV, Z10, ZH, Zg, Ze, Z14, Zw, Z33, Nat.reduceAdd, Nat.reduceMul, Nat.reduceLeDiff, splice, newB, vcs, Ty.t3, Ty.t56, Ty.t77, *]; rfl) | (with_reducible first | refine aw_then ?_ | refine aw_skip ?_ | refine aw_ret ?_ | refine aw_exit ?_ | refine aw_block ?_ | refine xr_reg (by decide +kernel) ?_ | refine xr_nil ?_ | refine k_norm ?_ | refine k_ret ?_ | refine k_exit ?_ | refine b_norm ?_ | refine b_ret ?_ | refine b_exit ?_ | refine b_past (by decide) ?_) | (refine xr_do (v := ?_) (h' := ?_) (by exact rfl) ?_ ?_; rotate_left 2) | (refine xr_st (v := ?_) (h' := ?_) (by exact rfl) ?_ ?_; rotate_left 2) | (refine aw_c (b := ?_) (by decide) ?_ ?_; rotate_left 1; (· simp only [ev, Zb, reduceIte, Nat.reduceEqDiff, *]; rfl)) | (with_reducible first | refine cw_t ?_ | refine cw_f ?_) | refine cw_if (fun hb => ?_) (fun hb => ?_) | (refine r_ret (vs := ?_) ?_ ?_; rotate_left 1; (· simp only [resV, ev, Zb, reduceIte, Nat.reduceEqDiff, Zj, *]; rfl)))
  refine aw_for [0, 1, 6, 7] (fun k T h' => h' = h ∧ T 8 = .int .i64 k ∧ (items.take k).findIdx? p = none) items.length (k0 := 0) (Nat.zero_le _) ⟨rfl, rfl, rfl⟩ ?_
  rintro k T h' hk hR ⟨rfl, h11, hall⟩
  simp only [Z37, Z38, Z39, implies_true, and_true, stp, ev, ZB, reduceIte, Nat.reduceEqDiff, Z2x, Z13, Zy] at hR
  rcases Nat.lt_or_ge k items.length with hkn | hkn
  · have h1 : (k : Int) < items.length := by omega
    obtain ⟨a, rfl, hld⟩ := Sl.row hrow (k := k) (by simpa using hkn)
    rw [List.getElem_map] at hld
    have hpk := hp items[k] (List.getElem_mem hkn)
    repeat' (first | ((with_reducible refine eq_go ?_); simp only [stp, ev, ZB, reduceIte, Nat.reduceEqDiff, Z2x, Z13, Zy, ldv, idxA, blt, lenV, Z10, ZH, Zg, Ze, Z14, Zw, Z33, Nat.reduceAdd, Nat.reduceMul, Nat.reduceLeDiff, splice, newB, vcs, Ty.t3, Ty.t56, Ty.t77, *]; rfl) | (with_reducible first | refine aw_then ?_ | refine aw_skip ?_ | refine aw_ret ?_ | refine aw_exit ?_ | refine aw_block ?_ | refine xr_reg (by decide +kernel) ?_ | refine xr_nil ?_ | refine k_norm ?_ | refine k_ret ?_ | refine k_exit ?_ | refine b_norm ?_ | refine b_ret ?_ | refine b_exit ?_ | refine b_past (by decide) ?_) | (refine xr_do (v := ?_) (h' := ?_) (by exact rfl) ?_ ?_; rotate_left 2) | (refine xr_st (v := ?_) (h' := ?_) (by exact rfl) ?_ ?_; rotate_left 2) | (refine aw_c (b := ?_) (by decide) ?_ ?_; rotate_left 1; (· simp only [ev, Zb, reduceIte, Nat.reduceEqDiff, *]; rfl)) | (with_reducible first | refine cw_t ?_ | refine cw_f ?_) | refine cw_if (fun hb => ?_) (fun hb => ?_) | (refine r_ret (vs := ?_) ?_ ?_; rotate_left 1; (· simp only [resV, ev, Zb, reduceIte, Nat.reduceEqDiff, Zj, *]; rfl)))
    refine xr_cl (f := g) (fs := fs) (cs := cs) (args := ?_) (K := ?_) ?_ ?_ ?_ ?_ ?_
    rotate_left 2
    · simp only [stp, ev, ZB, reduceIte, Nat.reduceEqDiff, Z2x, Z13, Zy, ldv, idxA, blt, lenV, Z10, ZH, Zg, Ze, Z14, Zw, Z33, Nat.reduceAdd, Nat.reduceMul, Nat.reduceLeDiff, splice, newB, vcs, Ty.t3, Ty.t56, Ty.t77, *]
    · exact hg
    · simp only [stp, ev, ZB, reduceIte, Nat.reduceEqDiff, Z2x, Z13, Zy, ldv, idxA, blt, lenV, Z10, ZH, Zg, Ze, Z14, Zw, Z33, Nat.reduceAdd, Nat.reduceMul, Nat.reduceLeDiff, splice, newB, vcs, Ty.t3, Ty.t56, Ty.t77, *]; rfl
    · exact hpk
    rintro _ _ ⟨rfl, rfl⟩
    repeat' (first | ((with_reducible refine eq_go ?_); simp only [stp, ev, ZB, reduceIte, Nat.reduceEqDiff, Z2x, Z13, Zy, ldv, idxA, blt, lenV, Z10, ZH, Zg, Ze, Z14, Zw, Z33, Nat.reduceAdd, Nat.reduceMul, Nat.reduceLeDiff, splice, newB, vcs, Ty.t3, Ty.t56, Ty.t77, *]; rfl) | (with_reducible first | refine aw_then ?_ | refine aw_skip ?_ | refine aw_ret ?_ | refine aw_exit ?_ | refine aw_block ?_ | refine xr_reg (by decide +kernel) ?_ | refine xr_nil ?_ | refine k_norm ?_ | refine k_ret ?_ | refine k_exit ?_ | refine b_norm ?_ | refine b_ret ?_ | refine b_exit ?_ | refine b_past (by decide) ?_) | (refine xr_do (v := ?_) (h' := ?_) (by exact rfl) ?_ ?_; rotate_left 2) | (refine xr_st (v := ?_) (h' := ?_) (by exact rfl) ?_ ?_; rotate_left 2) | (refine aw_c (b := ?_) (by decide) ?_ ?_; rotate_left 1; (· simp only [ev, Zb, reduceIte, Nat.reduceEqDiff, *]; rfl)) | (with_reducible first | refine cw_t ?_ | refine cw_f ?_) | refine cw_if (fun hb => ?_) (fun hb => ?_) | (refine r_ret (vs := ?_) ?_ ?_; rotate_left 1; (· simp only [resV, ev, Zb, reduceIte, Nat.reduceEqDiff, Zj, *]; rfl)))
    · refine ⟨?_, rfl⟩
      have hb' : p items[k] = true := by simpa using hb
      have : items.findIdx? p = some k := by
        have e : items = items.take k ++ items[k] :: items.drop (k + 1) := by rw [← List.drop_eq_getElem_cons hkn, List.take_append_drop]
        rw [e, List.findIdx?_append, hall, List.findIdx?_cons, hb']
        simp [Nat.min_eq_left (Nat.le_of_lt hkn)]
      simp only [oneOf, idxOf, this]
    refine ⟨by first | assumption | omega, ?_, ?_⟩
    · simp only [Z37, Z38, Z39, implies_true, and_true, ZB, stp, ev, reduceIte, Nat.reduceEqDiff, Z2x, Z13, Zy, *]
    refine ⟨rfl, ?_, ?_⟩
    · simp only [Zb, reduceIte, Nat.reduceEqDiff]
      rw [wrap_id (by omega)]; rfl
    · rw [← List.take_append_getElem hkn, List.findIdx?_append, hall]
      simp [List.findIdx?_cons, hb]
  · have h1 : ¬ (k : Int) < items.length := by omega
    repeat' (first | ((with_reducible refine eq_go ?_); simp only [stp, ev, ZB, reduceIte, Nat.reduceEqDiff, Z2x, Z13, Zy, ldv, idxA, blt, lenV, Z10, ZH, Zg, Ze, Z14, Zw, Z33, Nat.reduceAdd, Nat.reduceMul, Nat.reduceLeDiff, splice, newB, vcs, Ty.t3, Ty.t56, Ty.t77, *]; rfl) | (with_reducible first | refine aw_then ?_ | refine aw_skip ?_ | refine aw_ret ?_ | refine aw_exit ?_ | refine aw_block ?_ | refine xr_reg (by decide +kernel) ?_ | refine xr_nil ?_ | refine k_norm ?_ | refine k_ret ?_ | refine k_exit ?_ | refine b_norm ?_ | refine b_ret ?_ | refine b_exit ?_ | refine b_past (by decide) ?_) | (refine xr_do (v := ?_) (h' := ?_) (by exact rfl) ?_ ?_; rotate_left 2) | (refine xr_st (v := ?_) (h' := ?_) (by exact rfl) ?_ ?_; rotate_left 2) | (refine aw_c (b := ?_) (by decide) ?_ ?_; rotate_left 1; (· simp only [ev, Zb, reduceIte, Nat.reduceEqDiff, *]; rfl)) | (with_reducible first | refine cw_t ?_ | refine cw_f ?_) | refine cw_if (fun hb => ?_) (fun hb => ?_) | (refine r_ret (vs := ?_) ?_ ?_; rotate_left 1; (· simp only [resV, ev, Zb, reduceIte, Nat.reduceEqDiff, Zj, *]; rfl)))
    refine ⟨?_, rfl⟩
    rw [List.take_of_length_le hkn] at hall
    simp only [oneOf, idxOf, hall]
theorem containsFunc_ok (items : List Item) (p : Item → Bool) (v : Value) (g : FuncId) (fs cs : Array Value) (h : Heap) (hs : Sl h v 6 (items.map Item.cells)) (hg : callOk Try.prog g = true)
    (hl : items.length ≤ 1048576) (hp : ∀ x ∈ items, ACalls Try.prog 0 g (fs ++ #[.agg x.cells.toArray] ++ cs) h fun v h' => v = .bool (p x) ∧ h' = h) :
    ACalls Try.prog 0 121 #[v, .func (.func g) fs cs] h
    fun v h' => v = .bool (items.any p) ∧ h' = h := by
  refine Z36 Try.func121 rfl Try.ntmps121 (by simp) (by dsimp only [Try.f121]) ?_
  repeat' (first | ((with_reducible refine eq_go ?_); simp only [stp, ev, ZB, reduceIte, Nat.reduceEqDiff, Z2x, Z13, Zy, blt, lenV, Z10, Z3, Z2, Zf, Zg, Ze, Z1, Z0, Z14, Zw, Ty.t3, Ty.t56, Ty.t77, Ty.t122, *]; rfl) | (with_reducible first | refine aw_then ?_ | refine aw_skip ?_ | refine aw_ret ?_ | refine aw_exit ?_ | refine aw_block ?_ | refine xr_reg (by decide +kernel) ?_ | refine xr_nil ?_ | refine k_norm ?_ | refine k_ret ?_ | refine k_exit ?_ | refine b_norm ?_ | refine b_ret ?_ | refine b_exit ?_ | refine b_past (by decide) ?_) | (refine Ty.c134 (args := ?_) (K := ?_) ?_ ?_ ?_; rotate_left 2) | (refine xr_do (v := ?_) (h' := ?_) (by exact rfl) ?_ ?_; rotate_left 2) | (refine xr_st (v := ?_) (h' := ?_) (by exact rfl) ?_ ?_; rotate_left 2) | (refine aw_c (b := ?_) (by decide) ?_ ?_; rotate_left 1; (· simp only [ev, Zb, reduceIte, Nat.reduceEqDiff, *]; rfl)) | (with_reducible first | refine cw_t ?_ | refine cw_f ?_) | refine cw_if (fun hb => ?_) (fun hb => ?_) | (refine r_ret (vs := ?_) ?_ ?_; rotate_left 1; (· simp only [resV, ev, Zb, reduceIte, Nat.reduceEqDiff, Zj, *]; rfl)) | ((with_reducible refine indexFunc_ok ?_ ?_ _ _ _ _ _ ?_ ?_ ?_ ?_); rotate_left 2; (· first | assumption | exact Sl.old (by assumption) _); (· assumption); (· first | omega | (simp only [Z2]; omega)); (· assumption)) | ((with_reducible refine Z2w ?_); rintro _ _ ⟨rfl, hh⟩; replace hh := hh.symm; subst hh))
  refine ⟨?_, rfl⟩
  rw [idxOf_any]; rfl
theorem isDesk1_ok (now : Int) (people : List Int) (vp vi : Value) (x : Item) (h : Heap) (id : Nat) (hb0 : ∀ l, loadCs (h ++ l) id 0 3 = some [.int .i64 now, vp, vi])
    (hp : Sl h vp 1 (people.map fun n => [.int .i64 n])) (hl : people.length ≤ 6) (hi : flat vi = true) (hn : 0 ≤ now ∧ now ≤ 10000) :
    ACalls Try.prog 0 122 #[.agg x.cells.toArray, .pointer (some ⟨id, 0, none⟩)] h
    fun v h' => v = .bool (!itemOk now people x) ∧ h' = h := by
  refine acalls_pure (.inl rfl) ?_
  refine Z36 Try.func122 rfl Try.ntmps122 (by simp) (by dsimp only [Try.f122]) ?_
  repeat' (first | ((with_reducible refine eq_go ?_); simp only [stp, ev, ZB, reduceIte, Nat.reduceEqDiff, Z2x, Z13, Zy, ldv, blt, lenV, Z10, ZH, Zg, Ze, Z14, Zw, Z33, Nat.reduceAdd, Nat.reduceMul, Nat.reduceLeDiff, splice, newB, vcs, Ty.t3, Ty.t24, Ty.t56, Ty.t58, Ty.t77, Item.cells_length, Item.cells_flat, Item.cells_take, *]; rfl) | (with_reducible first | refine aw_then ?_ | refine aw_skip ?_ | refine aw_ret ?_ | refine aw_exit ?_ | refine aw_block ?_ | refine xr_reg (by decide +kernel) ?_ | refine xr_nil ?_ | refine k_norm ?_ | refine k_ret ?_ | refine k_exit ?_ | refine b_norm ?_ | refine b_ret ?_ | refine b_exit ?_ | refine b_past (by decide) ?_) | (refine Ty.c123 (args := ?_) (K := ?_) ?_ ?_ ?_; rotate_left 2) | (refine xr_do (v := ?_) (h' := ?_) (by exact rfl) ?_ ?_; rotate_left 2) | (refine xr_st (v := ?_) (h' := ?_) (by exact rfl) ?_ ?_; rotate_left 2) | (refine aw_c (b := ?_) (by decide) ?_ ?_; rotate_left 1; (· simp only [ev, Zb, reduceIte, Nat.reduceEqDiff, *]; rfl)) | (with_reducible first | refine cw_t ?_ | refine cw_f ?_) | refine cw_if (fun hb => ?_) (fun hb => ?_) | (refine r_ret (vs := ?_) ?_ ?_; rotate_left 1; (· simp only [resV, ev, Zb, reduceIte, Nat.reduceEqDiff, Zj, *]; rfl)) | ((with_reducible refine isItem_ok _ ?_ _ _ _ _ ?_ ?_ ?_ ?_); rotate_left 1; (· first | assumption | exact Sl.old (by assumption) _); (· assumption); (· assumption); (· first | omega | (simp only [Z2]; omega))) | ((with_reducible refine Z2w ?_); rintro _ _ ⟨rfl, hh⟩; replace hh := hh.symm; subst hh))
  exact ⟨rfl, _, rfl⟩
def deskOk (now : Int) (people : List Int) (items : List Item) : Bool :=
  decide (0 ≤ now ∧ now ≤ 10000) && (decide (1 ≤ (people.length : Int) ∧ (people.length : Int) ≤ 6) && (people.all (fun n => decide (0 ≤ n ∧ n ≤ 15)) &&
    (decide ((items.length : Int) ≤ 40) && items.all (itemOk now people))))
theorem isDesk_ok (now : Int) (people : List Int) (items : List Item) (vp vi : Value) (h : Heap) (hp : Sl h vp 1 (people.map fun n => [.int .i64 n])) (hi : Sl h vi 6 (items.map Item.cells))
    (hl : people.length ≤ 1048576) (hl2 : items.length ≤ 1048576) :
    ACalls Try.prog 0 94 #[.agg #[.int .i64 now, vp, vi]] h
    fun v h' => v = .bool (deskOk now people items) ∧ h' = h := by
  refine acalls_pure (.inl rfl) ?_
  have hp' := hp
  have hi' := hi
  obtain ⟨b, c, rfl, hc, hrow⟩ := hp
  obtain ⟨b2, c2, rfl, hc2, hrow2⟩ := hi
  simp only [Zv] at hp' hi' ⊢
  clear hrow hrow2
  refine Z36 Try.func94 rfl Try.ntmps94 (by simp) (by dsimp only [Try.f94]) ?_
  repeat' (first | ((with_reducible refine eq_go ?_); simp only [stp, ev, ZB, reduceIte, Nat.reduceEqDiff, Z2x, Z13, Zy, ldv, fldA, blt, lenV, Z10, ZH, Zg, Ze, Z14, Zw, Z33, Nat.reduceAdd, Nat.reduceMul, Nat.reduceLeDiff, splice, newB, vcs, Ty.t3, Ty.t24, Ty.t56, Ty.t58, Ty.t77, Ty.t122, *]; rfl) | (with_reducible first | refine aw_then ?_ | refine aw_skip ?_ | refine aw_ret ?_ | refine aw_exit ?_ | refine aw_block ?_ | refine xr_reg (by decide +kernel) ?_ | refine xr_nil ?_ | refine k_norm ?_ | refine k_ret ?_ | refine k_exit ?_ | refine b_norm ?_ | refine b_ret ?_ | refine b_exit ?_ | refine b_past (by decide) ?_) | (refine Ty.c98 (args := ?_) (K := ?_) ?_ ?_ ?_; rotate_left 2) | (refine Ty.c120 (args := ?_) (K := ?_) ?_ ?_ ?_; rotate_left 2) | (refine Ty.c121 (args := ?_) (K := ?_) ?_ ?_ ?_; rotate_left 2) | (refine xr_do (v := ?_) (h' := ?_) (by exact rfl) ?_ ?_; rotate_left 2) | (refine xr_st (v := ?_) (h' := ?_) (by exact rfl) ?_ ?_; rotate_left 2) | (refine xr_g (b := ?_) (by exact rfl) ?_ ?_; rotate_left 1; (· simp only [ev, Zb, reduceIte, Nat.reduceEqDiff, Z8, Z5, *]; rfl)) | (with_reducible first | refine gw_tt ?_ | refine gw_ff ?_ | refine gw_tf ?_ | refine gw_ft ?_ | refine gw_un ?_) | refine gw_if (fun hb => ?_) (fun hb => ?_) | (refine aw_c (b := ?_) (by decide) ?_ ?_; rotate_left 1; (· simp only [ev, Zb, reduceIte, Nat.reduceEqDiff, *]; rfl)) | (with_reducible first | refine cw_t ?_ | refine cw_f ?_) | refine cw_if (fun hb => ?_) (fun hb => ?_) | (refine r_ret (vs := ?_) ?_ ?_; rotate_left 1; (· simp only [resV, ev, Zb, reduceIte, Nat.reduceEqDiff, Zj, *]; rfl)) | (with_reducible exact within_ok _ _ _ _) | ((with_reducible refine allWithin_ok ?_ _ _ _ _ ?_ ?_); rotate_left 1; (· first | assumption | exact Sl.old (by assumption) _); (· first | omega | (simp only [Z2]; omega))) | ((with_reducible refine containsFunc_ok items (fun x => !itemOk now people x) _ _ _ _ _ ?_ ?_ ?_ ?_); (· exact Sl.old hi' _); (· exact Ty.ok122); (· assumption); (· exact fun x hx => isDesk1_ok now people _ _ x _ _ (fun l => by simp only [Z7, Zc, Zd, Z20, Z1q]; rfl) (Sl.old hp' _) (by grind) rfl (by grind))) | ((with_reducible refine Z2w ?_); rintro _ _ ⟨rfl, hh⟩; replace hh := hh.symm; subst hh))
  all_goals refine ⟨?_, _, rfl⟩
  all_goals clear hp' hi'
  all_goals simp only [oneOf, deskOk, List.not_any_eq_all_not, Bool.not_not, *, Bool.true_and, Bool.false_and, Bool.and_false]
theorem deskOk_people {now : Int} {people : List Int} {items : List Item} (h : deskOk now people items = true) : people.length ≤ 6 := by
  simp only [deskOk, Bool.and_eq_true, decide_eq_true_eq] at h
  omega
theorem deskOk_people1 {now : Int} {people : List Int} {items : List Item} (h : deskOk now people items = true) : 1 ≤ people.length := by
  simp only [deskOk, Bool.and_eq_true, decide_eq_true_eq] at h
  omega
end Go.Proofs.Ytiddnhhjlipebaa.Am
namespace Go.Proofs.Ytiddnhhjlipebaa.Am
open Go Go.Proofs
set_option linter.unusedVariables false
set_option linter.unusedSimpArgs false
set_option maxRecDepth 100000
set_option maxHeartbeats 8000000
theorem l1In_ok (n lo hi : Int) (h : Heap) : ACalls Try.prog 0 84 #[.int .i64 n, .int .i64 lo, .int .i64 hi] h
    fun v h' => v = .bool (decide (lo ≤ n ∧ n ≤ hi)) ∧ h' = h := by
  refine Z36 Try.func84 rfl Try.ntmps84 (by simp) (by dsimp only [Try.f84]) ?_
  repeat' (first | ((with_reducible refine eq_go ?_); simp only [stp, ev, ZB, reduceIte, Nat.reduceEqDiff, Z2x, Z13, Zy, Ty.t3, *]; rfl) | (with_reducible first | refine aw_then ?_ | refine aw_skip ?_ | refine aw_ret ?_ | refine aw_exit ?_ | refine aw_block ?_ | refine xr_reg (by decide +kernel) ?_ | refine xr_nil ?_ | refine k_norm ?_ | refine k_ret ?_ | refine k_exit ?_ | refine b_norm ?_ | refine b_ret ?_ | refine b_exit ?_ | refine b_past (by decide) ?_) | (refine xr_do (v := ?_) (h' := ?_) (by exact rfl) ?_ ?_; rotate_left 2) | (refine xr_st (v := ?_) (h' := ?_) (by exact rfl) ?_ ?_; rotate_left 2) | (refine xr_g (b := ?_) (by exact rfl) ?_ ?_; rotate_left 1; (· simp only [ev, Zb, reduceIte, Nat.reduceEqDiff, Z8, Z5, *]; rfl)) | (with_reducible first | refine gw_tt ?_ | refine gw_ff ?_ | refine gw_tf ?_ | refine gw_ft ?_ | refine gw_un ?_) | refine gw_if (fun hb => ?_) (fun hb => ?_) | (refine aw_c (b := ?_) (by decide) ?_ ?_; rotate_left 1; (· simp only [ev, Zb, reduceIte, Nat.reduceEqDiff, *]; rfl)) | (with_reducible first | refine cw_t ?_ | refine cw_f ?_) | refine cw_if (fun hb => ?_) (fun hb => ?_) | (refine r_ret (vs := ?_) ?_ ?_; rotate_left 1; (· simp only [resV, ev, Zb, reduceIte, Nat.reduceEqDiff, Zj, *]; rfl)))
  all_goals refine ⟨?_, rfl⟩
  all_goals simp_all [oneOf]
  all_goals omega
theorem l1All_ok (l : List Int) (lo hi : Int) (h : Heap) (v : Value) (hs : Sl h v 1 (l.map fun n => [.int .i64 n])) (hb : l.length < 9223372036854775807) :
    ACalls Try.prog 0 117 #[v, .int .i64 lo, .int .i64 hi] h
    fun v h' => v = .bool (l.all fun n => decide (lo ≤ n ∧ n ≤ hi)) ∧ h' = h := by
  obtain ⟨b, c, rfl, hc, hrow⟩ := hs
  refine Z36 Try.func117 rfl Try.ntmps117 (by simp) (by dsimp only [Try.f117]) ?_
  repeat' (first | ((with_reducible refine eq_go ?_); simp only [stp, ev, ZB, reduceIte, Nat.reduceEqDiff, Z2x, Z13, Zy, ldv, idxA, blt, lenV, Z10, ZH, Zg, Ze, Z14, Zw, Z33, Nat.reduceAdd, Nat.reduceMul, Nat.reduceLeDiff, splice, newB, vcs, Ty.t3, Ty.t24, *]; rfl) | (with_reducible first | refine aw_then ?_ | refine aw_skip ?_ | refine aw_ret ?_ | refine aw_exit ?_ | refine aw_block ?_ | refine xr_reg (by decide +kernel) ?_ | refine xr_nil ?_ | refine k_norm ?_ | refine k_ret ?_ | refine k_exit ?_ | refine b_norm ?_ | refine b_ret ?_ | refine b_exit ?_ | refine b_past (by decide) ?_) | (refine Ty.c84 (args := ?_) (K := ?_) ?_ ?_ ?_; rotate_left 2) | (refine xr_do (v := ?_) (h' := ?_) (by exact rfl) ?_ ?_; rotate_left 2) | (refine xr_st (v := ?_) (h' := ?_) (by exact rfl) ?_ ?_; rotate_left 2) | (refine aw_c (b := ?_) (by decide) ?_ ?_; rotate_left 1; (· simp only [ev, Zb, reduceIte, Nat.reduceEqDiff, *]; rfl)) | (with_reducible first | refine cw_t ?_ | refine cw_f ?_) | refine cw_if (fun hb => ?_) (fun hb => ?_) | (refine r_ret (vs := ?_) ?_ ?_; rotate_left 1; (· simp only [resV, ev, Zb, reduceIte, Nat.reduceEqDiff, Zj, *]; rfl)) | (with_reducible exact l1In_ok _ _ _ _) | ((with_reducible refine Z2w ?_); rintro _ _ ⟨rfl, hh⟩; replace hh := hh.symm; subst hh))
  refine aw_for [1, 2, 9, 10] (fun k T h' => h' = h ∧ T 11 = .int .i64 k ∧ (l.take k).all (fun n => decide (lo ≤ n ∧ n ≤ hi)) = true) l.length (k0 := 0) (Nat.zero_le _) ⟨rfl, rfl, rfl⟩ ?_
  rintro k T h' hk hR ⟨rfl, h11, hall⟩
  simp only [Z37, Z38, Z39, implies_true, and_true, stp, ev, ZB, reduceIte, Nat.reduceEqDiff, Z2x, Z13, Zy] at hR
  rcases Nat.lt_or_ge k l.length with hkn | hkn
  · have h1 : (k : Int) < l.length := by omega
    obtain ⟨a, rfl, hl⟩ := Sl.row hrow (k := k) (by simpa using hkn)
    rw [List.getElem_map] at hl
    have hg := getC_of_load hl
    repeat' (first | ((with_reducible refine eq_go ?_); simp only [stp, ev, ZB, reduceIte, Nat.reduceEqDiff, Z2x, Z13, Zy, ldv, idxA, blt, lenV, Z10, ZH, Zg, Ze, Z14, Zw, Z33, Nat.reduceAdd, Nat.reduceMul, Nat.reduceLeDiff, splice, newB, vcs, Ty.t3, Ty.t24, *]; rfl) | (with_reducible first | refine aw_then ?_ | refine aw_skip ?_ | refine aw_ret ?_ | refine aw_exit ?_ | refine aw_block ?_ | refine xr_reg (by decide +kernel) ?_ | refine xr_nil ?_ | refine k_norm ?_ | refine k_ret ?_ | refine k_exit ?_ | refine b_norm ?_ | refine b_ret ?_ | refine b_exit ?_ | refine b_past (by decide) ?_) | (refine Ty.c84 (args := ?_) (K := ?_) ?_ ?_ ?_; rotate_left 2) | (refine xr_do (v := ?_) (h' := ?_) (by exact rfl) ?_ ?_; rotate_left 2) | (refine xr_st (v := ?_) (h' := ?_) (by exact rfl) ?_ ?_; rotate_left 2) | (refine aw_c (b := ?_) (by decide) ?_ ?_; rotate_left 1; (· simp only [ev, Zb, reduceIte, Nat.reduceEqDiff, *]; rfl)) | (with_reducible first | refine cw_t ?_ | refine cw_f ?_) | refine cw_if (fun hb => ?_) (fun hb => ?_) | (refine r_ret (vs := ?_) ?_ ?_; rotate_left 1; (· simp only [resV, ev, Zb, reduceIte, Nat.reduceEqDiff, Zj, *]; rfl)) | (with_reducible exact l1In_ok _ _ _ _) | ((with_reducible refine Z2w ?_); rintro _ _ ⟨rfl, hh⟩; replace hh := hh.symm; subst hh))
    · simp only [Bool.not_eq_true', decide_eq_false_iff_not] at hb
      refine ⟨?_, rfl⟩
      have : (l.all fun n => decide (lo ≤ n ∧ n ≤ hi)) = false := List.all_eq_false.2 ⟨l[k], List.getElem_mem _, by simpa using hb⟩
      rw [this]; rfl
    refine ⟨by first | assumption | omega, ?_, ?_⟩
    · simp only [Z37, Z38, Z39, implies_true, and_true, ZB, stp, ev, reduceIte, Nat.reduceEqDiff, Z2x, Z13, Zy, *]
    refine ⟨rfl, ?_, ?_⟩
    · simp only [Zb, reduceIte, Nat.reduceEqDiff]
      rw [wrap_id (by omega)]; rfl
    · rw [← List.take_append_getElem hkn, List.all_append, hall]
      simpa using hb
  · have h1 : ¬ (k : Int) < l.length := by omega
    repeat' (first | ((with_reducible refine eq_go ?_); simp only [stp, ev, ZB, reduceIte, Nat.reduceEqDiff, Z2x, Z13, Zy, ldv, idxA, blt, lenV, Z10, ZH, Zg, Ze, Z14, Zw, Z33, Nat.reduceAdd, Nat.reduceMul, Nat.reduceLeDiff, splice, newB, vcs, Ty.t3, Ty.t24, *]; rfl) | (with_reducible first | refine aw_then ?_ | refine aw_skip ?_ | refine aw_ret ?_ | refine aw_exit ?_ | refine aw_block ?_ | refine xr_reg (by decide +kernel) ?_ | refine xr_nil ?_ | refine k_norm ?_ | refine k_ret ?_ | refine k_exit ?_ | refine b_norm ?_ | refine b_ret ?_ | refine b_exit ?_ | refine b_past (by decide) ?_) | (refine Ty.c84 (args := ?_) (K := ?_) ?_ ?_ ?_; rotate_left 2) | (refine xr_do (v := ?_) (h' := ?_) (by exact rfl) ?_ ?_; rotate_left 2) | (refine xr_st (v := ?_) (h' := ?_) (by exact rfl) ?_ ?_; rotate_left 2) | (refine aw_c (b := ?_) (by decide) ?_ ?_; rotate_left 1; (· simp only [ev, Zb, reduceIte, Nat.reduceEqDiff, *]; rfl)) | (with_reducible first | refine cw_t ?_ | refine cw_f ?_) | refine cw_if (fun hb => ?_) (fun hb => ?_) | (refine r_ret (vs := ?_) ?_ ?_; rotate_left 1; (· simp only [resV, ev, Zb, reduceIte, Nat.reduceEqDiff, Zj, *]; rfl)) | (with_reducible exact l1In_ok _ _ _ _) | ((with_reducible refine Z2w ?_); rintro _ _ ⟨rfl, hh⟩; replace hh := hh.symm; subst hh))
    refine ⟨?_, rfl⟩
    rw [List.take_of_length_le hkn] at hall
    rw [hall]; rfl
theorem l16People_ok (people : List Int) (vp : Value) (h : Heap) (hp : Sl h vp 1 (people.map fun n => [.int .i64 n])) (hl : people.length ≤ 1048576) :
    ACalls Try.prog 0 91 #[vp] h
    fun v h' => v = .bool (decide (1 ≤ (people.length : Int) ∧ (people.length : Int) ≤ 6) && people.all (fun n => decide (0 ≤ n ∧ n ≤ 15))) ∧ h' = h := by
  have hp' := hp
  obtain ⟨b, c, rfl, hc, hrow⟩ := hp
  simp only [Zv] at hp' ⊢
  clear hrow
  refine Z36 Try.func91 rfl Try.ntmps91 (by simp) (by dsimp only [Try.f91]) ?_
  repeat' (first | ((with_reducible refine eq_go ?_); simp only [stp, ev, ZB, reduceIte, Nat.reduceEqDiff, Z2x, Z13, Zy, blt, lenV, Z10, Z3, Z2, Zf, Zg, Ze, Z1, Z0, Z14, Zw, Ty.t3, Ty.t24, *]; rfl) | (with_reducible first | refine aw_then ?_ | refine aw_skip ?_ | refine aw_ret ?_ | refine aw_exit ?_ | refine aw_block ?_ | refine xr_reg (by decide +kernel) ?_ | refine xr_nil ?_ | refine k_norm ?_ | refine k_ret ?_ | refine k_exit ?_ | refine b_norm ?_ | refine b_ret ?_ | refine b_exit ?_ | refine b_past (by decide) ?_) | (refine Ty.c84 (args := ?_) (K := ?_) ?_ ?_ ?_; rotate_left 2) | (refine Ty.c117 (args := ?_) (K := ?_) ?_ ?_ ?_; rotate_left 2) | (refine xr_do (v := ?_) (h' := ?_) (by exact rfl) ?_ ?_; rotate_left 2) | (refine xr_st (v := ?_) (h' := ?_) (by exact rfl) ?_ ?_; rotate_left 2) | (refine xr_g (b := ?_) (by exact rfl) ?_ ?_; rotate_left 1; (· simp only [ev, Zb, reduceIte, Nat.reduceEqDiff, Z8, Z5, *]; rfl)) | (with_reducible first | refine gw_tt ?_ | refine gw_ff ?_ | refine gw_tf ?_ | refine gw_ft ?_ | refine gw_un ?_) | refine gw_if (fun hb => ?_) (fun hb => ?_) | (refine aw_c (b := ?_) (by decide) ?_ ?_; rotate_left 1; (· simp only [ev, Zb, reduceIte, Nat.reduceEqDiff, *]; rfl)) | (with_reducible first | refine cw_t ?_ | refine cw_f ?_) | refine cw_if (fun hb => ?_) (fun hb => ?_) | (refine r_ret (vs := ?_) ?_ ?_; rotate_left 1; (· simp only [resV, ev, Zb, reduceIte, Nat.reduceEqDiff, Zj, *]; rfl)) | (with_reducible exact l1In_ok _ _ _ _) | ((with_reducible refine l1All_ok ?_ _ _ _ _ ?_ ?_); rotate_left 1; (· first | assumption | exact Sl.old (by assumption) _); (· first | omega | (simp only [Z2]; omega))) | ((with_reducible refine Z2w ?_); rintro _ _ ⟨rfl, hh⟩; replace hh := hh.symm; subst hh))
  all_goals refine ⟨?_, rfl⟩
  all_goals simp only [oneOf, *, Bool.true_and, Bool.false_and]
theorem l16Has_ok (who role : Int) (people : List Int) (vp : Value) (h : Heap) (hp : Sl h vp 1 (people.map fun n => [.int .i64 n]))
    (hw : 0 ≤ who ∧ who ≤ (people.length : Int) - 1) (hr : 0 ≤ role ∧ role ≤ 3) :
    ACalls Try.prog 0 96 #[vp, .int .i64 who, .int .i64 role] h
    fun v h' => v = .bool (roleM (people.getD who.toNat 0) role) ∧ h' = h := by
  obtain ⟨k, rfl⟩ : ∃ k : Nat, who = k := ⟨who.toNat, by omega⟩
  have hk : k < people.length := by omega
  have hk1 : (k : Int) < people.length := by omega
  obtain ⟨b, c, rfl, hc, hrow⟩ := hp
  obtain ⟨a, rfl, hl⟩ := Sl.row hrow (k := k) (by simpa using hk)
  rw [List.getElem_map] at hl
  have hg := getC_of_load hl
  have hwr : IntKind.u64.wrap role = role := wrap_u64_id (by omega)
  have hr0 := hr.1
  clear hrow
  refine Z36 Try.func96 rfl Try.ntmps96 (by simp) (by dsimp only [Try.f96]) ?_
  repeat' (first | ((with_reducible refine eq_go ?_); simp only [stp, ev, ZB, reduceIte, Nat.reduceEqDiff, Z2x, Z13, Zy, ldv, conV, idxA, ZH, Z33, Nat.reduceAdd, Nat.reduceMul, Nat.reduceLeDiff, splice, newB, vcs, Ty.t3, Ty.un3, Ty.t24, Ty.un24, Ty.t135, Ty.un135, *]; rfl) | (with_reducible first | refine aw_then ?_ | refine aw_skip ?_ | refine aw_ret ?_ | refine aw_exit ?_ | refine aw_block ?_ | refine xr_reg (by decide +kernel) ?_ | refine xr_nil ?_ | refine k_norm ?_ | refine k_ret ?_ | refine k_exit ?_ | refine b_norm ?_ | refine b_ret ?_ | refine b_exit ?_ | refine b_past (by decide) ?_) | (refine xr_do (v := ?_) (h' := ?_) (by exact rfl) ?_ ?_; rotate_left 2) | (refine xr_st (v := ?_) (h' := ?_) (by exact rfl) ?_ ?_; rotate_left 2) | (refine aw_c (b := ?_) (by decide) ?_ ?_; rotate_left 1; (· simp only [ev, Zb, reduceIte, Nat.reduceEqDiff, *]; rfl)) | (with_reducible first | refine cw_t ?_ | refine cw_f ?_) | refine cw_if (fun hb => ?_) (fun hb => ?_) | (refine r_ret (vs := ?_) ?_ ?_; rotate_left 1; (· simp only [resV, ev, Zb, reduceIte, Nat.reduceEqDiff, Zj, *]; rfl)))
  refine ⟨?_, rfl⟩
  simp only [oneOf, roleM, Zq, List.getD_eq_getElem?_getD, List.getElem?_eq_getElem hk, Z14]
theorem l16Named_ok (x : Item) (h : Heap) : ACalls Try.prog 0 118 #[.agg x.cells.toArray] h
    fun v h' => v = .bool (decide ((0 ≤ x.cas ∧ x.cas ≤ 9) ∧ (0 ≤ x.task ∧ x.task ≤ 5) ∧ (0 ≤ x.role ∧ x.role ≤ 3))) ∧ h' = h := by
  refine acalls_pure (.inl rfl) ?_
  obtain ⟨cas, task, role, state, who, till⟩ := x
  simp only [Item.cells]
  refine Z36 Try.func118 rfl Try.ntmps118 (by simp) (by dsimp only [Try.f118]) ?_
  repeat' (first | ((with_reducible refine eq_go ?_); simp only [stp, ev, ZB, reduceIte, Nat.reduceEqDiff, Z2x, Z13, Zy, ldv, fldA, blt, lenV, Z10, ZH, Zg, Ze, Z14, Zw, Z33, Nat.reduceAdd, Nat.reduceMul, Nat.reduceLeDiff, splice, newB, vcs, Ty.t3, Ty.t77, *]; rfl) | (with_reducible first | refine aw_then ?_ | refine aw_skip ?_ | refine aw_ret ?_ | refine aw_exit ?_ | refine aw_block ?_ | refine xr_reg (by decide +kernel) ?_ | refine xr_nil ?_ | refine k_norm ?_ | refine k_ret ?_ | refine k_exit ?_ | refine b_norm ?_ | refine b_ret ?_ | refine b_exit ?_ | refine b_past (by decide) ?_) | (refine Ty.c84 (args := ?_) (K := ?_) ?_ ?_ ?_; rotate_left 2) | (refine xr_do (v := ?_) (h' := ?_) (by exact rfl) ?_ ?_; rotate_left 2) | (refine xr_st (v := ?_) (h' := ?_) (by exact rfl) ?_ ?_; rotate_left 2) | (refine xr_g (b := ?_) (by exact rfl) ?_ ?_; rotate_left 1; (· simp only [ev, Zb, reduceIte, Nat.reduceEqDiff, Z8, Z5, *]; rfl)) | (with_reducible first | refine gw_tt ?_ | refine gw_ff ?_ | refine gw_tf ?_ | refine gw_ft ?_ | refine gw_un ?_) | refine gw_if (fun hb => ?_) (fun hb => ?_) | (refine aw_c (b := ?_) (by decide) ?_ ?_; rotate_left 1; (· simp only [ev, Zb, reduceIte, Nat.reduceEqDiff, *]; rfl)) | (with_reducible first | refine cw_t ?_ | refine cw_f ?_) | refine cw_if (fun hb => ?_) (fun hb => ?_) | (refine r_ret (vs := ?_) ?_ ?_; rotate_left 1; (· simp only [resV, ev, Zb, reduceIte, Nat.reduceEqDiff, Zj, *]; rfl)) | (with_reducible exact l1In_ok _ _ _ _) | ((with_reducible refine Z2w ?_); rintro _ _ ⟨rfl, hh⟩; replace hh := hh.symm; subst hh))
  all_goals refine ⟨?_, _, rfl⟩
  all_goals simp_all [oneOf]
  all_goals omega
end Go.Proofs.Ytiddnhhjlipebaa.Am
namespace Go.Proofs.Ytiddnhhjlipebaa.Am
open Go Go.Proofs
set_option linter.unusedVariables false
set_option linter.unusedSimpArgs false
set_option maxRecDepth 100000
set_option maxHeartbeats 8000000
theorem Item.get0 (x : Item) : x.cells[0]? = some (.int .i64 x.cas) := rfl
theorem Item.get1 (x : Item) : x.cells[1]? = some (.int .i64 x.task) := rfl
theorem Item.get2 (x : Item) : x.cells[2]? = some (.int .i64 x.role) := rfl
theorem Item.get3 (x : Item) : x.cells[3]? = some (.int .i64 x.state) := rfl
theorem Item.get4 (x : Item) : x.cells[4]? = some (.int .i64 x.who) := rfl
theorem Item.get5 (x : Item) : x.cells[5]? = some (.int .i64 x.till) := rfl
theorem l16Item_ok (now : Int) (people : List Int) (vp vi : Value) (x : Item) (h : Heap) (hp : Sl h vp 1 (people.map fun n => [.int .i64 n])) (hl : people.length ≤ 6) (hi : flat vi = true)
    (hn : 0 ≤ now ∧ now ≤ 10000) :
    ACalls Try.prog 0 92 #[.agg #[.int .i64 now, vp, vi], .agg x.cells.toArray] h
    fun v h' => v = .bool (itemOk now people x) ∧ h' = h := by
  refine acalls_pure (.inl rfl) ?_
  have hw1 : IntKind.i64.wrap (now + 1) = now + 1 := wrap_id (by omega)
  have hw2 : IntKind.i64.wrap (now + 10) = now + 10 := wrap_id (by omega)
  have hw3 : IntKind.i64.wrap ((people.length : Int) - 1) = (people.length : Int) - 1 := wrap_id (by omega)
  have hp' := hp
  obtain ⟨b, c, rfl, hc, hrow⟩ := hp
  simp only [Zv] at hp' ⊢
  clear hrow
  refine Z36 Try.func92 rfl Try.ntmps92 (by simp) (by dsimp only [Try.f92]) ?_
  repeat' (first | ((with_reducible refine eq_go ?_); simp only [stp, ev, ZB, reduceIte, Nat.reduceEqDiff, Z2x, Z13, Zy, ldv, fldA, blt, lenV, Z10, ZH, Zg, Ze, Z14, Zw, Z33, Nat.reduceAdd, Nat.reduceMul, Nat.reduceLeDiff, splice, newB, vcs, Ty.t3, Ty.t24, Ty.t56, Ty.t58, Ty.t77, Item.cells_length, Item.cells_flat, Item.cells_take, Item.get0, Item.get1, Item.get2, Item.get3, Item.get4, Item.get5, *]; rfl) | (with_reducible first | refine aw_then ?_ | refine aw_skip ?_ | refine aw_ret ?_ | refine aw_exit ?_ | refine aw_block ?_ | refine xr_reg (by decide +kernel) ?_ | refine xr_nil ?_ | refine k_norm ?_ | refine k_ret ?_ | refine k_exit ?_ | refine b_norm ?_ | refine b_ret ?_ | refine b_exit ?_ | refine b_past (by decide) ?_) | (refine Ty.c84 (args := ?_) (K := ?_) ?_ ?_ ?_; rotate_left 2) | (refine Ty.c96 (args := ?_) (K := ?_) ?_ ?_ ?_; rotate_left 2) | (refine Ty.c118 (args := ?_) (K := ?_) ?_ ?_ ?_; rotate_left 2) | (refine xr_do (v := ?_) (h' := ?_) (by exact rfl) ?_ ?_; rotate_left 2) | (refine xr_st (v := ?_) (h' := ?_) (by exact rfl) ?_ ?_; rotate_left 2) | (refine xr_g (b := ?_) (by exact rfl) ?_ ?_; rotate_left 1; (· simp only [ev, Zb, reduceIte, Nat.reduceEqDiff, Z8, Z5, *]; rfl)) | (with_reducible first | refine gw_tt ?_ | refine gw_ff ?_ | refine gw_tf ?_ | refine gw_ft ?_ | refine gw_un ?_) | refine gw_if (fun hb => ?_) (fun hb => ?_) | (refine aw_c (b := ?_) (by decide) ?_ ?_; rotate_left 1; (· simp only [ev, Zb, reduceIte, Nat.reduceEqDiff, *]; rfl)) | (with_reducible first | refine cw_t ?_ | refine cw_f ?_) | refine cw_if (fun hb => ?_) (fun hb => ?_) | (refine r_ret (vs := ?_) ?_ ?_; rotate_left 1; (· simp only [resV, ev, Zb, reduceIte, Nat.reduceEqDiff, Zj, *]; rfl)) | (with_reducible exact l1In_ok _ _ _ _) | ((with_reducible refine l16Has_ok _ _ ?_ _ _ ?_ ?_ ?_); rotate_left 1; (· first | assumption | exact Sl.old (by assumption) _); (· grind); (· grind)) | (with_reducible exact l16Named_ok _ _) | ((with_reducible refine Z2w ?_); rintro _ _ ⟨rfl, hh⟩; replace hh := hh.symm; subst hh))
  all_goals refine ⟨?_, _, rfl⟩
  all_goals clear hp' hw1 hw2 hw3 hi
  all_goals simp only [oneOf, itemOk, Bool.not_eq_true', Bool.not_eq_false', decide_eq_true_eq, decide_eq_false_iff_not] at *
  all_goals first | (exfalso; omega) | skip
  all_goals simp [*]
  all_goals first | done | omega | (intros; exfalso; omega) | grind
end Go.Proofs.Ytiddnhhjlipebaa.Am
namespace Go.Proofs.Ytiddnhhjlipebaa.Am
open Go Go.Proofs
set_option linter.unusedVariables false
set_option linter.unusedSimpArgs false
set_option maxRecDepth 100000
set_option maxHeartbeats 8000000
theorem Item.cells_splice (x : Item) (a b c d e f : Value) : splice [a, b, c, d, e, f] 0 x.cells = x.cells := rfl
theorem specGoodDesk_ok (now : Int) (people : List Int) (items : List Item) (vp vi : Value) (h : Heap) (hp : Sl h vp 1 (people.map fun n => [.int .i64 n])) (hi : Sl h vi 6 (items.map Item.cells))
    (hl : people.length ≤ 1048576) (hl2 : items.length ≤ 1048576) :
    ACalls Try.prog 0 40 #[.agg #[.int .i64 now, vp, vi]] h
    fun v h' => v = .bool (deskOk now people items) ∧ h' = h := by
  refine acalls_pure (.inl rfl) ?_
  have hf := hp.flat
  obtain ⟨b2, c2, rfl, hc2, hrow⟩ := hi
  simp only [Zv] at ⊢
  refine Z36 Try.func40 rfl Try.ntmps40 (by simp) (by dsimp only [Try.f40]) ?_
  repeat' (first | ((with_reducible refine eq_go ?_); simp only [stp, ev, ZB, reduceIte, Nat.reduceEqDiff, Z2x, Z13, Zy, ldv, stv, vcs, fldA, idxA, blt, lenV, Z10, ZH, Zg, Ze, Z14, Zw, Z33, Nat.reduceAdd, Nat.reduceMul, Nat.reduceLeDiff, splice, newB, Ty.t3, Ty.t24, Ty.t56, Ty.t58, Ty.t77, *]; rfl) | (with_reducible first | refine aw_then ?_ | refine aw_skip ?_ | refine aw_ret ?_ | refine aw_exit ?_ | refine aw_block ?_ | refine xr_reg (by decide +kernel) ?_ | refine xr_nil ?_ | refine k_norm ?_ | refine k_ret ?_ | refine k_exit ?_ | refine b_norm ?_ | refine b_ret ?_ | refine b_exit ?_ | refine b_past (by decide) ?_) | (refine Ty.c84 (args := ?_) (K := ?_) ?_ ?_ ?_; rotate_left 2) | (refine Ty.c91 (args := ?_) (K := ?_) ?_ ?_ ?_; rotate_left 2) | (refine Ty.c92 (args := ?_) (K := ?_) ?_ ?_ ?_; rotate_left 2) | (refine xr_do (v := ?_) (h' := ?_) (by exact rfl) ?_ ?_; rotate_left 2) | (refine xr_st (v := ?_) (h' := ?_) (by exact rfl) ?_ ?_; rotate_left 2) | (refine xr_g (b := ?_) (by exact rfl) ?_ ?_; rotate_left 1; (· simp only [ev, Zb, reduceIte, Nat.reduceEqDiff, Z8, Z5, *]; rfl)) | (with_reducible first | refine gw_tt ?_ | refine gw_ff ?_ | refine gw_tf ?_ | refine gw_ft ?_ | refine gw_un ?_) | refine gw_if (fun hb => ?_) (fun hb => ?_) | (refine aw_c (b := ?_) (by decide) ?_ ?_; rotate_left 1; (· simp only [ev, Zb, reduceIte, Nat.reduceEqDiff, *]; rfl)) | (with_reducible first | refine cw_t ?_ | refine cw_f ?_) | refine cw_if (fun hb => ?_) (fun hb => ?_) | (refine r_ret (vs := ?_) ?_ ?_; rotate_left 1; (· simp only [resV, ev, Zb, reduceIte, Nat.reduceEqDiff, Zj, *]; rfl)) | (with_reducible exact l1In_ok _ _ _ _) | ((with_reducible refine l16People_ok ?_ _ _ ?_ ?_); rotate_left 1; (· first | assumption | exact Sl.old (by assumption) _); (· first | omega | (simp only [Z2]; omega))) | ((with_reducible refine l16Item_ok _ ?_ _ _ _ _ ?_ ?_ ?_ ?_); rotate_left 1; (· first | assumption | exact Sl.old (by assumption) _); (· first | assumption | omega | grind); (· first | assumption | rfl); (· first | assumption | grind)) | ((with_reducible refine Z2w ?_); rintro _ _ ⟨rfl, hh⟩; replace hh := hh.symm; subst hh))
  · refine ⟨?_, _, rfl⟩
    simp only [Bool.not_eq_true'] at hb
    simp only [oneOf, deskOk, hb, Bool.false_and]
  · refine ⟨?_, _, rfl⟩
    rename_i hb0
    simp only [Bool.not_eq_true', Bool.not_eq_false'] at hb hb0
    simp only [oneOf, deskOk, hb0, Bool.true_and, ← Bool.and_assoc, hb, Bool.false_and]
  · refine ⟨?_, _, rfl⟩
    have h40 : decide ((items.length : Int) ≤ 40) = false := by simp only [decide_eq_true_eq, decide_eq_false_iff_not] at hb ⊢; omega
    simp only [oneOf, deskOk, h40, Bool.false_and, Bool.and_false]
  refine aw_for [1, 22, 23] (fun k T h' => (∃ L, h' = h ++ (⟨2, 1, [.int .i64 now, vp, .slice b2 items.length c2]⟩ :: L)) ∧ T 24 = .int .i64 k ∧ (items.take k).all (itemOk now people) = true) items.length (k0 := 0) (Nat.zero_le _) ⟨⟨[], rfl⟩, rfl, rfl⟩ ?_
  rintro k T h' hk hR ⟨⟨L, rfl⟩, h11, hall⟩
  simp only [Z37, Z38, Z39, implies_true, and_true, stp, ev, ZB, reduceIte, Nat.reduceEqDiff, Z2x, Z13, Zy] at hR
  rcases Nat.lt_or_ge k items.length with hkn | hkn
  · have h1 : (k : Int) < items.length := by omega
    obtain ⟨a, rfl, hld0⟩ := Sl.row hrow (k := k) (by simpa using hkn)
    rw [List.getElem_map] at hld0
    have hld := loadCs_old hld0
    repeat' (first | ((with_reducible refine eq_go ?_); simp only [stp, ev, ZB, reduceIte, Nat.reduceEqDiff, Z2x, Z13, Zy, ldv, stv, vcs, fldA, idxA, blt, lenV, Z10, ZH, Zg, Ze, Z14, Zw, Z33, Nat.reduceAdd, Nat.reduceMul, Nat.reduceLeDiff, splice, newB, Ty.t3, Ty.t24, Ty.t56, Ty.t58, Ty.t77, Item.cells_length, Item.cells_flat, Item.cells_take, Item.cells_splice, *]; rfl) | (with_reducible first | refine aw_then ?_ | refine aw_skip ?_ | refine aw_ret ?_ | refine aw_exit ?_ | refine aw_block ?_ | refine xr_reg (by decide +kernel) ?_ | refine xr_nil ?_ | refine k_norm ?_ | refine k_ret ?_ | refine k_exit ?_ | refine b_norm ?_ | refine b_ret ?_ | refine b_exit ?_ | refine b_past (by decide) ?_) | (refine Ty.c84 (args := ?_) (K := ?_) ?_ ?_ ?_; rotate_left 2) | (refine Ty.c91 (args := ?_) (K := ?_) ?_ ?_ ?_; rotate_left 2) | (refine Ty.c92 (args := ?_) (K := ?_) ?_ ?_ ?_; rotate_left 2) | (refine xr_do (v := ?_) (h' := ?_) (by exact rfl) ?_ ?_; rotate_left 2) | (refine xr_st (v := ?_) (h' := ?_) (by exact rfl) ?_ ?_; rotate_left 2) | (refine xr_g (b := ?_) (by exact rfl) ?_ ?_; rotate_left 1; (· simp only [ev, Zb, reduceIte, Nat.reduceEqDiff, Z8, Z5, *]; rfl)) | (with_reducible first | refine gw_tt ?_ | refine gw_ff ?_ | refine gw_tf ?_ | refine gw_ft ?_ | refine gw_un ?_) | refine gw_if (fun hb => ?_) (fun hb => ?_) | (refine aw_c (b := ?_) (by decide) ?_ ?_; rotate_left 1; (· simp only [ev, Zb, reduceIte, Nat.reduceEqDiff, *]; rfl)) | (with_reducible first | refine cw_t ?_ | refine cw_f ?_) | refine cw_if (fun hb => ?_) (fun hb => ?_) | (refine r_ret (vs := ?_) ?_ ?_; rotate_left 1; (· simp only [resV, ev, Zb, reduceIte, Nat.reduceEqDiff, Zj, *]; rfl)) | (with_reducible exact l1In_ok _ _ _ _) | ((with_reducible refine l16People_ok ?_ _ _ ?_ ?_); rotate_left 1; (· first | assumption | exact Sl.old (by assumption) _); (· first | omega | (simp only [Z2]; omega))) | ((with_reducible refine l16Item_ok _ ?_ _ _ _ _ ?_ ?_ ?_ ?_); rotate_left 1; (· first | assumption | exact Sl.old (by assumption) _); (· first | assumption | omega | grind); (· first | assumption | rfl); (· first | assumption | grind)) | ((with_reducible refine Z2w ?_); rintro _ _ ⟨rfl, hh⟩; replace hh := hh.symm; subst hh))
    · refine ⟨?_, _, rfl⟩
      have hx : items.all (itemOk now people) = false := List.all_eq_false.2 ⟨items[k], List.getElem_mem _, by simpa using hb⟩
      simp only [oneOf, deskOk, hx, Bool.and_false]
    refine ⟨by first | assumption | omega, ?_, ?_⟩
    · simp only [Z37, Z38, Z39, implies_true, and_true, ZB, stp, ev, reduceIte, Nat.reduceEqDiff, Z2x, Z13, Zy, *]
    refine ⟨⟨_, rfl⟩, ?_, ?_⟩
    · simp only [Zb, reduceIte, Nat.reduceEqDiff]
      rw [wrap_id (by omega)]; rfl
    · rw [← List.take_append_getElem hkn, List.all_append, hall]
      simpa using hb
  · have h1 : ¬ (k : Int) < items.length := by omega
    repeat' (first | ((with_reducible refine eq_go ?_); simp only [stp, ev, ZB, reduceIte, Nat.reduceEqDiff, Z2x, Z13, Zy, ldv, stv, vcs, fldA, idxA, blt, lenV, Z10, ZH, Zg, Ze, Z14, Zw, Z33, Nat.reduceAdd, Nat.reduceMul, Nat.reduceLeDiff, splice, newB, Ty.t3, Ty.t24, Ty.t56, Ty.t58, Ty.t77, Item.cells_length, Item.cells_flat, Item.cells_take, Item.cells_splice, *]; rfl) | (with_reducible first | refine aw_then ?_ | refine aw_skip ?_ | refine aw_ret ?_ | refine aw_exit ?_ | refine aw_block ?_ | refine xr_reg (by decide +kernel) ?_ | refine xr_nil ?_ | refine k_norm ?_ | refine k_ret ?_ | refine k_exit ?_ | refine b_norm ?_ | refine b_ret ?_ | refine b_exit ?_ | refine b_past (by decide) ?_) | (refine Ty.c84 (args := ?_) (K := ?_) ?_ ?_ ?_; rotate_left 2) | (refine Ty.c91 (args := ?_) (K := ?_) ?_ ?_ ?_; rotate_left 2) | (refine Ty.c92 (args := ?_) (K := ?_) ?_ ?_ ?_; rotate_left 2) | (refine xr_do (v := ?_) (h' := ?_) (by exact rfl) ?_ ?_; rotate_left 2) | (refine xr_st (v := ?_) (h' := ?_) (by exact rfl) ?_ ?_; rotate_left 2) | (refine xr_g (b := ?_) (by exact rfl) ?_ ?_; rotate_left 1; (· simp only [ev, Zb, reduceIte, Nat.reduceEqDiff, Z8, Z5, *]; rfl)) | (with_reducible first | refine gw_tt ?_ | refine gw_ff ?_ | refine gw_tf ?_ | refine gw_ft ?_ | refine gw_un ?_) | refine gw_if (fun hb => ?_) (fun hb => ?_) | (refine aw_c (b := ?_) (by decide) ?_ ?_; rotate_left 1; (· simp only [ev, Zb, reduceIte, Nat.reduceEqDiff, *]; rfl)) | (with_reducible first | refine cw_t ?_ | refine cw_f ?_) | refine cw_if (fun hb => ?_) (fun hb => ?_) | (refine r_ret (vs := ?_) ?_ ?_; rotate_left 1; (· simp only [resV, ev, Zb, reduceIte, Nat.reduceEqDiff, Zj, *]; rfl)) | (with_reducible exact l1In_ok _ _ _ _) | ((with_reducible refine l16People_ok ?_ _ _ ?_ ?_); rotate_left 1; (· first | assumption | exact Sl.old (by assumption) _); (· first | omega | (simp only [Z2]; omega))) | ((with_reducible refine l16Item_ok _ ?_ _ _ _ _ ?_ ?_ ?_ ?_); rotate_left 1; (· first | assumption | exact Sl.old (by assumption) _); (· first | assumption | omega | grind); (· first | assumption | rfl); (· first | assumption | grind)) | ((with_reducible refine Z2w ?_); rintro _ _ ⟨rfl, hh⟩; replace hh := hh.symm; subst hh))
    refine ⟨?_, _, rfl⟩
    rename_i q1 q2
    have q3 := hb
    rw [List.take_of_length_le hkn] at hall
    simp only [Bool.not_eq_false', decide_eq_false_iff_not] at q1 q2 q3
    have h40 : decide ((items.length : Int) ≤ 40) = true := by simp only [decide_eq_true_eq]; omega
    rw [Bool.and_eq_true] at q2
    simp only [oneOf, deskOk, h40, q1, q2.1, q2.2, hall, Z1d]
end Go.Proofs.Ytiddnhhjlipebaa.Am
namespace Go.Proofs.Ytiddnhhjlipebaa.Am
open Go Go.Proofs
set_option linter.unusedVariables false
set_option linter.unusedSimpArgs false
set_option maxRecDepth 100000
set_option maxHeartbeats 8000000
abbrev ints (l : List Int) : List (List Value) := l.map fun n => [.int .i64 n]
theorem take_ne {α : Type} {l1 l2 : List α} {k : Nat} (h1 : k < l1.length) (h2 : k < l2.length) (h : l1[k] ≠ l2[k]) : l1 ≠ l2 := by
  rintro rfl; exact h rfl
theorem take_snoc {α : Type} {l1 l2 : List α} {k : Nat} (h1 : k < l1.length) (h2 : k < l2.length) (ht : l1.take k = l2.take k) (h : l1[k] = l2[k]) : l1.take (k + 1) = l2.take (k + 1) := by
  rw [← List.take_append_getElem h1, ← List.take_append_getElem h2, ht, h]
instance Item.dec : DecidableEq Item := fun a b =>
  decidable_of_iff (a.cas = b.cas ∧ a.task = b.task ∧ a.role = b.role ∧ a.state = b.state ∧ a.who = b.who ∧ a.till = b.till) (by
    cases a; cases b; simp)
end Go.Proofs.Ytiddnhhjlipebaa.Am
namespace Go.Proofs.Ytiddnhhjlipebaa.Am
open Go Go.Proofs
set_option linter.unusedVariables false
set_option linter.unusedSimpArgs false
set_option maxRecDepth 100000
set_option maxHeartbeats 8000000
theorem ints_len (l : List Int) : ∀ r ∈ ints l, r.length = 1 := by
  intro r hr; obtain ⟨n, _, rfl⟩ := List.mem_map.1 hr; rfl
theorem sl_ints {h : Heap} {k c : Nat} {sp : Option Nat} {l : List Int} {L : Heap} (hc : l.length ≤ c) (hb : L[k]? = some ⟨2, 1, (ints l).flatten⟩) : Sl (h ++ L) (.slice (some ⟨h.length + k, 0, sp⟩) l.length c) 1 (l.map fun n => [.int .i64 n]) :=
  sl_at hb (ints_len l) (Zv _).symm hc
theorem sl_ints0 {h : Heap} {c : Nat} {sp : Option Nat} {l : List Int} {L : Heap} (hc : l.length ≤ c) (hb : L[0]? = some ⟨2, 1, (ints l).flatten⟩) : Sl (h ++ L) (.slice (some ⟨h.length, 0, sp⟩) l.length c) 1 (l.map fun n => [.int .i64 n]) := sl_ints (k := 0) hc hb
theorem sl_nilints {h : Heap} : Sl h (.slice none 0 0) 1 (([] : List Int).map fun n => [.int .i64 n]) := Sl.nil h 1
theorem items_len (l : List Item) : ∀ r ∈ l.map Item.cells, r.length = 6 := by
  intro r hr; obtain ⟨n, _, rfl⟩ := List.mem_map.1 hr; rfl
theorem sl_items {h : Heap} {k c : Nat} {sp : Option Nat} {l : List Item} {L : Heap} (hc : l.length ≤ c) (hb : L[k]? = some ⟨2, 6, (l.map Item.cells).flatten⟩) : Sl (h ++ L) (.slice (some ⟨h.length + k, 0, sp⟩) l.length c) 6 (l.map Item.cells) :=
  sl_at hb (items_len l) (Zv _).symm hc
theorem sl_items0 {h : Heap} {c : Nat} {sp : Option Nat} {l : List Item} {L : Heap} (hc : l.length ≤ c) (hb : L[0]? = some ⟨2, 6, (l.map Item.cells).flatten⟩) : Sl (h ++ L) (.slice (some ⟨h.length, 0, sp⟩) l.length c) 6 (l.map Item.cells) := sl_items (k := 0) hc hb
theorem sl_nilitems {h : Heap} : Sl h (.slice none 0 0) 6 (([] : List Item).map Item.cells) := Sl.nil h 6
theorem ints_flen (l : List Int) : (ints l).flatten.length = l.length * 1 := by rw [length_flatten_rows _ (ints_len l), List.length_map]
theorem items_flen (l : List Item) : (l.map Item.cells).flatten.length = l.length * 6 := by rw [length_flatten_rows _ (items_len l), List.length_map]
/-- A desk's copy: its value, and the blocks that it leaves. -/
def deskV (n : Nat) (now : Int) (people : List Int) (items : List Item) : Value :=
  .agg #[.int .i64 now, .slice (some ⟨n + 3, 0, none⟩) people.length people.length, .slice (some ⟨n + 4, 0, none⟩) items.length items.length]
def deskL (n : Nat) (now : Int) (vp vi : Value) (people : List Int) (items : List Item) : Heap :=
  [⟨2, 1, [.int .i64 now, vp, vi]⟩,
   ⟨2, 1, [.int .i64 now, .slice (some ⟨n + 3, 0, none⟩) people.length people.length, .slice (some ⟨n + 4, 0, none⟩) items.length items.length]⟩,
   ⟨2, 1, [.int .i64 now, .slice (some ⟨n + 3, 0, none⟩) people.length people.length, .slice (some ⟨n + 4, 0, none⟩) items.length items.length]⟩,
   ⟨2, 1, (ints people).flatten⟩, ⟨2, 6, (items.map Item.cells).flatten⟩]
/-! ### the copy's parts -/
end Go.Proofs.Ytiddnhhjlipebaa.Am
namespace Go.Proofs.Ytiddnhhjlipebaa.Am
open Go Go.Proofs
set_option linter.unusedVariables false
set_option linter.unusedSimpArgs false
set_option maxRecDepth 100000
set_option maxHeartbeats 8000000
def hasRoleOk (now : Int) (people : List Int) (items : List Item) (who role : Int) : Bool :=
  deskOk now people items && decide (0 ≤ who ∧ who ≤ (people.length : Int) - 1) && decide (0 ≤ role ∧ role ≤ 3)
def hasRoleV (now : Int) (people : List Int) (items : List Item) (who role : Int) : Value :=
  .tuple #[.bool (hasRoleOk now people items who role && roleM (people.getD who.toNat 0) role), .bool (hasRoleOk now people items who role)]
theorem implHasRole_ok (now who role : Int) (people : List Int) (items : List Item) (vp vi : Value) (h : Heap) (hp : Sl h vp 1 (people.map fun n => [.int .i64 n])) (hi : Sl h vi 6 (items.map Item.cells))
    (hl : people.length ≤ 1048576) (hl2 : items.length ≤ 1048576) :
    ACalls Try.prog 0 45 #[.agg #[.int .i64 now, vp, vi], .int .i64 who, .int .i64 role] h
    fun v h' => v = hasRoleV now people items who role ∧ h' = h := by
  refine acalls_pure (.inr ⟨_, rfl, by simp [af, af1]⟩) ?_
  have hf := hp.flat
  have hf2 := hi.flat
  rcases Bool.eq_false_or_eq_true (deskOk now people items) with hk | hk
  · have h6 := deskOk_people hk
    by_cases hw : 0 ≤ who ∧ who ≤ (people.length : Int) - 1
    · by_cases hr : 0 ≤ role ∧ role ≤ 3
      · have hr0 := hr.1
        have hw1 : decide (0 ≤ who ∧ who ≤ (people.length : Int) - 1) = true := decide_eq_true hw
        have hr1 : decide (0 ≤ role ∧ role ≤ 3) = true := decide_eq_true hr
        refine Z36 Try.func45 rfl Try.ntmps45 (by simp) (by dsimp only [Try.f45]) ?_
        repeat' (first | ((with_reducible refine eq_go ?_); simp only [stp, ev, ZB, reduceIte, Nat.reduceEqDiff, Z2x, Z13, Zy, ldv, blt, lenV, Z10, ZH, Zg, Ze, Z14, Zw, Z33, Nat.reduceAdd, Nat.reduceMul, Nat.reduceLeDiff, splice, newB, vcs, Ty.t3, Ty.t24, Ty.t56, Ty.t58, Ty.t77, *]; rfl) | (with_reducible first | refine aw_then ?_ | refine aw_skip ?_ | refine aw_ret ?_ | refine aw_exit ?_ | refine aw_block ?_ | refine xr_reg (by decide +kernel) ?_ | refine xr_nil ?_ | refine k_norm ?_ | refine k_ret ?_ | refine k_exit ?_ | refine b_norm ?_ | refine b_ret ?_ | refine b_exit ?_ | refine b_past (by decide) ?_) | (refine Ty.c94 (args := ?_) (K := ?_) ?_ ?_ ?_; rotate_left 2) | (refine Ty.c97 (args := ?_) (K := ?_) ?_ ?_ ?_; rotate_left 2) | (refine Ty.c98 (args := ?_) (K := ?_) ?_ ?_ ?_; rotate_left 2) | (refine Ty.c99 (args := ?_) (K := ?_) ?_ ?_ ?_; rotate_left 2) | (refine xr_do (v := ?_) (h' := ?_) (by exact rfl) ?_ ?_; rotate_left 2) | (refine xr_st (v := ?_) (h' := ?_) (by exact rfl) ?_ ?_; rotate_left 2) | (refine xr_g (b := ?_) (by exact rfl) ?_ ?_; rotate_left 1; (· simp only [ev, Zb, reduceIte, Nat.reduceEqDiff, Z8, Z5, *]; rfl)) | (with_reducible first | refine gw_tt ?_ | refine gw_ff ?_ | refine gw_tf ?_ | refine gw_ft ?_ | refine gw_un ?_) | refine gw_if (fun hb => ?_) (fun hb => ?_) | (refine aw_c (b := ?_) (by decide) ?_ ?_; rotate_left 1; (· simp only [ev, Zb, reduceIte, Nat.reduceEqDiff, *]; rfl)) | (with_reducible first | refine cw_t ?_ | refine cw_f ?_) | refine cw_if (fun hb => ?_) (fun hb => ?_) | (refine r_ret (vs := ?_) ?_ ?_; rotate_left 1; (· simp only [resV, ev, Zb, reduceIte, Nat.reduceEqDiff, Zj, *]; rfl)) | ((with_reducible refine isDesk_ok _ ?_ ?_ _ _ _ ?_ ?_ ?_ ?_); rotate_left 2; (· first | assumption | exact Sl.old (by assumption) _ | ((try (simp only [deskV, deskL, Z11, Z12, Z1y, Z1h, Za, Z9, Z7, Zc, Zd, Z6, Z3, Z2, Zf, Zi, Nat.reduceAdd, Zh])); first | exact Sl.old (by assumption) _ | exact sl_nilints | exact sl_nilitems | (refine sl_ints (Z4 _) ?_; exact rfl) | (refine sl_items (Z4 _) ?_; exact rfl) | (refine sl_ints0 (Z4 _) ?_; exact rfl) | (refine sl_items0 (Z4 _) ?_; exact rfl))); (· first | assumption | exact Sl.old (by assumption) _ | ((try (simp only [deskV, deskL, Z11, Z12, Z1y, Z1h, Za, Z9, Z7, Zc, Zd, Z6, Z3, Z2, Zf, Zi, Nat.reduceAdd, Zh])); first | exact Sl.old (by assumption) _ | exact sl_nilints | exact sl_nilitems | (refine sl_ints (Z4 _) ?_; exact rfl) | (refine sl_items (Z4 _) ?_; exact rfl) | (refine sl_ints0 (Z4 _) ?_; exact rfl) | (refine sl_items0 (Z4 _) ?_; exact rfl))); (· first | omega | (simp only [Z2]; omega)); (· first | omega | (simp only [Z2]; omega))) | ((with_reducible refine isPerson_ok _ _ ?_ _ _ _ ?_ ?_ ?_); rotate_left 1; (· first | assumption | exact Sl.old (by assumption) _); (· assumption); (· assumption)) | (with_reducible exact within_ok _ _ _ _) | ((with_reducible refine hasRole_ok _ _ _ ?_ _ _ _ ?_ ?_ ?_ ?_); rotate_left 1; (· first | assumption | exact Sl.old (by assumption) _); (· assumption); (· grind); (· grind)) | ((with_reducible refine Z2w ?_); rintro _ _ ⟨rfl, hh⟩; replace hh := hh.symm; subst hh))
        all_goals refine ⟨?_, _, rfl⟩
        all_goals simp only [oneOf, hasRoleV, hasRoleOk, hk, hw1, hr1, Bool.true_and, Z1d, Bool.false_and, Bool.and_false]
      · have hw1 : decide (0 ≤ who ∧ who ≤ (people.length : Int) - 1) = true := decide_eq_true hw
        have hr1 : decide (0 ≤ role ∧ role ≤ 3) = false := decide_eq_false hr
        clear hr
        refine Z36 Try.func45 rfl Try.ntmps45 (by simp) (by dsimp only [Try.f45]) ?_
        repeat' (first | ((with_reducible refine eq_go ?_); simp only [stp, ev, ZB, reduceIte, Nat.reduceEqDiff, Z2x, Z13, Zy, ldv, blt, lenV, Z10, ZH, Zg, Ze, Z14, Zw, Z33, Nat.reduceAdd, Nat.reduceMul, Nat.reduceLeDiff, splice, newB, vcs, Ty.t3, Ty.t24, Ty.t56, Ty.t58, Ty.t77, *]; rfl) | (with_reducible first | refine aw_then ?_ | refine aw_skip ?_ | refine aw_ret ?_ | refine aw_exit ?_ | refine aw_block ?_ | refine xr_reg (by decide +kernel) ?_ | refine xr_nil ?_ | refine k_norm ?_ | refine k_ret ?_ | refine k_exit ?_ | refine b_norm ?_ | refine b_ret ?_ | refine b_exit ?_ | refine b_past (by decide) ?_) | (refine Ty.c94 (args := ?_) (K := ?_) ?_ ?_ ?_; rotate_left 2) | (refine Ty.c97 (args := ?_) (K := ?_) ?_ ?_ ?_; rotate_left 2) | (refine Ty.c98 (args := ?_) (K := ?_) ?_ ?_ ?_; rotate_left 2) | (refine Ty.c99 (args := ?_) (K := ?_) ?_ ?_ ?_; rotate_left 2) | (refine xr_do (v := ?_) (h' := ?_) (by exact rfl) ?_ ?_; rotate_left 2) | (refine xr_st (v := ?_) (h' := ?_) (by exact rfl) ?_ ?_; rotate_left 2) | (refine xr_g (b := ?_) (by exact rfl) ?_ ?_; rotate_left 1; (· simp only [ev, Zb, reduceIte, Nat.reduceEqDiff, Z8, Z5, *]; rfl)) | (with_reducible first | refine gw_tt ?_ | refine gw_ff ?_ | refine gw_tf ?_ | refine gw_ft ?_ | refine gw_un ?_) | refine gw_if (fun hb => ?_) (fun hb => ?_) | (refine aw_c (b := ?_) (by decide) ?_ ?_; rotate_left 1; (· simp only [ev, Zb, reduceIte, Nat.reduceEqDiff, *]; rfl)) | (with_reducible first | refine cw_t ?_ | refine cw_f ?_) | refine cw_if (fun hb => ?_) (fun hb => ?_) | (refine r_ret (vs := ?_) ?_ ?_; rotate_left 1; (· simp only [resV, ev, Zb, reduceIte, Nat.reduceEqDiff, Zj, *]; rfl)) | ((with_reducible refine isDesk_ok _ ?_ ?_ _ _ _ ?_ ?_ ?_ ?_); rotate_left 2; (· first | assumption | exact Sl.old (by assumption) _ | ((try (simp only [deskV, deskL, Z11, Z12, Z1y, Z1h, Za, Z9, Z7, Zc, Zd, Z6, Z3, Z2, Zf, Zi, Nat.reduceAdd, Zh])); first | exact Sl.old (by assumption) _ | exact sl_nilints | exact sl_nilitems | (refine sl_ints (Z4 _) ?_; exact rfl) | (refine sl_items (Z4 _) ?_; exact rfl) | (refine sl_ints0 (Z4 _) ?_; exact rfl) | (refine sl_items0 (Z4 _) ?_; exact rfl))); (· first | assumption | exact Sl.old (by assumption) _ | ((try (simp only [deskV, deskL, Z11, Z12, Z1y, Z1h, Za, Z9, Z7, Zc, Zd, Z6, Z3, Z2, Zf, Zi, Nat.reduceAdd, Zh])); first | exact Sl.old (by assumption) _ | exact sl_nilints | exact sl_nilitems | (refine sl_ints (Z4 _) ?_; exact rfl) | (refine sl_items (Z4 _) ?_; exact rfl) | (refine sl_ints0 (Z4 _) ?_; exact rfl) | (refine sl_items0 (Z4 _) ?_; exact rfl))); (· first | omega | (simp only [Z2]; omega)); (· first | omega | (simp only [Z2]; omega))) | ((with_reducible refine isPerson_ok _ _ ?_ _ _ _ ?_ ?_ ?_); rotate_left 1; (· first | assumption | exact Sl.old (by assumption) _); (· assumption); (· assumption)) | (with_reducible exact within_ok _ _ _ _) | ((with_reducible refine hasRole_ok _ _ _ ?_ _ _ _ ?_ ?_ ?_ ?_); rotate_left 1; (· first | assumption | exact Sl.old (by assumption) _); (· assumption); (· grind); (· grind)) | ((with_reducible refine Z2w ?_); rintro _ _ ⟨rfl, hh⟩; replace hh := hh.symm; subst hh))
        all_goals refine ⟨?_, _, rfl⟩
        all_goals simp only [oneOf, hasRoleV, hasRoleOk, hk, hw1, hr1, Bool.true_and, Z1d, Bool.false_and, Bool.and_false]
    · have hw1 : decide (0 ≤ who ∧ who ≤ (people.length : Int) - 1) = false := decide_eq_false hw
      clear hw
      refine Z36 Try.func45 rfl Try.ntmps45 (by simp) (by dsimp only [Try.f45]) ?_
      repeat' (first | ((with_reducible refine eq_go ?_); simp only [stp, ev, ZB, reduceIte, Nat.reduceEqDiff, Z2x, Z13, Zy, ldv, blt, lenV, Z10, ZH, Zg, Ze, Z14, Zw, Z33, Nat.reduceAdd, Nat.reduceMul, Nat.reduceLeDiff, splice, newB, vcs, Ty.t3, Ty.t24, Ty.t56, Ty.t58, Ty.t77, *]; rfl) | (with_reducible first | refine aw_then ?_ | refine aw_skip ?_ | refine aw_ret ?_ | refine aw_exit ?_ | refine aw_block ?_ | refine xr_reg (by decide +kernel) ?_ | refine xr_nil ?_ | refine k_norm ?_ | refine k_ret ?_ | refine k_exit ?_ | refine b_norm ?_ | refine b_ret ?_ | refine b_exit ?_ | refine b_past (by decide) ?_) | (refine Ty.c94 (args := ?_) (K := ?_) ?_ ?_ ?_; rotate_left 2) | (refine Ty.c97 (args := ?_) (K := ?_) ?_ ?_ ?_; rotate_left 2) | (refine Ty.c98 (args := ?_) (K := ?_) ?_ ?_ ?_; rotate_left 2) | (refine Ty.c99 (args := ?_) (K := ?_) ?_ ?_ ?_; rotate_left 2) | (refine xr_do (v := ?_) (h' := ?_) (by exact rfl) ?_ ?_; rotate_left 2) | (refine xr_st (v := ?_) (h' := ?_) (by exact rfl) ?_ ?_; rotate_left 2) | (refine xr_g (b := ?_) (by exact rfl) ?_ ?_; rotate_left 1; (· simp only [ev, Zb, reduceIte, Nat.reduceEqDiff, Z8, Z5, *]; rfl)) | (with_reducible first | refine gw_tt ?_ | refine gw_ff ?_ | refine gw_tf ?_ | refine gw_ft ?_ | refine gw_un ?_) | refine gw_if (fun hb => ?_) (fun hb => ?_) | (refine aw_c (b := ?_) (by decide) ?_ ?_; rotate_left 1; (· simp only [ev, Zb, reduceIte, Nat.reduceEqDiff, *]; rfl)) | (with_reducible first | refine cw_t ?_ | refine cw_f ?_) | refine cw_if (fun hb => ?_) (fun hb => ?_) | (refine r_ret (vs := ?_) ?_ ?_; rotate_left 1; (· simp only [resV, ev, Zb, reduceIte, Nat.reduceEqDiff, Zj, *]; rfl)) | ((with_reducible refine isDesk_ok _ ?_ ?_ _ _ _ ?_ ?_ ?_ ?_); rotate_left 2; (· first | assumption | exact Sl.old (by assumption) _ | ((try (simp only [deskV, deskL, Z11, Z12, Z1y, Z1h, Za, Z9, Z7, Zc, Zd, Z6, Z3, Z2, Zf, Zi, Nat.reduceAdd, Zh])); first | exact Sl.old (by assumption) _ | exact sl_nilints | exact sl_nilitems | (refine sl_ints (Z4 _) ?_; exact rfl) | (refine sl_items (Z4 _) ?_; exact rfl) | (refine sl_ints0 (Z4 _) ?_; exact rfl) | (refine sl_items0 (Z4 _) ?_; exact rfl))); (· first | assumption | exact Sl.old (by assumption) _ | ((try (simp only [deskV, deskL, Z11, Z12, Z1y, Z1h, Za, Z9, Z7, Zc, Zd, Z6, Z3, Z2, Zf, Zi, Nat.reduceAdd, Zh])); first | exact Sl.old (by assumption) _ | exact sl_nilints | exact sl_nilitems | (refine sl_ints (Z4 _) ?_; exact rfl) | (refine sl_items (Z4 _) ?_; exact rfl) | (refine sl_ints0 (Z4 _) ?_; exact rfl) | (refine sl_items0 (Z4 _) ?_; exact rfl))); (· first | omega | (simp only [Z2]; omega)); (· first | omega | (simp only [Z2]; omega))) | ((with_reducible refine isPerson_ok _ _ ?_ _ _ _ ?_ ?_ ?_); rotate_left 1; (· first | assumption | exact Sl.old (by assumption) _); (· assumption); (· assumption)) | (with_reducible exact within_ok _ _ _ _) | ((with_reducible refine hasRole_ok _ _ _ ?_ _ _ _ ?_ ?_ ?_ ?_); rotate_left 1; (· first | assumption | exact Sl.old (by assumption) _); (· assumption); (· grind); (· grind)) | ((with_reducible refine Z2w ?_); rintro _ _ ⟨rfl, hh⟩; replace hh := hh.symm; subst hh))
      all_goals refine ⟨?_, _, rfl⟩
      all_goals simp only [oneOf, hasRoleV, hasRoleOk, hk, hw1, Bool.true_and, Z1d, Bool.false_and, Bool.and_false]
  · skip
    refine Z36 Try.func45 rfl Try.ntmps45 (by simp) (by dsimp only [Try.f45]) ?_
    repeat' (first | ((with_reducible refine eq_go ?_); simp only [stp, ev, ZB, reduceIte, Nat.reduceEqDiff, Z2x, Z13, Zy, ldv, blt, lenV, Z10, ZH, Zg, Ze, Z14, Zw, Z33, Nat.reduceAdd, Nat.reduceMul, Nat.reduceLeDiff, splice, newB, vcs, Ty.t3, Ty.t24, Ty.t56, Ty.t58, Ty.t77, *]; rfl) | (with_reducible first | refine aw_then ?_ | refine aw_skip ?_ | refine aw_ret ?_ | refine aw_exit ?_ | refine aw_block ?_ | refine xr_reg (by decide +kernel) ?_ | refine xr_nil ?_ | refine k_norm ?_ | refine k_ret ?_ | refine k_exit ?_ | refine b_norm ?_ | refine b_ret ?_ | refine b_exit ?_ | refine b_past (by decide) ?_) | (refine Ty.c94 (args := ?_) (K := ?_) ?_ ?_ ?_; rotate_left 2) | (refine Ty.c97 (args := ?_) (K := ?_) ?_ ?_ ?_; rotate_left 2) | (refine Ty.c98 (args := ?_) (K := ?_) ?_ ?_ ?_; rotate_left 2) | (refine Ty.c99 (args := ?_) (K := ?_) ?_ ?_ ?_; rotate_left 2) | (refine xr_do (v := ?_) (h' := ?_) (by exact rfl) ?_ ?_; rotate_left 2) | (refine xr_st (v := ?_) (h' := ?_) (by exact rfl) ?_ ?_; rotate_left 2) | (refine xr_g (b := ?_) (by exact rfl) ?_ ?_; rotate_left 1; (· simp only [ev, Zb, reduceIte, Nat.reduceEqDiff, Z8, Z5, *]; rfl)) | (with_reducible first | refine gw_tt ?_ | refine gw_ff ?_ | refine gw_tf ?_ | refine gw_ft ?_ | refine gw_un ?_) | refine gw_if (fun hb => ?_) (fun hb => ?_) | (refine aw_c (b := ?_) (by decide) ?_ ?_; rotate_left 1; (· simp only [ev, Zb, reduceIte, Nat.reduceEqDiff, *]; rfl)) | (with_reducible first | refine cw_t ?_ | refine cw_f ?_) | refine cw_if (fun hb => ?_) (fun hb => ?_) | (refine r_ret (vs := ?_) ?_ ?_; rotate_left 1; (· simp only [resV, ev, Zb, reduceIte, Nat.reduceEqDiff, Zj, *]; rfl)) | ((with_reducible refine isDesk_ok _ ?_ ?_ _ _ _ ?_ ?_ ?_ ?_); rotate_left 2; (· first | assumption | exact Sl.old (by assumption) _ | ((try (simp only [deskV, deskL, Z11, Z12, Z1y, Z1h, Za, Z9, Z7, Zc, Zd, Z6, Z3, Z2, Zf, Zi, Nat.reduceAdd, Zh])); first | exact Sl.old (by assumption) _ | exact sl_nilints | exact sl_nilitems | (refine sl_ints (Z4 _) ?_; exact rfl) | (refine sl_items (Z4 _) ?_; exact rfl) | (refine sl_ints0 (Z4 _) ?_; exact rfl) | (refine sl_items0 (Z4 _) ?_; exact rfl))); (· first | assumption | exact Sl.old (by assumption) _ | ((try (simp only [deskV, deskL, Z11, Z12, Z1y, Z1h, Za, Z9, Z7, Zc, Zd, Z6, Z3, Z2, Zf, Zi, Nat.reduceAdd, Zh])); first | exact Sl.old (by assumption) _ | exact sl_nilints | exact sl_nilitems | (refine sl_ints (Z4 _) ?_; exact rfl) | (refine sl_items (Z4 _) ?_; exact rfl) | (refine sl_ints0 (Z4 _) ?_; exact rfl) | (refine sl_items0 (Z4 _) ?_; exact rfl))); (· first | omega | (simp only [Z2]; omega)); (· first | omega | (simp only [Z2]; omega))) | ((with_reducible refine isPerson_ok _ _ ?_ _ _ _ ?_ ?_ ?_); rotate_left 1; (· first | assumption | exact Sl.old (by assumption) _); (· assumption); (· assumption)) | (with_reducible exact within_ok _ _ _ _) | ((with_reducible refine hasRole_ok _ _ _ ?_ _ _ _ ?_ ?_ ?_ ?_); rotate_left 1; (· first | assumption | exact Sl.old (by assumption) _); (· assumption); (· grind); (· grind)) | ((with_reducible refine Z2w ?_); rintro _ _ ⟨rfl, hh⟩; replace hh := hh.symm; subst hh))
    all_goals refine ⟨?_, _, rfl⟩
    all_goals simp only [oneOf, hasRoleV, hasRoleOk, hk, Bool.true_and, Z1d, Bool.false_and, Bool.and_false]
theorem specHasRole_ok (now who role : Int) (people : List Int) (items : List Item) (vp vi : Value) (h : Heap) (hp : Sl h vp 1 (people.map fun n => [.int .i64 n])) (hi : Sl h vi 6 (items.map Item.cells))
    (hl : people.length ≤ 1048576) (hl2 : items.length ≤ 1048576) :
    ACalls Try.prog 0 44 #[.agg #[.int .i64 now, vp, vi], .int .i64 who, .int .i64 role] h
    fun v h' => v = hasRoleV now people items who role ∧ h' = h := by
  refine acalls_pure (.inr ⟨_, rfl, by simp [af, af1]⟩) ?_
  have hf := hp.flat
  have hf2 := hi.flat
  have hw : IntKind.i64.wrap ((people.length : Int) - 1) = (people.length : Int) - 1 := wrap_id (by omega)
  obtain ⟨pb, pc, rfl, hc, hrow⟩ := id hp
  simp only [Zv] at hc hp hf ⊢
  rcases Bool.eq_false_or_eq_true (deskOk now people items) with hk | hk
  · have h6 := deskOk_people hk
    by_cases hwq : 0 ≤ who ∧ who ≤ (people.length : Int) - 1
    · by_cases hr : 0 ≤ role ∧ role ≤ 3
      · have hr0 := hr.1
        have hw1 : decide (0 ≤ who ∧ who ≤ (people.length : Int) - 1) = true := decide_eq_true hwq
        have hr1 : decide (0 ≤ role ∧ role ≤ 3) = true := decide_eq_true hr
        clear hwq hr hr0
        refine Z36 Try.func44 rfl Try.ntmps44 (by simp) (by dsimp only [Try.f44]) ?_
        repeat' (first | ((with_reducible refine eq_go ?_); simp only [stp, ev, ZB, reduceIte, Nat.reduceEqDiff, Z2x, Z13, Zy, ldv, fldA, blt, lenV, Z10, ZH, Zg, Ze, Z14, Zw, Z33, Nat.reduceAdd, Nat.reduceMul, Nat.reduceLeDiff, splice, newB, vcs, Ty.t3, Ty.t24, Ty.t56, Ty.t58, Ty.t77, *]; rfl) | (with_reducible first | refine aw_then ?_ | refine aw_skip ?_ | refine aw_ret ?_ | refine aw_exit ?_ | refine aw_block ?_ | refine xr_reg (by decide +kernel) ?_ | refine xr_nil ?_ | refine k_norm ?_ | refine k_ret ?_ | refine k_exit ?_ | refine b_norm ?_ | refine b_ret ?_ | refine b_exit ?_ | refine b_past (by decide) ?_) | (refine Ty.c40 (args := ?_) (K := ?_) ?_ ?_ ?_; rotate_left 2) | (refine Ty.c84 (args := ?_) (K := ?_) ?_ ?_ ?_; rotate_left 2) | (refine Ty.c96 (args := ?_) (K := ?_) ?_ ?_ ?_; rotate_left 2) | (refine xr_do (v := ?_) (h' := ?_) (by exact rfl) ?_ ?_; rotate_left 2) | (refine xr_st (v := ?_) (h' := ?_) (by exact rfl) ?_ ?_; rotate_left 2) | (refine xr_g (b := ?_) (by exact rfl) ?_ ?_; rotate_left 1; (· simp only [ev, Zb, reduceIte, Nat.reduceEqDiff, Z8, Z5, *]; rfl)) | (with_reducible first | refine gw_tt ?_ | refine gw_ff ?_ | refine gw_tf ?_ | refine gw_ft ?_ | refine gw_un ?_) | refine gw_if (fun hb => ?_) (fun hb => ?_) | (refine aw_c (b := ?_) (by decide) ?_ ?_; rotate_left 1; (· simp only [ev, Zb, reduceIte, Nat.reduceEqDiff, *]; rfl)) | (with_reducible first | refine cw_t ?_ | refine cw_f ?_) | refine cw_if (fun hb => ?_) (fun hb => ?_) | (refine r_ret (vs := ?_) ?_ ?_; rotate_left 1; (· simp only [resV, ev, Zb, reduceIte, Nat.reduceEqDiff, Zj, *]; rfl)) | ((with_reducible refine specGoodDesk_ok _ ?_ ?_ _ _ _ ?_ ?_ ?_ ?_); rotate_left 2; (· first | assumption | exact Sl.old (by assumption) _ | ((try (simp only [deskV, deskL, Z11, Z12, Z1y, Z1h, Za, Z9, Z7, Zc, Zd, Z6, Z3, Z2, Zf, Zi, Nat.reduceAdd, Zh])); first | exact Sl.old (by assumption) _ | exact sl_nilints | exact sl_nilitems | (refine sl_ints (Z4 _) ?_; exact rfl) | (refine sl_items (Z4 _) ?_; exact rfl) | (refine sl_ints0 (Z4 _) ?_; exact rfl) | (refine sl_items0 (Z4 _) ?_; exact rfl))); (· first | assumption | exact Sl.old (by assumption) _ | ((try (simp only [deskV, deskL, Z11, Z12, Z1y, Z1h, Za, Z9, Z7, Zc, Zd, Z6, Z3, Z2, Zf, Zi, Nat.reduceAdd, Zh])); first | exact Sl.old (by assumption) _ | exact sl_nilints | exact sl_nilitems | (refine sl_ints (Z4 _) ?_; exact rfl) | (refine sl_items (Z4 _) ?_; exact rfl) | (refine sl_ints0 (Z4 _) ?_; exact rfl) | (refine sl_items0 (Z4 _) ?_; exact rfl))); (· first | omega | (simp only [Z2]; omega)); (· first | omega | (simp only [Z2]; omega))) | (with_reducible exact l1In_ok _ _ _ _) | ((with_reducible refine l16Has_ok _ _ ?_ _ _ ?_ ?_ ?_); rotate_left 1; (· first | assumption | exact Sl.old (by assumption) _); (· grind); (· grind)) | ((with_reducible refine Z2w ?_); rintro _ _ ⟨rfl, hh⟩; replace hh := hh.symm; subst hh))
        all_goals refine ⟨?_, _, rfl⟩
        all_goals simp only [oneOf, hasRoleV, hasRoleOk, hk, hw1, hr1, Bool.true_and, Z1d, Bool.false_and, Bool.and_false]
      · have hw1 : decide (0 ≤ who ∧ who ≤ (people.length : Int) - 1) = true := decide_eq_true hwq
        have hr1 : decide (0 ≤ role ∧ role ≤ 3) = false := decide_eq_false hr
        clear hr
        refine Z36 Try.func44 rfl Try.ntmps44 (by simp) (by dsimp only [Try.f44]) ?_
        repeat' (first | ((with_reducible refine eq_go ?_); simp only [stp, ev, ZB, reduceIte, Nat.reduceEqDiff, Z2x, Z13, Zy, ldv, fldA, blt, lenV, Z10, ZH, Zg, Ze, Z14, Zw, Z33, Nat.reduceAdd, Nat.reduceMul, Nat.reduceLeDiff, splice, newB, vcs, Ty.t3, Ty.t24, Ty.t56, Ty.t58, Ty.t77, *]; rfl) | (with_reducible first | refine aw_then ?_ | refine aw_skip ?_ | refine aw_ret ?_ | refine aw_exit ?_ | refine aw_block ?_ | refine xr_reg (by decide +kernel) ?_ | refine xr_nil ?_ | refine k_norm ?_ | refine k_ret ?_ | refine k_exit ?_ | refine b_norm ?_ | refine b_ret ?_ | refine b_exit ?_ | refine b_past (by decide) ?_) | (refine Ty.c40 (args := ?_) (K := ?_) ?_ ?_ ?_; rotate_left 2) | (refine Ty.c84 (args := ?_) (K := ?_) ?_ ?_ ?_; rotate_left 2) | (refine Ty.c96 (args := ?_) (K := ?_) ?_ ?_ ?_; rotate_left 2) | (refine xr_do (v := ?_) (h' := ?_) (by exact rfl) ?_ ?_; rotate_left 2) | (refine xr_st (v := ?_) (h' := ?_) (by exact rfl) ?_ ?_; rotate_left 2) | (refine xr_g (b := ?_) (by exact rfl) ?_ ?_; rotate_left 1; (· simp only [ev, Zb, reduceIte, Nat.reduceEqDiff, Z8, Z5, *]; rfl)) | (with_reducible first | refine gw_tt ?_ | refine gw_ff ?_ | refine gw_tf ?_ | refine gw_ft ?_ | refine gw_un ?_) | refine gw_if (fun hb => ?_) (fun hb => ?_) | (refine aw_c (b := ?_) (by decide) ?_ ?_; rotate_left 1; (· simp only [ev, Zb, reduceIte, Nat.reduceEqDiff, *]; rfl)) | (with_reducible first | refine cw_t ?_ | refine cw_f ?_) | refine cw_if (fun hb => ?_) (fun hb => ?_) | (refine r_ret (vs := ?_) ?_ ?_; rotate_left 1; (· simp only [resV, ev, Zb, reduceIte, Nat.reduceEqDiff, Zj, *]; rfl)) | ((with_reducible refine specGoodDesk_ok _ ?_ ?_ _ _ _ ?_ ?_ ?_ ?_); rotate_left 2; (· first | assumption | exact Sl.old (by assumption) _ | ((try (simp only [deskV, deskL, Z11, Z12, Z1y, Z1h, Za, Z9, Z7, Zc, Zd, Z6, Z3, Z2, Zf, Zi, Nat.reduceAdd, Zh])); first | exact Sl.old (by assumption) _ | exact sl_nilints | exact sl_nilitems | (refine sl_ints (Z4 _) ?_; exact rfl) | (refine sl_items (Z4 _) ?_; exact rfl) | (refine sl_ints0 (Z4 _) ?_; exact rfl) | (refine sl_items0 (Z4 _) ?_; exact rfl))); (· first | assumption | exact Sl.old (by assumption) _ | ((try (simp only [deskV, deskL, Z11, Z12, Z1y, Z1h, Za, Z9, Z7, Zc, Zd, Z6, Z3, Z2, Zf, Zi, Nat.reduceAdd, Zh])); first | exact Sl.old (by assumption) _ | exact sl_nilints | exact sl_nilitems | (refine sl_ints (Z4 _) ?_; exact rfl) | (refine sl_items (Z4 _) ?_; exact rfl) | (refine sl_ints0 (Z4 _) ?_; exact rfl) | (refine sl_items0 (Z4 _) ?_; exact rfl))); (· first | omega | (simp only [Z2]; omega)); (· first | omega | (simp only [Z2]; omega))) | (with_reducible exact l1In_ok _ _ _ _) | ((with_reducible refine l16Has_ok _ _ ?_ _ _ ?_ ?_ ?_); rotate_left 1; (· first | assumption | exact Sl.old (by assumption) _); (· grind); (· grind)) | ((with_reducible refine Z2w ?_); rintro _ _ ⟨rfl, hh⟩; replace hh := hh.symm; subst hh))
        all_goals refine ⟨?_, _, rfl⟩
        all_goals simp only [oneOf, hasRoleV, hasRoleOk, hk, hw1, hr1, Bool.true_and, Z1d, Bool.false_and, Bool.and_false]
    · have hw1 : decide (0 ≤ who ∧ who ≤ (people.length : Int) - 1) = false := decide_eq_false hwq
      clear hwq
      refine Z36 Try.func44 rfl Try.ntmps44 (by simp) (by dsimp only [Try.f44]) ?_
      repeat' (first | ((with_reducible refine eq_go ?_); simp only [stp, ev, ZB, reduceIte, Nat.reduceEqDiff, Z2x, Z13, Zy, ldv, fldA, blt, lenV, Z10, ZH, Zg, Ze, Z14, Zw, Z33, Nat.reduceAdd, Nat.reduceMul, Nat.reduceLeDiff, splice, newB, vcs, Ty.t3, Ty.t24, Ty.t56, Ty.t58, Ty.t77, *]; rfl) | (with_reducible first | refine aw_then ?_ | refine aw_skip ?_ | refine aw_ret ?_ | refine aw_exit ?_ | refine aw_block ?_ | refine xr_reg (by decide +kernel) ?_ | refine xr_nil ?_ | refine k_norm ?_ | refine k_ret ?_ | refine k_exit ?_ | refine b_norm ?_ | refine b_ret ?_ | refine b_exit ?_ | refine b_past (by decide) ?_) | (refine Ty.c40 (args := ?_) (K := ?_) ?_ ?_ ?_; rotate_left 2) | (refine Ty.c84 (args := ?_) (K := ?_) ?_ ?_ ?_; rotate_left 2) | (refine Ty.c96 (args := ?_) (K := ?_) ?_ ?_ ?_; rotate_left 2) | (refine xr_do (v := ?_) (h' := ?_) (by exact rfl) ?_ ?_; rotate_left 2) | (refine xr_st (v := ?_) (h' := ?_) (by exact rfl) ?_ ?_; rotate_left 2) | (refine xr_g (b := ?_) (by exact rfl) ?_ ?_; rotate_left 1; (· simp only [ev, Zb, reduceIte, Nat.reduceEqDiff, Z8, Z5, *]; rfl)) | (with_reducible first | refine gw_tt ?_ | refine gw_ff ?_ | refine gw_tf ?_ | refine gw_ft ?_ | refine gw_un ?_) | refine gw_if (fun hb => ?_) (fun hb => ?_) | (refine aw_c (b := ?_) (by decide) ?_ ?_; rotate_left 1; (· simp only [ev, Zb, reduceIte, Nat.reduceEqDiff, *]; rfl)) | (with_reducible first | refine cw_t ?_ | refine cw_f ?_) | refine cw_if (fun hb => ?_) (fun hb => ?_) | (refine r_ret (vs := ?_) ?_ ?_; rotate_left 1; (· simp only [resV, ev, Zb, reduceIte, Nat.reduceEqDiff, Zj, *]; rfl)) | ((with_reducible refine specGoodDesk_ok _ ?_ ?_ _ _ _ ?_ ?_ ?_ ?_); rotate_left 2; (· first | assumption | exact Sl.old (by assumption) _ | ((try (simp only [deskV, deskL, Z11, Z12, Z1y, Z1h, Za, Z9, Z7, Zc, Zd, Z6, Z3, Z2, Zf, Zi, Nat.reduceAdd, Zh])); first | exact Sl.old (by assumption) _ | exact sl_nilints | exact sl_nilitems | (refine sl_ints (Z4 _) ?_; exact rfl) | (refine sl_items (Z4 _) ?_; exact rfl) | (refine sl_ints0 (Z4 _) ?_; exact rfl) | (refine sl_items0 (Z4 _) ?_; exact rfl))); (· first | assumption | exact Sl.old (by assumption) _ | ((try (simp only [deskV, deskL, Z11, Z12, Z1y, Z1h, Za, Z9, Z7, Zc, Zd, Z6, Z3, Z2, Zf, Zi, Nat.reduceAdd, Zh])); first | exact Sl.old (by assumption) _ | exact sl_nilints | exact sl_nilitems | (refine sl_ints (Z4 _) ?_; exact rfl) | (refine sl_items (Z4 _) ?_; exact rfl) | (refine sl_ints0 (Z4 _) ?_; exact rfl) | (refine sl_items0 (Z4 _) ?_; exact rfl))); (· first | omega | (simp only [Z2]; omega)); (· first | omega | (simp only [Z2]; omega))) | (with_reducible exact l1In_ok _ _ _ _) | ((with_reducible refine l16Has_ok _ _ ?_ _ _ ?_ ?_ ?_); rotate_left 1; (· first | assumption | exact Sl.old (by assumption) _); (· grind); (· grind)) | ((with_reducible refine Z2w ?_); rintro _ _ ⟨rfl, hh⟩; replace hh := hh.symm; subst hh))
      all_goals refine ⟨?_, _, rfl⟩
      all_goals simp only [oneOf, hasRoleV, hasRoleOk, hk, hw1, Bool.true_and, Z1d, Bool.false_and, Bool.and_false]
  · skip
    refine Z36 Try.func44 rfl Try.ntmps44 (by simp) (by dsimp only [Try.f44]) ?_
    repeat' (first | ((with_reducible refine eq_go ?_); simp only [stp, ev, ZB, reduceIte, Nat.reduceEqDiff, Z2x, Z13, Zy, ldv, fldA, blt, lenV, Z10, ZH, Zg, Ze, Z14, Zw, Z33, Nat.reduceAdd, Nat.reduceMul, Nat.reduceLeDiff, splice, newB, vcs, Ty.t3, Ty.t24, Ty.t56, Ty.t58, Ty.t77, *]; rfl) | (with_reducible first | refine aw_then ?_ | refine aw_skip ?_ | refine aw_ret ?_ | refine aw_exit ?_ | refine aw_block ?_ | refine xr_reg (by decide +kernel) ?_ | refine xr_nil ?_ | refine k_norm ?_ | refine k_ret ?_ | refine k_exit ?_ | refine b_norm ?_ | refine b_ret ?_ | refine b_exit ?_ | refine b_past (by decide) ?_) | (refine Ty.c40 (args := ?_) (K := ?_) ?_ ?_ ?_; rotate_left 2) | (refine Ty.c84 (args := ?_) (K := ?_) ?_ ?_ ?_; rotate_left 2) | (refine Ty.c96 (args := ?_) (K := ?_) ?_ ?_ ?_; rotate_left 2) | (refine xr_do (v := ?_) (h' := ?_) (by exact rfl) ?_ ?_; rotate_left 2) | (refine xr_st (v := ?_) (h' := ?_) (by exact rfl) ?_ ?_; rotate_left 2) | (refine xr_g (b := ?_) (by exact rfl) ?_ ?_; rotate_left 1; (· simp only [ev, Zb, reduceIte, Nat.reduceEqDiff, Z8, Z5, *]; rfl)) | (with_reducible first | refine gw_tt ?_ | refine gw_ff ?_ | refine gw_tf ?_ | refine gw_ft ?_ | refine gw_un ?_) | refine gw_if (fun hb => ?_) (fun hb => ?_) | (refine aw_c (b := ?_) (by decide) ?_ ?_; rotate_left 1; (· simp only [ev, Zb, reduceIte, Nat.reduceEqDiff, *]; rfl)) | (with_reducible first | refine cw_t ?_ | refine cw_f ?_) | refine cw_if (fun hb => ?_) (fun hb => ?_) | (refine r_ret (vs := ?_) ?_ ?_; rotate_left 1; (· simp only [resV, ev, Zb, reduceIte, Nat.reduceEqDiff, Zj, *]; rfl)) | ((with_reducible refine specGoodDesk_ok _ ?_ ?_ _ _ _ ?_ ?_ ?_ ?_); rotate_left 2; (· first | assumption | exact Sl.old (by assumption) _ | ((try (simp only [deskV, deskL, Z11, Z12, Z1y, Z1h, Za, Z9, Z7, Zc, Zd, Z6, Z3, Z2, Zf, Zi, Nat.reduceAdd, Zh])); first | exact Sl.old (by assumption) _ | exact sl_nilints | exact sl_nilitems | (refine sl_ints (Z4 _) ?_; exact rfl) | (refine sl_items (Z4 _) ?_; exact rfl) | (refine sl_ints0 (Z4 _) ?_; exact rfl) | (refine sl_items0 (Z4 _) ?_; exact rfl))); (· first | assumption | exact Sl.old (by assumption) _ | ((try (simp only [deskV, deskL, Z11, Z12, Z1y, Z1h, Za, Z9, Z7, Zc, Zd, Z6, Z3, Z2, Zf, Zi, Nat.reduceAdd, Zh])); first | exact Sl.old (by assumption) _ | exact sl_nilints | exact sl_nilitems | (refine sl_ints (Z4 _) ?_; exact rfl) | (refine sl_items (Z4 _) ?_; exact rfl) | (refine sl_ints0 (Z4 _) ?_; exact rfl) | (refine sl_items0 (Z4 _) ?_; exact rfl))); (· first | omega | (simp only [Z2]; omega)); (· first | omega | (simp only [Z2]; omega))) | (with_reducible exact l1In_ok _ _ _ _) | ((with_reducible refine l16Has_ok _ _ ?_ _ _ ?_ ?_ ?_); rotate_left 1; (· first | assumption | exact Sl.old (by assumption) _); (· grind); (· grind)) | ((with_reducible refine Z2w ?_); rintro _ _ ⟨rfl, hh⟩; replace hh := hh.symm; subst hh))
    all_goals refine ⟨?_, _, rfl⟩
    all_goals simp only [oneOf, hasRoleV, hasRoleOk, hk, Bool.true_and, Z1d, Bool.false_and, Bool.and_false]
end Go.Proofs.Ytiddnhhjlipebaa.Am
namespace Go.Proofs.Ytiddnhhjlipebaa.Am
open Go Go.Proofs Go.RowKit
set_option linter.unusedVariables false
set_option linter.unusedSimpArgs false
set_option maxRecDepth 100000
def Item.wf (x : Item) : Prop := (Lit.int .i64 x.cas).wf = true ∧ (Lit.int .i64 x.task).wf = true ∧ (Lit.int .i64 x.role).wf = true ∧ (Lit.int .i64 x.state).wf = true ∧ (Lit.int .i64 x.who).wf = true ∧ (Lit.int .i64 x.till).wf = true
end Go.Proofs.Ytiddnhhjlipebaa.Am
namespace Go.Proofs.Ytiddnhhjlipebaa.Am
open Go Go.Proofs
set_option linter.unusedVariables false
set_option linter.unusedSimpArgs false
set_option maxRecDepth 100000
set_option maxHeartbeats 8000000
theorem ints_af (l : List Int) : ∀ x ∈ (ints l).flatten, af1 x = true := by
  intro x hx
  obtain ⟨r, hr, hx⟩ := List.mem_flatten.1 hx
  obtain ⟨n, _, rfl⟩ := List.mem_map.1 hr
  simp only [List.mem_cons, Z38, or_false] at hx
  subst hx; rfl
theorem items_af (l : List Item) : ∀ x ∈ (l.map Item.cells).flatten, af1 x = true := by
  intro x hx
  obtain ⟨r, hr, hx⟩ := List.mem_flatten.1 hx
  obtain ⟨n, _, rfl⟩ := List.mem_map.1 hr
  simp only [Item.cells, List.mem_cons, Z38, or_false] at hx
  rcases hx with rfl | rfl | rfl | rfl | rfl | rfl <;> rfl
theorem cloneInts_ok (l : List Int) (a : Addr) (c : Nat) (h : Heap) (hs : Sl h (.slice (some a) l.length c) 1 (ints l)) (hl : l.length ≤ 1048576) :
    ACalls Try.prog 0 101 #[.slice (some a) l.length c] h
    fun v h' => v = .slice (some ⟨h.length, 0, some 0⟩) l.length l.length ∧ h' = h ++ [⟨2, 1, (ints l).flatten⟩] := by
  refine acalls_canon _ _ ?_
  have hbs := bsl_empty (h := h) Ty.sl24 Ty.zc3
  have hap := apS_build (i := h.length) Ty.sl24 Ty.zc3 Ty.by3 Ty.sz3 (by rw [get_at0]; rfl) rfl (hs.old [⟨2, 1, []⟩]) (Zv _) (by omega) (by omega)
  by_cases h0 : l.length = 0
  · rw [if_pos h0] at hap
    obtain rfl := List.length_eq_zero_iff.1 h0
    refine Z36 Try.func101 rfl Try.ntmps101 (by simp) (by dsimp only [Try.f101]) ?_
    repeat' (first | ((with_reducible refine eq_go ?_); simp only [stp, ev, ZB, reduceIte, Nat.reduceEqDiff, Z2x, Z13, Zy, blt, lenV, Z10, ZH, Zg, Ze, Z14, Zw, Z33, Nat.reduceAdd, Nat.reduceMul, Nat.reduceLeDiff, splice, newB, vcs, Ty.t3, Ty.t24, *]; rfl) | (with_reducible first | refine aw_then ?_ | refine aw_skip ?_ | refine aw_ret ?_ | refine aw_exit ?_ | refine aw_block ?_ | refine xr_reg (by decide +kernel) ?_ | refine xr_nil ?_ | refine k_norm ?_ | refine k_ret ?_ | refine k_exit ?_ | refine b_norm ?_ | refine b_ret ?_ | refine b_exit ?_ | refine b_past (by decide) ?_) | (refine xr_do (v := ?_) (h' := ?_) (by exact rfl) ?_ ?_; rotate_left 2) | (refine xr_st (v := ?_) (h' := ?_) (by exact rfl) ?_ ?_; rotate_left 2) | (refine aw_c (b := ?_) (by decide) ?_ ?_; rotate_left 1; (· simp only [ev, Zb, reduceIte, Nat.reduceEqDiff, *]; rfl)) | (with_reducible first | refine cw_t ?_ | refine cw_f ?_) | refine cw_if (fun hb => ?_) (fun hb => ?_) | (refine r_ret (vs := ?_) ?_ ?_; rotate_left 1; (· simp only [resV, ev, Zb, reduceIte, Nat.reduceEqDiff, Zj, *]; rfl)))
    refine canon_one (k := 0) ?_ rfl (Z4 _) (.inl ⟨rfl, rfl⟩) (ints_af _)
    exact rfl
  · rw [if_neg h0] at hap
    simp only [Z7, Zc, Zd, Z6, Z3, Z2, Zf] at hap
    refine Z36 Try.func101 rfl Try.ntmps101 (by simp) (by dsimp only [Try.f101]) ?_
    repeat' (first | ((with_reducible refine eq_go ?_); simp only [stp, ev, ZB, reduceIte, Nat.reduceEqDiff, Z2x, Z13, Zy, blt, lenV, Z10, ZH, Zg, Ze, Z14, Zw, Z33, Nat.reduceAdd, Nat.reduceMul, Nat.reduceLeDiff, splice, newB, vcs, Ty.t3, Ty.t24, *]; rfl) | (with_reducible first | refine aw_then ?_ | refine aw_skip ?_ | refine aw_ret ?_ | refine aw_exit ?_ | refine aw_block ?_ | refine xr_reg (by decide +kernel) ?_ | refine xr_nil ?_ | refine k_norm ?_ | refine k_ret ?_ | refine k_exit ?_ | refine b_norm ?_ | refine b_ret ?_ | refine b_exit ?_ | refine b_past (by decide) ?_) | (refine xr_do (v := ?_) (h' := ?_) (by exact rfl) ?_ ?_; rotate_left 2) | (refine xr_st (v := ?_) (h' := ?_) (by exact rfl) ?_ ?_; rotate_left 2) | (refine aw_c (b := ?_) (by decide) ?_ ?_; rotate_left 1; (· simp only [ev, Zb, reduceIte, Nat.reduceEqDiff, *]; rfl)) | (with_reducible first | refine cw_t ?_ | refine cw_f ?_) | refine cw_if (fun hb => ?_) (fun hb => ?_) | (refine r_ret (vs := ?_) ?_ ?_; rotate_left 1; (· simp only [resV, ev, Zb, reduceIte, Nat.reduceEqDiff, Zj, *]; rfl)))
    refine canon_one (k := 1) ?_ (ints_flen _) (Z4 _) (.inr rfl) (ints_af _)
    exact rfl
theorem l1Own_ok (l : List Int) (a : Addr) (c : Nat) (h : Heap) (hs : Sl h (.slice (some a) l.length c) 1 (ints l)) (hl : l.length ≤ 1048576) :
    ACalls Try.prog 0 100 #[.slice (some a) l.length c] h
    fun v h' => v = .slice (some ⟨h.length, 0, some 0⟩) l.length l.length ∧ h' = h ++ [⟨2, 1, (ints l).flatten⟩] := by
  refine acalls_canon _ _ ?_
  have hbs := bsl_empty (h := h) Ty.sl24 Ty.zc3
  have hap := apS_build (i := h.length) Ty.sl24 Ty.zc3 Ty.by3 Ty.sz3 (by rw [get_at0]; rfl) rfl (hs.old [⟨2, 1, []⟩]) (Zv _) (by omega) (by omega)
  by_cases h0 : l.length = 0
  · rw [if_pos h0] at hap
    obtain rfl := List.length_eq_zero_iff.1 h0
    refine Z36 Try.func100 rfl Try.ntmps100 (by simp) (by dsimp only [Try.f100]) ?_
    repeat' (first | ((with_reducible refine eq_go ?_); simp only [stp, ev, ZB, reduceIte, Nat.reduceEqDiff, Z2x, Z13, Zy, blt, lenV, Z10, ZH, Zg, Ze, Z14, Zw, Z33, Nat.reduceAdd, Nat.reduceMul, Nat.reduceLeDiff, splice, newB, vcs, Ty.t3, Ty.t24, *]; rfl) | (with_reducible first | refine aw_then ?_ | refine aw_skip ?_ | refine aw_ret ?_ | refine aw_exit ?_ | refine aw_block ?_ | refine xr_reg (by decide +kernel) ?_ | refine xr_nil ?_ | refine k_norm ?_ | refine k_ret ?_ | refine k_exit ?_ | refine b_norm ?_ | refine b_ret ?_ | refine b_exit ?_ | refine b_past (by decide) ?_) | (refine xr_do (v := ?_) (h' := ?_) (by exact rfl) ?_ ?_; rotate_left 2) | (refine xr_st (v := ?_) (h' := ?_) (by exact rfl) ?_ ?_; rotate_left 2) | (refine aw_c (b := ?_) (by decide) ?_ ?_; rotate_left 1; (· simp only [ev, Zb, reduceIte, Nat.reduceEqDiff, *]; rfl)) | (with_reducible first | refine cw_t ?_ | refine cw_f ?_) | refine cw_if (fun hb => ?_) (fun hb => ?_) | (refine r_ret (vs := ?_) ?_ ?_; rotate_left 1; (· simp only [resV, ev, Zb, reduceIte, Nat.reduceEqDiff, Zj, *]; rfl)))
    refine canon_one (k := 0) ?_ rfl (Z4 _) (.inl ⟨rfl, rfl⟩) (ints_af _)
    exact rfl
  · rw [if_neg h0] at hap
    simp only [Z7, Zc, Zd, Z6, Z3, Z2, Zf] at hap
    refine Z36 Try.func100 rfl Try.ntmps100 (by simp) (by dsimp only [Try.f100]) ?_
    repeat' (first | ((with_reducible refine eq_go ?_); simp only [stp, ev, ZB, reduceIte, Nat.reduceEqDiff, Z2x, Z13, Zy, blt, lenV, Z10, ZH, Zg, Ze, Z14, Zw, Z33, Nat.reduceAdd, Nat.reduceMul, Nat.reduceLeDiff, splice, newB, vcs, Ty.t3, Ty.t24, *]; rfl) | (with_reducible first | refine aw_then ?_ | refine aw_skip ?_ | refine aw_ret ?_ | refine aw_exit ?_ | refine aw_block ?_ | refine xr_reg (by decide +kernel) ?_ | refine xr_nil ?_ | refine k_norm ?_ | refine k_ret ?_ | refine k_exit ?_ | refine b_norm ?_ | refine b_ret ?_ | refine b_exit ?_ | refine b_past (by decide) ?_) | (refine xr_do (v := ?_) (h' := ?_) (by exact rfl) ?_ ?_; rotate_left 2) | (refine xr_st (v := ?_) (h' := ?_) (by exact rfl) ?_ ?_; rotate_left 2) | (refine aw_c (b := ?_) (by decide) ?_ ?_; rotate_left 1; (· simp only [ev, Zb, reduceIte, Nat.reduceEqDiff, *]; rfl)) | (with_reducible first | refine cw_t ?_ | refine cw_f ?_) | refine cw_if (fun hb => ?_) (fun hb => ?_) | (refine r_ret (vs := ?_) ?_ ?_; rotate_left 1; (· simp only [resV, ev, Zb, reduceIte, Nat.reduceEqDiff, Zj, *]; rfl)))
    refine canon_one (k := 1) ?_ (ints_flen _) (Z4 _) (.inr rfl) (ints_af _)
    exact rfl
theorem cloneItems_ok (l : List Item) (a : Addr) (c : Nat) (h : Heap) (hs : Sl h (.slice (some a) l.length c) 6 (l.map Item.cells)) (hl : l.length ≤ 1048576) :
    ACalls Try.prog 0 133 #[.slice (some a) l.length c] h
    fun v h' => v = .slice (some ⟨h.length, 0, some 0⟩) l.length l.length ∧ h' = h ++ [⟨2, 6, (l.map Item.cells).flatten⟩] := by
  refine acalls_canon _ _ ?_
  have hbs := bsl_empty (h := h) Ty.sl56 Ty.zc77
  have hap := apS_build (i := h.length) Ty.sl56 Ty.zc77 Ty.by77 Ty.sz77 (by rw [get_at0]; rfl) rfl (hs.old [⟨2, 6, []⟩]) (Zv _) (by omega) (by omega)
  by_cases h0 : l.length = 0
  · rw [if_pos h0] at hap
    obtain rfl := List.length_eq_zero_iff.1 h0
    refine Z36 Try.func133 rfl Try.ntmps133 (by simp) (by dsimp only [Try.f133]) ?_
    repeat' (first | ((with_reducible refine eq_go ?_); simp only [stp, ev, ZB, reduceIte, Nat.reduceEqDiff, Z2x, Z13, Zy, blt, lenV, Z10, ZH, Zg, Ze, Z14, Zw, Z33, Nat.reduceAdd, Nat.reduceMul, Nat.reduceLeDiff, splice, newB, vcs, Ty.t3, Ty.t56, Ty.t77, *]; rfl) | (with_reducible first | refine aw_then ?_ | refine aw_skip ?_ | refine aw_ret ?_ | refine aw_exit ?_ | refine aw_block ?_ | refine xr_reg (by decide +kernel) ?_ | refine xr_nil ?_ | refine k_norm ?_ | refine k_ret ?_ | refine k_exit ?_ | refine b_norm ?_ | refine b_ret ?_ | refine b_exit ?_ | refine b_past (by decide) ?_) | (refine xr_do (v := ?_) (h' := ?_) (by exact rfl) ?_ ?_; rotate_left 2) | (refine xr_st (v := ?_) (h' := ?_) (by exact rfl) ?_ ?_; rotate_left 2) | (refine aw_c (b := ?_) (by decide) ?_ ?_; rotate_left 1; (· simp only [ev, Zb, reduceIte, Nat.reduceEqDiff, *]; rfl)) | (with_reducible first | refine cw_t ?_ | refine cw_f ?_) | refine cw_if (fun hb => ?_) (fun hb => ?_) | (refine r_ret (vs := ?_) ?_ ?_; rotate_left 1; (· simp only [resV, ev, Zb, reduceIte, Nat.reduceEqDiff, Zj, *]; rfl)))
    refine canon_one (k := 0) ?_ rfl (Z4 _) (.inl ⟨rfl, rfl⟩) (items_af _)
    exact rfl
  · rw [if_neg h0] at hap
    simp only [Z7, Zc, Zd, Z6, Z3, Z2, Zf] at hap
    refine Z36 Try.func133 rfl Try.ntmps133 (by simp) (by dsimp only [Try.f133]) ?_
    repeat' (first | ((with_reducible refine eq_go ?_); simp only [stp, ev, ZB, reduceIte, Nat.reduceEqDiff, Z2x, Z13, Zy, blt, lenV, Z10, ZH, Zg, Ze, Z14, Zw, Z33, Nat.reduceAdd, Nat.reduceMul, Nat.reduceLeDiff, splice, newB, vcs, Ty.t3, Ty.t56, Ty.t77, *]; rfl) | (with_reducible first | refine aw_then ?_ | refine aw_skip ?_ | refine aw_ret ?_ | refine aw_exit ?_ | refine aw_block ?_ | refine xr_reg (by decide +kernel) ?_ | refine xr_nil ?_ | refine k_norm ?_ | refine k_ret ?_ | refine k_exit ?_ | refine b_norm ?_ | refine b_ret ?_ | refine b_exit ?_ | refine b_past (by decide) ?_) | (refine xr_do (v := ?_) (h' := ?_) (by exact rfl) ?_ ?_; rotate_left 2) | (refine xr_st (v := ?_) (h' := ?_) (by exact rfl) ?_ ?_; rotate_left 2) | (refine aw_c (b := ?_) (by decide) ?_ ?_; rotate_left 1; (· simp only [ev, Zb, reduceIte, Nat.reduceEqDiff, *]; rfl)) | (with_reducible first | refine cw_t ?_ | refine cw_f ?_) | refine cw_if (fun hb => ?_) (fun hb => ?_) | (refine r_ret (vs := ?_) ?_ ?_; rotate_left 1; (· simp only [resV, ev, Zb, reduceIte, Nat.reduceEqDiff, Zj, *]; rfl)))
    refine canon_one (k := 1) ?_ (items_flen _) (Z4 _) (.inr rfl) (items_af _)
    exact rfl
end Go.Proofs.Ytiddnhhjlipebaa.Am
